import Derived.Test.YtiddjpjlpmbegaaGreatDoorMc
import Derived.Orders
set_option linter.unusedVariables false
set_option linter.unusedSimpArgs false
set_option linter.unnecessarySimpa false
set_option autoImplicit false
set_option linter.unusedVariables false
set_option linter.unusedSimpArgs false
namespace Go.DM
open Go.RowKit
variable {P : Program} {φ ψ : Emb} {w0 w w' : World} {h h' : HS}

/-- what is appended: its elements, read in any world that differs in the count of draws alone -/
structure SrcR (P : Program) (φ : Emb) (w : World) (size : Nat) (x : Value) (l : List DV) (cnt : Nat) (new : Array Value) : Prop where
  len : (Builtin.lenOf x).run P w = .ok cnt w
  cells : ∀ m, (Builtin.firstCells size cnt x).run P { w with drawn := m } = .ok new { w with drawn := m }
  rel : VRL P φ l new.toList
  lenl : l.length = cnt * size
theorem cell_drawn (m : Nat) (a : Addr) : ({ w with drawn := m } : World).cell? a = w.cell? a := rfl
theorem src_slice {b o n cap sz : Nat} {ex : Bool} {v : Value} {l : List DV} (H : HR P w0 φ h w) (hv : VR P φ (.slice b o n cap sz ex) v) {size : Nat} (hl : DM.loadN h b o (n * size) = some l) : ∃ new, SrcR P φ w size v l n new := by
  simp only [VR] at hv
  obtain ⟨rb, ro, rcap, h1, h2, h3, h4, h5⟩ := hv
  have hlen : l.length = n * size := by
    unfold DM.loadN at hl
    split at hl
    · exact (T.getL_some _ _ _ _ hl).1
    · cases hl
  have hcells : ∃ vs : List Value, vs.length = n * size ∧ (∀ j, j < n * size → w.cell? ⟨rb, ro + j, none⟩ = vs[j]?) ∧ VRL P φ l vs := by
    rcases h5 with h5 | ⟨sh, h5, h6, _⟩
    · have h0 : n * size = 0 := by have : n = 0 := by omega
                                   subst this; simp
      have : l = [] := List.eq_nil_of_length_eq_zero (by omega)
      subst this
      exact ⟨[], by simp [h0], fun j hj => by omega, VRL.nil⟩
    · obtain ⟨vs, q1, q2, q3⟩ := H.loadL h5 hl
      subst h6
      exact ⟨vs, q1, q2, q3⟩
  obtain ⟨vs, q1, q2, q3⟩ := hcells
  refine ⟨vs.toArray, by rw [h1]; rfl, fun m => ?_, by simpa using q3, hlen⟩
  rw [h1]
  exact run_loadCells rb ro (n * size) vs q1 (fun j hj => by rw [cell_drawn]; exact q2 j hj)
theorem src_str {s : ByteArray} {l : List Nat} (hs : s.data.toList.map UInt8.toNat = l) : SrcR P φ w 1 (.string s) (ofBytes l) l.length (s.data.map fun b => Value.int .u8 b.toNat) := by
  have hlen := str_size hs
  refine ⟨by rw [hlen]; rfl, fun m => ?_, ?_, by rw [ofBytes_len, Nat.mul_one]⟩
  · simp only [Builtin.firstCells, Sem.run_pure]
    congr 1
    rw [hlen]
    congr 1
    apply Array.ext_getElem?
    intro i
    simp [ByteArray.data_extract]

  · rw [bytes_values]; exact VRL_ofBytes hs
theorem src_nil {size : Nat} : SrcR P φ w size (.slice none 0 0) [] 0 #[] := ⟨rfl, fun _ => rfl, VRL.nil, by simp⟩

theorem new_cells {l m : List DV} {vs us : Array Value} (h1 : VRL P φ l vs.toList) (h2 : VRL P φ m us.toList) (rest : Array Value) : ∀ i, i < (l ++ m).length → (vs ++ us ++ rest)[i]? = (vs.toList ++ us.toList)[i]? := by
  intro i hi
  have e1 := VRL.length h1
  have e2 := VRL.length h2
  simp at e1 e2 hi
  rw [Array.getElem?_append_left (by simp; omega)]
  rw [← Array.getElem?_toList, Array.toList_append]
theorem appendV_sim {ts : Array TypeId} {t e ty : TypeId} {size bytes cnt : Nat} {z ds : DV} {vs vx : Value} {l : List DV} {new : Array Value} (A : AppCtx P ts t e size bytes z) (H : HR P w0 φ h w) (hs : VR P φ ds vs) (hsz : szOk size ds = true)
    (S : SrcR P φ w size vx l cnt new) (hroom : cnt = 0 ∨ roomOk ds cnt bytes = true) : OutR P w0 φ h w (appendD h size ds l cnt) (((Builtin.append_ ts ty #[vs, vx]).run P w).andThen fun v w => .ok (.value v) w) := by
  have hw : ({ w with drawn := w.drawn } : World) = w := rfl
  have Hd := H.drew (w.drawn + 1)
  have hnew0 : (Builtin.firstCells size cnt vx).run P w = .ok new w := S.cells w.drawn
  have hnl : new.size = cnt * size := by have := VRL.length S.rel; simp at this; rw [← this]; exact S.lenl
  unfold appendD
  split
  · -- to the nil slice
    simp only [VR] at hs
    subst hs
    split
    · -- nothing
      have hr : ((Builtin.append_ ts ty #[.slice none 0 0, vx]).run P w).andThen (fun v w => .ok (Next.value v) w) = .ok (.value (.slice none 0 0)) w := by
        have : (Builtin.append_ ts ty #[.slice none 0 0, vx]).run P w = .ok (.slice none 0 0) w := by
          unfold Builtin.append_
          have h0 : (#[Value.slice none 0 0, vx] : Array Value)[0]? = some (.slice none 0 0) := rfl
          have h1 : (#[Value.slice none 0 0, vx] : Array Value)[1]? = some vx := rfl
          simp only [A.t0, h0, h1]
          rcases notInt_cases A.ni with h2 | ⟨xt, d, h2, h3, h4⟩
          · simp only [h2, Sem.run_bind, run_underlying A.ut, Result.andThen_ok, run_sizeOf A.se, Bool.false_eq_true, if_false, S.len, Nat.zero_add, Nat.le_refl, if_true, Bool.not_false, hnew0, Sem.run_pure]
          · simp only [h2, Sem.run_bind, run_underlying A.ut, run_underlying h3, intMatch h4, Result.andThen_ok, run_sizeOf A.se, Bool.false_eq_true, if_false, S.len, Nat.zero_add, Nat.le_refl, if_true, Bool.not_false, hnew0, Sem.run_pure]
        rw [this]; rfl
      exact hr ▸ ValR.pure H (by simp only [VR])
    · rename_i hne
      have hcnt : 0 < cnt := Nat.pos_of_ne_zero (fun e => hne e)
      rcases hroom with h0 | hroom
      · omega
      simp only [roomOk, Bool.and_eq_true, lenD] at hroom
      have k1 := Nat.le_of_ble_eq_true hroom.1
      have k2 := Nat.le_of_ble_eq_true hroom.2
      obtain ⟨cap, rest, r1, r2, r3⟩ := app_realloc (ty := ty) (old := #[]) (new := new) A (base := none) (sLen := 0) (sCap := 0) S.len (by omega) k1 k2 (fun m => rfl) S.cells
      rw [r3]
      simp only [Nat.zero_add] at r1 r2
      refine newSl_sim' Hd S.rel (#[] ++ new ++ rest) e (0, 0) (.inl rfl) (fun i hi => ?_) ?_ (Nat.le_refl _) (rcap := cap) r1 (by simp) ?_ ?_
      · have := new_cells (P := P) (φ := φ) (l := []) (vs := #[]) VRL.nil S.rel rest i (by simpa using hi)
        simpa using this
      · simp; rw [S.lenl, hnl]; omega
      · simp; rw [hnl, r2, ← Nat.add_mul]; apply Nat.le_of_eq; congr 1; omega
      · simp [Nat.zero_add]
  · rename_i b o len cap sz ex
    simp only [szOk] at hsz
    have hsz : sz = size := Nat.eq_of_beq_eq_true hsz
    subst hsz
    have hs0 := hs
    simp only [VR] at hs
    obtain ⟨rb, ro, rcap, h1, h2, h3, h4, h5⟩ := hs
    subst h1
    split
    · -- nothing
      have hnl0 : new = #[] := by have : new.size = 0 := by rw [hnl]; simp
                                  exact Array.eq_empty_of_size_eq_zero this
      have hr := app_inplace (P := P) (ty := ty) (w := w) (w' := w) A (base := ⟨rb, ro, none⟩) (sLen := len) (sCap := rcap) S.len hnew0 (by omega) (by rw [hnl0]; rfl)
      rw [hr]
      exact ValR.pure H hs0
    · rename_i hne
      have hcnt : 0 < cnt := Nat.pos_of_ne_zero (fun e => hne e)
      rcases hroom with h0 | hroom
      · omega
      simp only [roomOk, Bool.and_eq_true, lenD] at hroom
      have k1 := Nat.le_of_ble_eq_true hroom.1
      have k2 := Nat.le_of_ble_eq_true hroom.2
      split
      · -- there is room for sure
        rename_i hle
        have hle : len + cnt ≤ cap := Nat.le_of_ble_eq_true hle
        rcases h5 with h5 | ⟨sh, h5, h6, h7⟩
        · omega
        subst h6
        split
        · rename_i h' hst
          obtain ⟨q1, q2, q3, q4, q5⟩ := H.storeN h5 hst S.rel
          have hr := app_inplace (P := P) (ty := ty) (w := w) A (base := ⟨rb, sh + o, none⟩) (sLen := len) (sCap := rcap) S.len hnew0 (by omega) (by rw [add_at, Nat.add_assoc]; exact q1)
          rw [hr]
          exact ⟨φ, _, _, _, rfl, .inl rfl, Emb.le_refl φ, q2, ⟨rb, sh + o, rcap, rfl, hle, h3, h4, .inr ⟨sh, h5, rfl, h7⟩⟩, by rw [q3]; exact Nat.le_refl _, fun c _ hn => ⟨q5 c hn, hn⟩⟩
        · trivial
      · rename_i hnle
        have hnle : ¬ len + cnt ≤ cap := fun e => by rw [Nat.ble_eq_true_of_le e] at hnle; cases hnle
        split
        · -- there is none for sure
          have hrc := h4 rfl
          split
          · rename_i old hold
            obtain ⟨oldA, SO⟩ := src_slice H hs0 hold
            obtain ⟨cap', rest, r1, r2, r3⟩ := app_realloc (ty := ty) (old := oldA) (new := new) A (base := some ⟨rb, ro, none⟩) (sLen := len) (sCap := rcap) S.len (by omega) k1 k2 SO.cells S.cells
            rw [r3]
            have hol : oldA.size = len * sz := by have := VRL.length SO.rel; simp at this; rw [← this]; exact SO.lenl
            refine newSl_sim' Hd (vs := oldA.toList ++ new.toList) (SO.rel.append S.rel) (oldA ++ new ++ rest) e (0, 0) (.inl rfl) (new_cells SO.rel S.rel rest) ?_ (Nat.le_refl _) (rcap := cap') r1 (by simp) ?_ rfl
            · simp; rw [SO.lenl, S.lenl, hol, hnl]; omega
            · simp; rw [hol, hnl, r2, ← Nat.add_mul, ← Nat.add_mul]; apply Nat.le_of_eq; congr 1; omega
          · trivial
        · split
          case h_2 => trivial
          rename_i hc2
          simp only [Bool.and_eq_true] at hc2
          obtain ⟨hpos, hok⟩ := hc2
          have hpos : 0 < cap := by simpa [Nat.blt_eq] using hpos
          rcases h5 with h5 | ⟨sh, h5, h6, h7⟩
          · omega
          subst h6
          obtain ⟨heap, next, gs⟩ := h
          simp only
          split
          case h_2 => trivial
          rename_i c n kin hgb
          -- the row may have room, or not
          unfold appendNat
          split
          · trivial
          rename_i old hold
          have hloadN : DM.loadN (.mk heap next gs) b o (len * sz) = some old := by
            show (match heap.get b with | some (.cells c _ _) => c.getL (len * sz) o | _ => none) = some old
            rw [hgb]; exact hold
          obtain ⟨oldA, SO⟩ := src_slice H hs0 hloadN
          have hol : oldA.size = len * sz := by have := VRL.length SO.rel; simp at this; rw [← this]; exact SO.lenl
          obtain ⟨ovs, ov1, ov2, ov3⟩ := H.loadL h5 hloadN
          obtain ⟨rc, elm, fz, b1, b2, b3, b4⟩ := H.objs b rb sh _ h5 hgb
          have hd := H.dom b rb sh h5
          have hllen : l.length = cnt * sz := S.lenl
          have holen : old.length = len * sz := SO.lenl
          have hadd : (len + cnt) * sz = len * sz + cnt * sz := Nat.add_mul _ _ _
          have main : ∀ (heap1 : T DObj) (gs' : T (List Nat)) (knew : Option (Nat × Nat)), AppD φ heap heap1 next gs' rb sh o (o + len * sz) (T.setL (old ++ l) .nil 0) (old ++ l).length knew →
              OutR P w0 φ (.mk heap next gs) w (.val (.slice next 0 (len + cnt) (len + cnt) sz false) (.mk (heap1.set next (.cells (T.setL (old ++ l) .nil 0) (old ++ l).length knew)) (Nat.succ next) gs'))
                (((Builtin.append_ ts ty #[.slice (some ⟨rb, sh + o, none⟩) len rcap, vx]).run P w).andThen fun v w => .ok (.value v) w) := by
            intro heap1 gs' knew AD
            by_cases hfit : len + cnt ≤ rcap
            · -- in place
              have hmul : (len + cnt) * sz ≤ rcap * sz := Nat.mul_le_mul_right _ hfit
              obtain ⟨⟨i1, i2, i3, i4, i5⟩, j2, c', g1, g2, g3⟩ := putCells_spec rb elm fz new.toList (sh + o + len * sz) w rc b1
              have hrun := run_storeCells (P := P) rb elm fz (sh + o + len * sz) new.toList 0 w rc b1 (VRL.plain hok S.rel) (by simp; rw [hnl]; omega) (fun j hj => by
                simp at hj
                exact frozen_beyond b1 b3 (by rw [hnl] at hj; omega))
              rw [Nat.add_zero] at hrun
              have hr := app_inplace (P := P) (ty := ty) (w := w) A (base := ⟨rb, sh + o, none⟩) (sLen := len) (sCap := rcap) S.len hnew0 hfit (by rw [add_at]; exact hrun)
              rw [hr]
              have hle : φ.le (φ.put next (rb, sh + o) (φ.sz rb)) := Emb.le_put H.nextNone (fun c y _ hy => by rw [hy])
              have hbelow : Below w0.heap.size w (putCells rb (sh + o + len * sz) new.toList w) := ⟨i1, i2, i3, Nat.le_of_eq i5.symm, fun k hk => j2 k (by omega)⟩
              have hszr : ∀ r, (φ.put next (rb, sh + o) (φ.sz rb)).sz r = φ.sz r := by
                intro r
                rw [put_sz]
                by_cases h : r = rb
                · rw [if_pos h, h]
                · rw [if_neg h]
              obtain ⟨HN, KN⟩ := H.appD (w' := putCells rb (sh + o + len * sz) new.toList w) (r' := rb) (s' := sh + o) (m' := φ.sz rb) AD hle hbelow ⟨hd.2.1, by rw [i5]; exact hd.2.2⟩
                (fun c1 r s o1 e1 e2 ho => by
                  by_cases hrr : r = rb
                  · subst hrr
                    obtain ⟨cc, nn, g, sg, s0, n1, n2, n3, n4⟩ := AD.near c1 o1 s e2 e1
                    subst n1
                    obtain ⟨rc1, el1, fz1, m1, m2, m3, m4⟩ := ho
                    rw [b1] at m1
                    simp only [Option.some.injEq, Obj.cells.injEq] at m1
                    obtain ⟨rfl, rfl, rfl⟩ := m1
                    refine ⟨c', elm, fz, g1, ⟨by rw [g2]; exact m2.1, by rw [g2, hszr]; exact m2.2⟩, by rw [g2]; exact m3, fun i d hi => ?_⟩
                    obtain ⟨p1, v, p2, p3⟩ := m4 i d hi
                    refine ⟨p1, v, ?_, VR.mono hle _ _ p3⟩
                    rw [g3, if_neg (by omega)]
                    exact p2
                  · exact ho.mono hle (hszr r) (j2 r hrr))
                (by
                  refine ⟨c', elm, fz, g1, ⟨?_, by rw [g2, hszr]; exact b2.2⟩, by rw [g2]; exact b3, fun i d hi => ?_⟩
                  · have := b2.2
                    rw [g2]
                    simp
                    omega
                  · rw [get_cellsT] at hi
                    have hilt : i < (old ++ l).length := (List.getElem?_eq_some_iff.1 hi).1
                    refine ⟨hilt, ?_⟩
                    simp only [List.length_append] at hilt
                    rw [List.getElem?_append] at hi
                    by_cases hio : i < old.length
                    · rw [if_pos hio] at hi
                      obtain ⟨v, p1, p2⟩ := VRL.get ov3 hi
                      refine ⟨v, ?_, VR.mono hle _ _ p2⟩
                      have := ov2 i (by omega)
                      rw [p1] at this
                      simp only [World.cell?, b1, Option.isSome_none, Bool.false_eq_true, if_false] at this
                      rw [g3, if_neg (by omega)]
                      exact this
                    · rw [if_neg hio] at hi
                      obtain ⟨v, p1, p2⟩ := VRL.get S.rel hi
                      refine ⟨v, ?_, VR.mono hle _ _ p2⟩
                      have := b2.2
                      rw [g3, if_pos (by simp; rw [hnl]; omega), show sh + o + i - (sh + o + len * sz) = i - old.length from by omega]
                      exact p1)
                (fun c1 s1 o1 e1 e2 => by
                  obtain ⟨cc, nn, g, sg, s0, n1, n2, n3, n4⟩ := AD.near c1 o1 s1 e2 e1
                  exact ⟨cc, nn, _, _, g, sg, s0, n1, by rw [n2], n3⟩)
              refine ⟨_, _, _, _, rfl, .inl rfl, hle, HN, ⟨rb, sh + o, rcap, rfl, Nat.le_refl _, hfit, by simp, .inr ⟨sh + o, put_self, rfl, ?_⟩⟩, KN⟩
              rw [hszr]
              exact h7
            · -- a new row
              obtain ⟨cap', rest, r1, r2, r3⟩ := app_realloc (ty := ty) (old := oldA) (new := new) A (base := some ⟨rb, sh + o, none⟩) (sLen := len) (sCap := rcap) S.len hfit k1 k2 SO.cells S.cells
              rw [r3]
              have hsize : (oldA ++ new ++ rest).size = cap' * sz := by
                simp; rw [hol, hnl, r2, ← Nat.add_mul, ← Nat.add_mul]; congr 1; omega
              have hle : φ.le (φ.put next (w.heap.size, 0) (oldA ++ new ++ rest).size) := Emb.le_put H.nextNone (H.newSz _)
              have hpush : ∀ k, k < w.heap.size → ({ w with drawn := w.drawn + 1, heap := w.heap.push (.cells (oldA ++ new ++ rest) e) } : World).heap[k]? = w.heap[k]? := fun k hk => by
                show (w.heap.push _)[k]? = _
                rw [Array.getElem?_push, if_neg (by omega)]
              have hbelow : Below w0.heap.size w { w with drawn := w.drawn + 1, heap := w.heap.push (.cells (oldA ++ new ++ rest) e) } :=
                ⟨rfl, rfl, rfl, by simp, fun k hk => hpush k (Nat.lt_of_lt_of_le hk H.below.size)⟩
              obtain ⟨HN, KN⟩ := H.appD (w' := { w with drawn := w.drawn + 1, heap := w.heap.push (.cells (oldA ++ new ++ rest) e) }) (r' := w.heap.size) (s' := 0) (m' := (oldA ++ new ++ rest).size) AD hle hbelow ⟨H.below.size, by simp⟩
                (fun c1 r s o1 e1 e2 ho => by
                  have hr := (H.dom c1 r s e1).2.2
                  exact ho.mono hle (by rw [put_sz, if_neg (by simp only; omega)]) (hpush r hr))
                (OR_row (vs := oldA.toList ++ new.toList) (VRL.mono hle _ _ (SO.rel.append S.rel)) w.heap.size (oldA ++ new ++ rest) e (0, 0) (by
                  show (w.heap.push _)[w.heap.size]? = _
                  simp) (.inl rfl) (new_cells SO.rel S.rel rest) (by simp; omega) (by rw [put_sz, if_pos rfl]) knew)
                (fun c1 s1 o1 e1 e2 => by
                  have := (H.dom c1 _ _ e1).2.2
                  omega)
              exact ⟨_, _, _, _, rfl, .inl rfl, hle, HN, ⟨w.heap.size, 0, cap', rfl, Nat.le_refl _, r1, by simp, .inr ⟨0, put_self, by simp, by rw [put_sz, if_pos rfl, hsize]; omega⟩⟩, KN⟩
          obtain ⟨AD1, AD2, AD3⟩ := appD_of (o := o) (p := o + len * sz) H h5 hgb (T.setL (old ++ l) .nil 0) (old ++ l).length
          split
          · split
            · rename_i hnp
              exact main _ _ _ (AD1 rfl (Nat.le_of_ble_eq_true hnp))
            · exact main _ _ _ (AD2 rfl)
          · rename_i g s
            split
            · trivial
            · rename_i ms hms
              exact main _ _ _ (by
                have := AD3 g s ms rfl hms
                rw [← Nat.add_assoc] at this
                exact this)
  · trivial
end Go.DM
set_option autoImplicit false
set_option linter.unusedVariables false
set_option linter.unusedSimpArgs false
namespace Go.DM
open Go.RowKit
variable {P : Program} {φ ψ : Emb} {w0 w w' : World} {h h' : HS}

theorem run_builtin {ρ : Operand → Value} {o : Oper} {c : Call} {b : Builtin} (ho : o.op = .call c) (hc : c.callee = .builtin b) :
    ∃ consts, (execOp ρ o).run P w = (builtin b c.argTypes o.type consts (c.args.map ρ)).run P w := by
  simp only [execOp, ho, resolve, hc, invoke, Sem.run_bind, Sem.run_pure, Result.andThen_ok]
  exact ⟨_, rfl⟩
theorem args1 {ρ : Operand → Value} {a : Array Operand} {x : Operand} (h : a.toList = [x]) : a.map ρ = #[ρ x] := by
  have : a = #[x] := by rw [← Array.toArray_toList (xs := a), h]
  subst this; simp
theorem args2 {ρ : Operand → Value} {a : Array Operand} {x y : Operand} (h : a.toList = [x, y]) : a.map ρ = #[ρ x, ρ y] := by
  have : a = #[x, y] := by rw [← Array.toArray_toList (xs := a), h]
  subst this; simp
theorem Sem.value_run (s : Sem Value) : (do let v ← s; pure (.value v) : Sem Next).run P w = (s.run P w).andThen fun v w => .ok (.value v) w := by
  rw [Sem.run_bind]; rfl
theorem EntR_len {l : List (DV × DV)} {a : Array MapEntry} (h : EntR P φ l a.toList) : l.length = a.size := by
  have : ∀ (l : List (DV × DV)) (es : List MapEntry), EntR P φ l es → l.length = es.length := by
    intro l
    induction l with
    | nil => intro es h; simp only [EntR] at h; subst h; rfl
    | cons x xs ih => intro es h; simp only [EntR] at h; obtain ⟨e, es', rfl, _, _, h4⟩ := h; simp [ih es' h4]
  simpa using this l a.toList h
theorem run_getObj {b : Nat} {o : Obj} (hc : ∀ c e f, o ≠ .cells c e f) (e : w.heap[b]? = some o) : (getObj b).run P w = .ok o w := by
  simp only [getObj, Sem.run, e]
theorem xLen_sim {ts : Array TypeId} {ty : TypeId} {d : DV} {v : Value} (H : HR P w0 φ h w) (hv : VR P φ d v) :
    OutR P w0 φ h w (xLen P h ts d) (((Builtin.len_ ts ty #[v]).run P w).andThen fun v w => .ok (.value v) w) := by
  unfold xLen
  cases h0 : ts[0]? with
  | none => trivial
  | some t =>
    simp only
    have e1 : (#[v] : Array Value)[0]? = some v := rfl
    split
    · rename_i s hu
      simp only [VR] at hv
      obtain ⟨b, rfl, hs⟩ := hv
      refine outN_sim H ?_
      rw [str_size hs]
      simp only [Builtin.len_, h0, e1, Sem.run_bind, run_underlying hu, Result.andThen_ok, Sem.run_pure]
      rfl
    · rename_i e b o n c sz ex hu
      simp only [VR] at hv
      obtain ⟨rb, ro, rcap, rfl, _⟩ := hv
      refine outN_sim H ?_
      simp only [Builtin.len_, h0, e1, Sem.run_bind, run_underlying hu, Result.andThen_ok, Sem.run_pure]
      rfl
    · rename_i e hu
      simp only [VR] at hv
      subst hv
      refine outN_sim H ?_
      simp only [Builtin.len_, h0, e1, Sem.run_bind, run_underlying hu, Result.andThen_ok, Sem.run_pure]
      rfl
    · rename_i k e hu
      simp only [VR] at hv
      subst hv
      refine outN_sim H ?_
      simp only [Builtin.len_, h0, e1, Sem.run_bind, run_underlying hu, Result.andThen_ok, Sem.run_pure]
      rfl
    · rename_i k e r hu
      simp only [VR] at hv
      obtain ⟨rr, h1, rfl⟩ := hv
      split
      · rename_i es hg
        obtain ⟨_, res, clock, h2, h3, _⟩ := H.objs r rr 0 _ h1 (getO_heap hg)
        refine outN_sim H ?_
        rw [EntR_len h3]
        simp only [Builtin.len_, h0, e1, Sem.run_bind, run_underlying hu, Result.andThen_ok, Sem.run_pure, run_getObj (by intro c e f h; cases h) h2]
        simp [goInt]
      · trivial
    · trivial
theorem xCap_sim {ts : Array TypeId} {ty : TypeId} {d : DV} {v : Value} (H : HR P w0 φ h w) (hv : VR P φ d v) :
    OutR P w0 φ h w (xCap P h ts d) (((Builtin.cap_ ts ty #[v]).run P w).andThen fun v w => .ok (.value v) w) := by
  unfold xCap
  cases h0 : ts[0]? with
  | none => trivial
  | some t =>
    simp only
    have e1 : (#[v] : Array Value)[0]? = some v := rfl
    split
    · rename_i e hu
      simp only [VR] at hv
      subst hv
      refine outN_sim H ?_
      simp only [Builtin.cap_, h0, e1, Sem.run_bind, run_underlying hu, Result.andThen_ok, Sem.run_pure]
      rfl
    · rename_i e b o n c sz hu
      simp only [VR] at hv
      obtain ⟨rb, ro, rcap, rfl, _, _, h4, _⟩ := hv
      obtain rfl := h4 trivial
      refine outN_sim H ?_
      simp only [Builtin.cap_, h0, e1, Sem.run_bind, run_underlying hu, Result.andThen_ok, Sem.run_pure]
      rfl
    · trivial
theorem xMax_sim {ts : Array TypeId} {ty : TypeId} {d e : DV} {v u : Value} (H : HR P w0 φ h w) (hv : VR P φ d v) (hu : VR P φ e u) :
    OutR P w0 φ h w (xMax h d e) (((Builtin.max_ ts ty #[v, u]).run P w).andThen fun v w => .ok (.value v) w) := by
  unfold xMax
  split
  · rename_i k a k' b
    simp only [VR] at hv hu
    subst hv; subst hu
    have : (Builtin.max_ ts ty #[.int k a, .int k' b]).run P w = .ok (.int k (if b > a then b else a)) w := by
      simp [Builtin.max_, Builtin.max2, List.foldlM]
    rw [this]
    refine outI_sim H ?_
    rw [intLt_eq]
    by_cases hab : a < b
    · simp [hab]
    · simp [hab]
  · trivial
theorem xMin_sim {ts : Array TypeId} {ty : TypeId} {d e : DV} {v u : Value} (H : HR P w0 φ h w) (hv : VR P φ d v) (hu : VR P φ e u) :
    OutR P w0 φ h w (xMin h d e) (((Builtin.min_ ts ty #[v, u]).run P w).andThen fun v w => .ok (.value v) w) := by
  unfold xMin
  split
  · rename_i k a k' b
    simp only [VR] at hv hu
    subst hv; subst hu
    have : (Builtin.min_ ts ty #[.int k a, .int k' b]).run P w = .ok (.int k (if b < a then b else a)) w := by
      simp [Builtin.min_, Builtin.min2, List.foldlM]
    rw [this]
    refine outI_sim H ?_
    rw [intLt_eq]
    by_cases hab : b < a
    · simp [hab]
    · simp [hab]
  · trivial
end Go.DM
set_option autoImplicit false
set_option linter.unusedVariables false
set_option linter.unusedSimpArgs false
namespace Go.DM
open Go.RowKit
variable {P : Program} {φ ψ : Emb} {w0 w w' : World} {h h' : HS}

theorem elemSize_of {t : TypeId} {n : Nat} (e : elemSize P t = some n) : ∃ el, under P t = some (.slice el) ∧ sizeT P el = some n := by
  unfold elemSize at e
  split at e
  · rename_i el hu; exact ⟨el, hu, e⟩
  · cases e
theorem run_copy {ts : Array TypeId} {ty t e : TypeId} {size n c k m : Nat} {base : Option Addr} {vx : Value} {cells : Array Value} (h0 : ts[0]? = some t) (hu : under P t = some (.slice e)) (hs : sizeT P e = some size)
    (hl : (Builtin.lenOf vx).run P w = .ok k w) (hm : Nat.min k n = m) (hf : (Builtin.firstCells size m vx).run P w = .ok cells w)
    (hst : match base with | some a => (storeCells a cells.toList).run P w = .ok () w' | none => w' = w) :
    (Builtin.copy_ ts ty #[.slice base n c, vx]).run P w = .ok (.int .i64 m) w' := by
  have e0 : (#[Value.slice base n c, vx] : Array Value)[0]? = some (.slice base n c) := rfl
  have e1 : (#[Value.slice base n c, vx] : Array Value)[1]? = some vx := rfl
  cases base with
  | none =>
    simp only at hst
    subst hst
    simp only [Builtin.copy_, h0, e0, e1, Sem.run_bind, run_underlying hu, run_sizeOf hs, hl, hm, hf, Result.andThen_ok, Sem.run_pure, goInt]
  | some a =>
    simp only at hst
    simp only [Builtin.copy_, h0, e0, e1, Sem.run_bind, run_underlying hu, run_sizeOf hs, hl, hm, hf, Result.andThen_ok, Sem.run_pure, goInt, hst]
theorem first_zero {size : Nat} {b o n cap sz : Nat} {ex : Bool} {d : DV} {v : Value} (hd : (∃ b o n cap sz ex, d = .slice b o n cap sz ex) ∨ d = .nils ∨ ∃ s, d = .str s) (hv : VR P φ d v) :
    ∃ cells : Array Value, (Builtin.firstCells size 0 v).run P w = .ok cells w ∧ cells.toList = [] := by
  rcases hd with ⟨b, o, n, cap, sz, ex, rfl⟩ | rfl | ⟨s, rfl⟩
  · simp only [VR] at hv
    obtain ⟨rb, ro, rcap, rfl, _⟩ := hv
    refine ⟨#[], ?_, rfl⟩
    simp only [Builtin.firstCells, Nat.zero_mul]
    exact run_loadCells rb ro 0 [] rfl (fun j hj => absurd hj (Nat.not_lt_zero j))
  · simp only [VR] at hv
    subst hv
    exact ⟨#[], rfl, rfl⟩
  · simp only [VR] at hv
    obtain ⟨b, rfl, _⟩ := hv
    refine ⟨_, rfl, ?_⟩
    simp [ByteArray.data_extract]
theorem copy_zero {ts : Array TypeId} {ty t e : TypeId} {size n c k : Nat} {base : Option Addr} {dx : DV} {vx : Value} (h0 : ts[0]? = some t) (hu : under P t = some (.slice e)) (hs : sizeT P e = some size)
    (hd : (∃ b o n cap sz ex, dx = .slice b o n cap sz ex) ∨ dx = .nils ∨ ∃ s, dx = .str s) (hx : VR P φ dx vx)
    (hl : (Builtin.lenOf vx).run P w = .ok k w) (hm : Nat.min k n = 0) :
    (Builtin.copy_ ts ty #[.slice base n c, vx]).run P w = .ok (.int .i64 0) w := by
  obtain ⟨cells, h1, h2⟩ := first_zero (w := w) (size := size) (b := 0) (o := 0) (n := 0) (cap := 0) (sz := 0) (ex := true) hd hx
  have := run_copy (ty := ty) (c := c) (base := base) (w' := w) h0 hu hs hl hm h1 (by cases base with | none => rfl | some a => simp only [h2]; rfl)
  exact this
theorem xCopy_sim {ts : Array TypeId} {ty : TypeId} {ds dx : DV} {vs vx : Value} (H : HR P w0 φ h w) (hs : VR P φ ds vs) (hx : VR P φ dx vx) :
    OutR P w0 φ h w (xCopy P h ts ds dx) (((Builtin.copy_ ts ty #[vs, vx]).run P w).andThen fun v w => .ok (.value v) w) := by
  unfold xCopy
  cases h0 : ts[0]? with
  | none => trivial
  | some t =>
    simp only
    have stored : ∀ {b o len cap sz : Nat} {ex : Bool} {el : TypeId} {size k m : Nat} {l : List DV} {cells : Array Value} {h' : HS}, VR P φ (.slice b o len cap sz ex) vs → under P t = some (.slice el) → sizeT P el = some size →
        (Builtin.lenOf vx).run P w = .ok k w → Nat.min k len = m + 1 → (Builtin.firstCells size (m + 1) vx).run P w = .ok cells w → VRL P φ l cells.toList → storeN h b o l = some h' →
        OutR P w0 φ h w (outN (m + 1) h') (((Builtin.copy_ ts ty #[vs, vx]).run P w).andThen fun v w => .ok (.value v) w) := by
      intro b o len cap sz ex el size k m l cells h' hs hu he hl hm hf hv hst
      simp only [VR] at hs
      obtain ⟨rb, ro, rcap, rfl, h2, h3, h4, h5⟩ := hs
      have hlen : 0 < len := by
        have : m + 1 ≤ len := by rw [← hm]; exact Nat.min_le_right _ _
        omega
      rcases h5 with h5 | ⟨sh, h5, h6, h7⟩
      · omega
      subst h6
      obtain ⟨q1, q2, q3, q4, q5⟩ := H.storeN h5 hst hv
      rw [run_copy (c := rcap) (ty := ty) h0 hu he hl hm hf q1]
      exact ⟨φ, _, _, _, rfl, .inl rfl, Emb.le_refl φ, q2, rfl, by rw [q3]; exact Nat.le_refl _, fun c _ hn => ⟨q5 c hn, hn⟩⟩
    split
    · rename_i size b o len cap sz ex he
      obtain ⟨el, hu, he⟩ := elemSize_of he
      have hs0 := hs
      simp only [VR] at hs
      obtain ⟨rb, ro, rcap, rfl, _⟩ := hs
      split
      · rename_i b' o' n cap' sz' ex'
        have hl : (Builtin.lenOf vx).run P w = .ok n w := by
          have hx := hx
          simp only [VR] at hx
          obtain ⟨_, _, _, rfl, _⟩ := hx
          rfl
        split
        · rename_i hm
          refine outN_sim H ?_
          rw [copy_zero (ty := ty) (c := rcap) h0 hu he (.inl ⟨_, _, _, _, _, _, rfl⟩) hx hl hm]
          rfl
        · rename_i k hm
          split
          · rename_i l hld
            split
            · rename_i h' hst
              have hx := hx
              simp only [VR] at hx
              obtain ⟨rb', ro', rcap', rfl, h2, h3, h4, h5⟩ := hx
              have : Nat.min n len ≤ n := Nat.min_le_left _ _
              rcases h5 with h5 | ⟨sh', h5, h6, h7⟩
              · omega
              subst h6
              obtain ⟨us, q1, q2, q3⟩ := H.loadL h5 hld
              exact stored hs0 hu he hl hm (cells := us.toArray) (run_loadCells rb' _ _ us q1 q2) (by simpa using q3) hst
            · trivial
          · trivial
      · refine outN_sim H ?_
        have hl : (Builtin.lenOf vx).run P w = .ok 0 w := by simp only [VR] at hx; subst hx; rfl
        rw [copy_zero (ty := ty) (c := rcap) h0 hu he (.inr (.inl rfl)) hx hl (Nat.zero_min _)]
        rfl
      · rename_i st
        have hl : (Builtin.lenOf vx).run P w = .ok st.length w := by
          simp only [VR] at hx
          obtain ⟨s, rfl, hs⟩ := hx
          rw [str_size hs]; rfl
        split
        · rename_i hm
          refine outN_sim H ?_
          rw [copy_zero (ty := ty) (c := rcap) h0 hu he (.inr (.inr ⟨_, rfl⟩)) hx hl hm]
          rfl
        · rename_i k hm
          split
          · rename_i h' hst
            have hx := hx
            simp only [VR] at hx
            obtain ⟨s, rfl, hs⟩ := hx
            refine stored hs0 hu he hl hm (cells := ((s.extract 0 (k + 1)).data.map fun b => Value.int .u8 b.toNat)) rfl ?_ hst
            rw [bytes_values]
            refine VRL_ofBytes ?_
            rw [ByteArray.data_extract, Array.toList_extract, ← hs]
            simp [List.extract, List.map_take]
          · trivial
      · trivial
    · rename_i size he
      obtain ⟨el, hu, he⟩ := elemSize_of he
      simp only [VR] at hs
      subst hs
      split
      · refine outN_sim H ?_
        rename_i b o n cap sz ex
        have hl : (Builtin.lenOf vx).run P w = .ok n w := by
          have hx := hx
          simp only [VR] at hx
          obtain ⟨_, _, _, rfl, _⟩ := hx
          rfl
        rw [copy_zero (ty := ty) h0 hu he (.inl ⟨_, _, _, _, _, _, rfl⟩) hx hl (Nat.min_zero _)]
        rfl
      · refine outN_sim H ?_
        have hl : (Builtin.lenOf vx).run P w = .ok 0 w := by simp only [VR] at hx; subst hx; rfl
        rw [copy_zero (ty := ty) h0 hu he (.inr (.inl rfl)) hx hl (Nat.zero_min _)]
        rfl
      · trivial
    · trivial
theorem elemInfo_of {ts : Array TypeId} {t : TypeId} {size bytes : Nat} {z : DV} (h0 : ts[0]? = some t) (hn : notInt P ts[1]? = true) (e : elemInfo P t = some (size, bytes, z)) : ∃ el, AppCtx P ts t el size bytes z := by
  unfold elemInfo at e
  split at e
  · rename_i el hu
    split at e
    · rename_i s b z' hs hb hz
      split at e
      · rename_i hc
        simp only [Bool.and_eq_true] at hc
        simp only [Option.some.injEq, Prod.mk.injEq] at e
        obtain ⟨rfl, rfl, rfl⟩ := e
        exact ⟨el, h0, hn, hu, hs, hb, hz, hc.1, Nat.eq_of_beq_eq_true hc.2⟩
      · cases e
    · cases e
  · cases e
theorem xAppend_sim {ts : Array TypeId} {ty : TypeId} {ds dx : DV} {vs vx : Value} (H : HR P w0 φ h w) (hs : VR P φ ds vs) (hx : VR P φ dx vx) :
    OutR P w0 φ h w (xAppend P h ts ds dx) (((Builtin.append_ ts ty #[vs, vx]).run P w).andThen fun v w => .ok (.value v) w) := by
  unfold xAppend
  split
  · rename_i t h0 hn
    split
    · rename_i size bytes z he
      obtain ⟨el, A⟩ := elemInfo_of h0 hn he
      split
      · rename_i hsz
        split
        · simp only [VR] at hx
          subst hx
          exact appendV_sim A H hs hsz src_nil (.inl rfl)
        · rename_i b o n cap sz ex
          split
          · rename_i l hc hl
            simp only [Bool.and_eq_true] at hc
            obtain ⟨new, S⟩ := src_slice H hx hl
            exact appendV_sim A H hs hsz S (.inr hc.2)
          · trivial
        · rename_i st
          split
          · rename_i hc
            simp only [Bool.and_eq_true] at hc
            obtain rfl := Nat.eq_of_beq_eq_true hc.1
            simp only [VR] at hx
            obtain ⟨s, rfl, hs'⟩ := hx
            exact appendV_sim A H hs hsz (src_str hs') (.inr hc.2)
          · trivial
        · trivial
      · trivial
    · trivial
  · trivial
end Go.DM
set_option autoImplicit false
set_option linter.unusedVariables false
set_option linter.unusedSimpArgs false
namespace Go.DM
open Go.RowKit
variable {P : Program} {φ ψ : Emb} {w0 w w' : World} {h h' : HS}

theorem evalL_iff {tmps : T DV} {ρ : Operand → Value} : ∀ (l : List Operand), (∀ x, x ∈ l → VR P φ (eval tmps x) (ρ x)) → VRL P φ (evalL tmps l) (l.map ρ)
  | [], _ => VRL.nil
  | x :: xs, hq => VRL.cons (hq x (by simp)) (evalL_iff xs fun y hy => hq y (by simp [hy]))
theorem builtin_run (b : Builtin) (ts : Array TypeId) (ty : TypeId) (cs : Array Bool) (args : Array Value) (s : Sem Value) (e : builtin b ts ty cs args = do pure (.value (← s))) :
    (builtin b ts ty cs args).run P w = (s.run P w).andThen fun v w => .ok (.value v) w := by
  rw [e, Sem.run_bind]; rfl
theorem builtin_sim {tmps : T DV} {ρ : Operand → Value} {o : Oper} {c : Call} {b : Builtin} (H : HR P w0 φ h w) (ho : o.op = .call c) (hc : c.callee = .builtin b) (hq : ∀ x, x ∈ c.args.toList → VR P φ (eval tmps x) (ρ x)) :
    OutR P w0 φ h w (xBuiltin P tmps h b c.argTypes c.args.toList) ((execOp ρ o).run P w) := by
  obtain ⟨consts, hr⟩ := run_builtin (P := P) (w := w) (ρ := ρ) ho hc
  rw [hr]
  unfold xBuiltin
  split
  · split
    · rename_i x hx
      rw [args1 hx, builtin_run (s := Builtin.len_ c.argTypes o.type #[ρ x]) (e := rfl)]
      exact xLen_sim H (hq x (by rw [hx]; simp))
    · trivial
  · split
    · rename_i s x hx
      rw [args2 hx, builtin_run (s := Builtin.append_ c.argTypes o.type #[ρ s, ρ x]) (e := rfl)]
      exact xAppend_sim H (hq s (by rw [hx]; simp)) (hq x (by rw [hx]; simp))
    · trivial
  · split
    · rename_i x hx
      rw [args1 hx, builtin_run (s := Builtin.cap_ c.argTypes o.type #[ρ x]) (e := rfl)]
      exact xCap_sim H (hq x (by rw [hx]; simp))
    · trivial
  · split
    · rename_i s x hx
      rw [args2 hx, builtin_run (s := Builtin.copy_ c.argTypes o.type #[ρ s, ρ x]) (e := rfl)]
      exact xCopy_sim H (hq s (by rw [hx]; simp)) (hq x (by rw [hx]; simp))
    · trivial
  · split
    · rename_i x y hx
      rw [args2 hx, builtin_run (s := Builtin.max_ c.argTypes o.type #[ρ x, ρ y]) (e := rfl)]
      exact xMax_sim H (hq x (by rw [hx]; simp)) (hq y (by rw [hx]; simp))
    · trivial
  · split
    · rename_i x y hx
      rw [args2 hx, builtin_run (s := Builtin.min_ c.argTypes o.type #[ρ x, ρ y]) (e := rfl)]
      exact xMin_sim H (hq x (by rw [hx]; simp)) (hq y (by rw [hx]; simp))
    · trivial
  · rfl
  · trivial

/-! ### calls -/
theorem findMethod_of {t : TypeId} {name : String} {f : FuncId} (e : findMethod P t name = some f) : ∃ i m pr, P.types[t]? = some i ∧ i.methods.find? (fun m => m.name == name) = some m ∧ m.func = some (f, pr) ∧ m.path.toList = [] ∧
    ∃ d, under P t = some d ∧ (pr = true ↔ ∃ el, d = .pointer el) := by
  unfold findMethod at e
  split at e
  · rename_i i hi
    split at e
    · rename_i m hm
      unfold methFn at e
      split at e
      · rename_i g pr hf
        split at e
        · rename_i el hp hu
          split at e
          · simp only [Option.some.injEq] at e
            subst e
            exact ⟨i, m, true, hi, by rw [← Array.find?_toList]; exact hm, hf, by simpa using hp, _, hu, by simp⟩
          · cases e
        · rename_i d hne hp hu
          split at e
          · cases e
          · simp only [Option.some.injEq] at e
            subst e
            exact ⟨i, m, false, hi, by rw [← Array.find?_toList]; exact hm, hf, by simpa using hp, d, hu, by simp; exact fun el h => hne el h⟩
        · cases e
      · cases e
    · cases e
  · cases e
theorem run_method {t : TypeId} {v : Value} {name : String} {f : FuncId} (e : findMethod P t name = some f) (n : Nat) : (method (n + 1) t v name).run P w = .ok (f, v) w := by
  obtain ⟨i, m, pr, h1, h2, h3, h4, d, h5, h6⟩ := findMethod_of e
  have hrecv : ∀ wr, (receiverAt t (.val v) pr wr).run P w = .ok v w := by
    intro wr
    simp only [receiverAt, Sem.run_bind, run_underlying h5, Result.andThen_ok]
    cases pr with
    | true =>
      obtain ⟨el, rfl⟩ := h6.1 rfl
      rfl
    | false =>
      have : ∀ el, d ≠ .pointer el := fun el hd => by have := h6.2 ⟨el, hd⟩; cases this
      cases d <;> first | rfl | exact absurd rfl (this _)
  simp only [method, Sem.run_bind, run_typeInfo h1, Result.andThen_ok, h2, h4, follow, Sem.run_pure, h3, hrecv]
theorem call_sim {tmps : T DV} {ρ : Operand → Value} {o : Oper} {c : Call} (H : HR P w0 φ h w) (ho : o.op = .call c) (hq : ∀ x, x ∈ o.op.operands.toList → VR P φ (eval tmps x) (ρ x)) :
    OutR P w0 φ h w (xCall P tmps h c) ((execOp ρ o).run P w) := by
  have hargs : ∀ x, x ∈ c.args.toList → VR P φ (eval tmps x) (ρ x) := by
    intro x hx
    refine hq x ?_
    rw [ho]
    simp only [Op.operands, Call.operands]
    cases c.callee <;> simp_all
  have hal := evalL_iff c.args.toList hargs
  unfold xCall
  split
  · rename_i f hc
    have hf : VR P φ (eval tmps f) (ρ f) := hq f (by rw [ho]; simp [Op.operands, Call.operands, hc])
    unfold funcVal
    split
    · rename_i g first cap he
      rw [he] at hf
      simp only [VR, FnR] at hf
      obtain ⟨fn', a', b', h1, h2, h3, h4⟩ := hf
      subst h2
      refine ⟨rfl, (a' ++ c.args.map ρ) ++ b', ?_, ?_⟩
      · simp only [Array.toList_append, Array.toList_map, List.append_assoc]
        exact h3.append (hal.append h4)
      · simp [execOp, ho, resolve, hc, h1, Deferred.ofValue, invoke]
    · rename_i l he
      rw [he] at hf
      simp only [VR, FnR] at hf
      obtain ⟨fn', a', b', h1, ⟨r, h0, h2⟩, h3, h4⟩ := hf
      subst h2
      simp only [VRL] at h3
      have : a' = #[] := by rw [← Array.toArray_toList (xs := a'), h3]
      subst this
      refine ⟨r, c.args.map ρ, h0, by simpa using hal, ?_⟩
      simp [execOp, ho, resolve, hc, h1, Deferred.ofValue, invoke]
    · trivial
  · rename_i b hc
    exact builtin_sim H ho hc hargs
  · rename_i r name hc
    have hf : VR P φ (eval tmps r) (ρ r) := hq r (by rw [ho]; simp [Op.operands, Call.operands, hc])
    split
    · rename_i t v he
      rw [he] at hf
      simp only [VR] at hf
      obtain ⟨x, h1, h2⟩ := hf
      split
      · rename_i f hfm
        refine ⟨rfl, #[x] ++ c.args.map ρ, by rw [Array.toList_append, Array.toList_map]; exact VRL.cons h2 hal, ?_⟩
        have hm : (method (P.types.size + 99 + 1) t x name).run P w = .ok (f, x) w := run_method hfm _
        have e0 : (#[ρ r] ++ c.args.map ρ)[0]? = some (ρ r) := by
          rw [Array.getElem?_append_left (by simp)]; rfl
        have e1 : (#[ρ r] ++ c.args.map ρ).extract 1 (#[ρ r] ++ c.args.map ρ).size = c.args.map ρ := by
          apply Array.ext'
          simp [Array.toList_extract, List.extract]
          exact List.take_of_length_le (by simp)
        rw [h1] at e0 e1
        simp only [execOp, ho, resolve, hc, Sem.run_bind, Sem.run_pure, Result.andThen_ok, invoke, e0, e1, h1, callMethod, run_program, Made.depth]
        rw [show P.types.size + 100 = P.types.size + 99 + 1 from rfl, hm]
        rfl
      · trivial
    · trivial
theorem defer_sim {tmps : T DV} {ρ : Operand → Value} {o : Oper} {c : Call} (H : HR P w0 φ h w) (ho : o.op = .defer c) (hq : ∀ x, x ∈ o.op.operands.toList → VR P φ (eval tmps x) (ρ x)) :
    OutR P w0 φ h w (xDefer tmps c) ((execOp ρ o).run P w) := by
  unfold xDefer
  split
  · rename_i f hc
    have hf : VR P φ (eval tmps f) (ρ f) := hq f (by rw [ho]; simp [Op.operands, Call.operands, hc])
    have hargs : ∀ x, x ∈ c.args.toList → VR P φ (eval tmps x) (ρ x) := by
      intro x hx
      refine hq x ?_
      rw [ho]
      simp only [Op.operands, Call.operands, hc]
      simp_all
    have hal := evalL_iff c.args.toList hargs
    split
    · rename_i fn a b he
      rw [he] at hf
      have hf' := hf
      simp only [VR] at hf
      obtain ⟨fn', a', b', h1, h2, h3, h4⟩ := hf
      refine ⟨_, ?_, fn', a', b', c.args.map ρ, h1 ▸ hf', by simpa using hal, rfl⟩
      simp [execOp, ho, resolve, hc, h1, Deferred.ofValue]
    · trivial
  · trivial
theorem panic_sim {ρ : Operand → Value} {o : Oper} {x : Operand} {d : DV} (H : HR P w0 φ h w) (ho : o.op = .panic x) (hv : VR P φ d (ρ x)) : OutR P w0 φ h w (xPanic d) ((execOp ρ o).run P w) := by
  unfold xPanic
  split
  · rename_i t v
    have hv' := hv
    simp only [VR] at hv
    obtain ⟨y, h1, h2⟩ := hv
    refine ⟨ρ x, ?_, hv'⟩
    simp [execOp, ho, Instr.panic, h1, goPanic]
  · trivial
end Go.DM
set_option autoImplicit false
set_option linter.unusedVariables false
set_option linter.unusedSimpArgs false
namespace Go.DM
open Go.RowKit
variable {P : Program} {φ ψ : Emb} {w0 w w' : World} {h h' : HS}

theorem opt_sim {tmps : T DV} {ρ : Operand → Value} (x : Option Operand) (hq : ∀ y, y ∈ x.toArray → VR P φ (eval tmps y) (ρ y)) : OptR P φ (evalO tmps x) (x.map ρ) := by
  cases x with
  | none => rfl
  | some y => exact ⟨_, rfl, hq y (by simp [Option.toArray])⟩
theorem exec_sim {tmps : T DV} {ρ : Operand → Value} {o : Oper} (H : HR P w0 φ h w) (hq : ∀ x, x ∈ o.op.operands.toList → VR P φ (eval tmps x) (ρ x)) :
    OutR P w0 φ h w (exec P tmps h o.op) ((execOp ρ o).run P w) := by
  have hq0 := hq
  generalize hop : o.op = op at hq ⊢
  cases op <;> simp only [Op.operands, Array.toList_append, List.mem_append] at hq <;> simp only [exec]
  case move x =>
    have hr : (execOp ρ o).run P w = .ok (.value (ρ x)) w := by simp [execOp, hop]
    exact hr ▸ ValR.pure H (hq x (by simp))
  case assign x =>
    have hr : (execOp ρ o).run P w = .ok (.value (ρ x)) w := by simp [execOp, hop]
    exact hr ▸ ValR.pure H (hq x (by simp))
  case pick c a b => exact pick_sim H hop (hq c (by simp)) (hq a (by simp)) (hq b (by simp))
  case alloc e => exact alloc_sim H hop
  case box e x => exact box_sim H hop (hq x (by simp))
  case build t ps => exact build_sim H hop (fun i x hx => hq x (by simp; exact ⟨i, by simpa using hx⟩))
  case buildSlice t n ps => exact buildSlice_sim H hop (fun i x hx => hq x (by simp; exact ⟨i, by simpa using hx⟩))
  case load t a => exact load_sim H hop (hq a (by simp))
  case store t a v => exact store_sim H hop (hq a (by simp)) (hq v (by simp))
  case nilCheck x => exact nilCheck_sim H hop (hq x (by simp))
  case binOp op t x y yt => exact bin_sim H hop (hq x (by simp)) (hq y (by simp))
  case unOp op t x => exact un_sim H hop (hq x (by simp))
  case convert s d x => exact conv_sim H hop (hq x (by simp))
  case makeInterface t x => exact iface_sim H hop (hq x (by simp))
  case makeFunc fn first cap =>
    have hr : (execOp ρ o).run P w = .ok (.value (.func fn (first.map ρ) (cap.map ρ))) w := by simp [execOp, hop, Instr.makeFunc]
    have h1 := evalL_iff first.toList fun x hx => hq x (.inl hx)
    have h2 := evalL_iff cap.toList fun x hx => hq x (.inr hx)
    cases fn with
    | yield l => trivial
    | _ => exact hr ▸ ValR.pure H ⟨_, _, _, rfl, rfl, by simpa using h1, by simpa using h2⟩
  case makeMap t r => exact makeMap_sim H hop (fun x hx => hq x (by subst hx; simp [Option.toArray]))
  case makeSlice t l c => exact makeSlice_sim H hop (hq l (by simp)) (hq c (by simp))
  case slice t x lo hi mx => exact slice_sim H hop (hq x (by simp)) (opt_sim lo fun y hy => hq y (by simp at hy ⊢; exact .inl (.inl (.inr hy)))) (opt_sim hi fun y hy => hq y (by simp at hy ⊢; exact .inl (.inr hy))) (opt_sim mx fun y hy => hq y (by simp at hy ⊢; exact .inr hy))
  case fieldAddr t x f => exact fieldAddr_sim H hop (hq x (by simp))
  case field t x f => exact field_sim H hop (hq x (by simp))
  case indexAddr t x i => exact indexAddr_sim H hop (hq x (by simp)) (hq i (by simp))
  case index t x i => exact index_sim H hop (hq x (by simp)) (hq i (by simp))
  case sliceToArrayPointer a x => exact arrPtr_sim H hop (hq x (by simp))
  case lookup t x i ok => exact lookup_sim H hop (hq x (by simp)) (hq i (by simp))
  case mapUpdate t m k x => exact mapUpdate_sim H hop (hq m (by simp)) (hq k (by simp)) (hq x (by simp))
  case typeAssert x xt a ok => exact assert_sim H hop (hq x (by simp))
  case extract x i => exact extract_sim H hop (hq x (by simp))
  case call c => exact call_sim H hop hq0
  case defer c => exact defer_sim H hop hq0
  case panic x => exact panic_sim H hop (hq x (by simp))
  all_goals trivial
end Go.DM
set_option autoImplicit false
set_option linter.unusedVariables false
set_option linter.unusedSimpArgs false
namespace Go.DM
open Go.RowKit

/-- binding edges lead back -/
def EdgesOk (ops : Array Oper) : Prop := ∀ (i : Nat) (o : Oper), ops[i]? = some o → ∀ e, e ∈ o.after.toList → Region.binds .any e = true → e.on < i
def edge (ops : Array Oper) (i j : Nat) : Prop := ∃ o e, ops[i]? = some o ∧ e ∈ o.after.toList ∧ Region.binds .any e = true ∧ e.on = j

/-! ### the rows of 'before' -/
def rowOf (acc : Array Nat) (o : Oper) : Nat := o.after.foldl (fun s e => if Region.binds .any e then s ||| 2 ^ e.on ||| acc.getD e.on 0 else s) 0
theorem row_bits (acc : Array Nat) : ∀ (es : List Edge) (s i : Nat), (es.foldl (fun s e => if Region.binds .any e then s ||| 2 ^ e.on ||| acc.getD e.on 0 else s) s).testBit i =
    (s.testBit i || es.any fun e => Region.binds .any e && (decide (e.on = i) || (acc.getD e.on 0).testBit i)) := by
  intro es
  induction es with
  | nil => intro s i; simp
  | cons e es ih =>
    intro s i
    simp only [List.foldl_cons, List.any_cons]
    rw [ih]
    by_cases h : Region.binds .any e = true
    · simp only [h, if_true, Bool.true_and, Nat.testBit_or, Nat.testBit_two_pow, Bool.or_assoc]
    · simp only [h, Bool.false_and, Bool.false_or]
      simp
theorem rowOf_bits (acc : Array Nat) (o : Oper) (i : Nat) : (rowOf acc o).testBit i = o.after.toList.any fun e => Region.binds .any e && (decide (e.on = i) || (acc.getD e.on 0).testBit i) := by
  unfold rowOf
  rw [← Array.foldl_toList, row_bits]
  simp
theorem before_spec (ops : List Oper) : ∀ (acc : Array Nat), (ops.foldl (fun acc o => acc.push (rowOf acc o)) acc).size = acc.size + ops.length ∧
    (∀ i, i < acc.size → (ops.foldl (fun acc o => acc.push (rowOf acc o)) acc)[i]? = acc[i]?) ∧
    ∀ i o, ops[i]? = some o → ∃ acc' : Array Nat, acc'.size = acc.size + i ∧ (∀ k, k < acc'.size → acc'[k]? = (ops.foldl (fun acc o => acc.push (rowOf acc o)) acc)[k]?) ∧
      (ops.foldl (fun acc o => acc.push (rowOf acc o)) acc)[acc.size + i]? = some (rowOf acc' o) := by
  induction ops with
  | nil => intro acc; exact ⟨by simp, fun i _ => rfl, fun i o h => by simp at h⟩
  | cons o os ih =>
    intro acc
    obtain ⟨h1, h2, h3⟩ := ih (acc.push (rowOf acc o))
    simp only [List.foldl_cons, Array.size_push, List.length_cons] at h1 h2 h3 ⊢
    refine ⟨by omega, fun i hi => ?_, fun i o' ho => ?_⟩
    · rw [h2 i (by omega), Array.getElem?_push, if_neg (by omega)]
    · cases i with
      | zero =>
        simp only [List.getElem?_cons_zero, Option.some.injEq] at ho
        subst ho
        refine ⟨acc, rfl, fun k hk => ?_, ?_⟩
        · rw [h2 k (by omega), Array.getElem?_push, if_neg (by omega)]
        · rw [Nat.add_zero, h2 _ (by omega)]; simp
      | succ i =>
        simp only [List.getElem?_cons_succ] at ho
        obtain ⟨acc', k1, k2, k3⟩ := h3 i o' ho
        exact ⟨acc', by omega, k2, by rw [← k3]; congr 1; omega⟩
theorem before_row {ops : Array Oper} {i : Nat} {o : Oper} (h : ops[i]? = some o) : ∃ acc' : Array Nat, acc'.size = i ∧ (∀ k, k < i → acc'.getD k 0 = (Region.before ops).getD k 0) ∧ (Region.before ops).getD i 0 = rowOf acc' o := by
  have hb : Region.before ops = ops.toList.foldl (fun acc o => acc.push (rowOf acc o)) #[] := by
    unfold Region.before
    rw [← Array.foldl_toList]
    rfl
  obtain ⟨_, _, h3⟩ := before_spec ops.toList #[]
  obtain ⟨acc', k1, k2, k3⟩ := h3 i o (by simpa using h)
  simp only [Array.size_empty, Nat.zero_add] at k1 k3
  refine ⟨acc', k1, fun k hk => ?_, ?_⟩
  · rw [hb, Array.getD_eq_getD_getElem?, Array.getD_eq_getD_getElem?, k2 k (by omega)]
  · rw [hb, Array.getD_eq_getD_getElem?, k3]; rfl
theorem bit_iff {ops : Array Oper} (E : EdgesOk ops) {i j : Nat} (hi : i < ops.size) : bit (Region.before ops) i j = true ↔ ∃ k, edge ops i k ∧ (k = j ∨ bit (Region.before ops) k j = true) := by
  have ho : ops[i]? = some ops[i] := Array.getElem?_eq_getElem hi
  obtain ⟨acc', h1, h2, h3⟩ := before_row ho
  unfold bit
  rw [h3, rowOf_bits, List.any_eq_true]
  constructor
  · rintro ⟨e, he, hb⟩
    simp only [Bool.and_eq_true, Bool.or_eq_true, decide_eq_true_eq] at hb
    refine ⟨e.on, ⟨_, e, ho, he, hb.1, rfl⟩, hb.2.imp id fun hh => ?_⟩
    rw [h2 _ (E i _ ho e he hb.1)] at hh
    exact hh
  · rintro ⟨k, ⟨o, e, h4, h5, h6, h7⟩, h8⟩
    rw [ho] at h4
    simp only [Option.some.injEq] at h4
    subst h4; subst h7
    refine ⟨e, h5, ?_⟩
    simp only [h6, Bool.true_and, Bool.or_eq_true, decide_eq_true_eq]
    refine h8.imp id fun hh => ?_
    rw [h2 _ (E i _ ho e h5 h6)]
    exact hh
theorem bit_size {ops : Array Oper} {i j : Nat} (h : bit (Region.before ops) i j = true) : i < ops.size := by
  rcases Nat.lt_or_ge i ops.size with hi | hi
  · exact hi
  · exfalso
    have hb : (Region.before ops).size = ops.size := by
      have : Region.before ops = ops.toList.foldl (fun acc o => acc.push (rowOf acc o)) #[] := by
        unfold Region.before
        rw [← Array.foldl_toList]
        rfl
      rw [this, (before_spec ops.toList #[]).1]; simp
    unfold bit at h
    rw [Array.getD_eq_getD_getElem?, Array.getElem?_eq_none (by omega)] at h
    simp at h
theorem edge_lt {ops : Array Oper} (E : EdgesOk ops) {i j : Nat} (h : edge ops i j) : j < i := by
  obtain ⟨o, e, h1, h2, h3, h4⟩ := h
  exact h4 ▸ E i o h1 e h2 h3
theorem bit_lt {ops : Array Oper} (E : EdgesOk ops) : ∀ (i : Nat) {j : Nat}, bit (Region.before ops) i j = true → j < i := by
  intro i
  induction i using Nat.strongRecOn with
  | _ i ih =>
    intro j h
    obtain ⟨k, h1, h2⟩ := (bit_iff E (bit_size h)).1 h
    have := edge_lt E h1
    rcases h2 with rfl | h2
    · exact this
    · have := ih k this h2
      omega
theorem bit_trans {ops : Array Oper} (E : EdgesOk ops) : ∀ (i : Nat) {j k : Nat}, bit (Region.before ops) i j = true → bit (Region.before ops) j k = true → bit (Region.before ops) i k = true := by
  intro i
  induction i using Nat.strongRecOn with
  | _ i ih =>
    intro j k h h'
    have hi := bit_size h
    obtain ⟨m, h1, h2⟩ := (bit_iff E hi).1 h
    refine (bit_iff E hi).2 ⟨m, h1, .inr ?_⟩
    rcases h2 with rfl | h2
    · exact h'
    · exact ih m (edge_lt E h1) h2 h'
end Go.DM
set_option autoImplicit false
set_option linter.unusedVariables false
set_option linter.unusedSimpArgs false
namespace Go.DM
open Go.RowKit

def left (n : Nat) (listed : Array Bool) : List Nat := (List.range n).filter fun i => !listed.getD i true
theorem mem_left {n : Nat} {listed : Array Bool} {i : Nat} : i ∈ left n listed ↔ i < n ∧ listed.getD i true = false := by
  unfold left
  rw [List.mem_filter, List.mem_range]
  simp
theorem getD_set {listed : Array Bool} {i k : Nat} (hi : i < listed.size) (d : Bool) : (listed.setIfInBounds i true).getD k d = if k = i then true else listed.getD k d := by
  rw [Array.getD_eq_getD_getElem?, Array.getD_eq_getD_getElem?, Array.getElem?_setIfInBounds]
  by_cases h : i = k
  · subst h; simp [hi]
  · rw [if_neg h, if_neg (fun e => h e.symm)]
theorem left_set {n : Nat} {listed : Array Bool} {i : Nat} (hs : listed.size = n) (hi : i ∈ left n listed) : (left n (listed.setIfInBounds i true)).length + 1 = (left n listed).length := by
  have hin : i < listed.size := by rw [hs]; exact (mem_left.1 hi).1
  have nd : (left n listed).Nodup := List.Nodup.sublist List.filter_sublist List.nodup_range
  have h1 : left n (listed.setIfInBounds i true) = (left n listed).erase i := by
    rw [nd.erase_eq_filter]
    unfold left
    rw [List.filter_filter]
    apply List.filter_congr
    intro k _
    rw [getD_set hin]
    by_cases hk : k = i
    · simp [hk]
    · simp [hk]
  rw [h1, List.length_erase_of_mem hi]
  have := List.length_pos_of_mem hi
  omega
theorem mem_ready {ops : Array Oper} {listed : Array Bool} {i : Nat} : i ∈ Region.ready .any ops listed ↔ i ∈ left ops.size listed ∧ ∀ j, edge ops i j → listed.getD j false = true := by
  unfold Region.ready
  rw [List.mem_filter, mem_left, List.mem_range]
  constructor
  · rintro ⟨h1, h2⟩
    simp only [Bool.and_eq_true, Bool.not_eq_true'] at h2
    refine ⟨⟨h1, h2.1⟩, fun j ⟨o, e, h3, h4, h5, h6⟩ => ?_⟩
    have h7 := h2.2
    rw [h3] at h7
    simp only [Option.map_some, Option.getD_some, Array.all_eq_true'] at h7
    have := h7 e (by simpa using h4)
    rw [h5] at this
    simpa [h6] using this
  · rintro ⟨⟨h1, h2⟩, h3⟩
    refine ⟨h1, ?_⟩
    have ho : ops[i]? = some ops[i] := Array.getElem?_eq_getElem h1
    rw [ho, h2]
    simp only [Bool.not_false, Bool.true_and, Option.map_some, Option.getD_some, Array.all_eq_true']
    intro e he
    cases hb : Region.binds .any e with
    | false => rfl
    | true => simp; simpa using h3 e.on ⟨_, e, ho, by simpa using he, hb, rfl⟩
theorem exists_ready {ops : Array Oper} (E : EdgesOk ops) {listed : Array Bool} (hs : listed.size = ops.size) (i : Nat) : i ∈ left ops.size listed → ∃ k, k ∈ Region.ready .any ops listed := by
  induction i using Nat.strongRecOn with
  | _ i ih =>
    intro hi
    by_cases hall : ∀ j, edge ops i j → listed.getD j false = true
    · exact ⟨i, mem_ready.2 ⟨hi, hall⟩⟩
    · simp only [Classical.not_forall] at hall
      obtain ⟨j, hj, hn⟩ := hall
      have hlt := edge_lt E hj
      have hjn : j < listed.size := by rw [hs]; exact Nat.lt_trans hlt (mem_left.1 hi).1
      refine ih j hlt (mem_left.2 ⟨by rw [← hs]; exact hjn, ?_⟩)
      rw [Array.getD_eq_getD_getElem?] at hn ⊢
      rw [Array.getElem?_eq_getElem hjn] at hn ⊢
      simpa using hn
theorem lin_go {ops : Array Oper} (E : EdgesOk ops) : ∀ (fuel t : Nat) (listed : Array Bool), listed.size = ops.size → (left ops.size listed).length = fuel →
    (∀ i, i ∈ Region.linearise.go .any ops fuel t listed [] ↔ i ∈ left ops.size listed) ∧ (Region.linearise.go .any ops fuel t listed []).Nodup ∧
    ∀ a x c, Region.linearise.go .any ops fuel t listed [] = a ++ x :: c → ∀ j, edge ops x j → j ∈ a ∨ listed.getD j false = true := by
  intro fuel
  induction fuel with
  | zero =>
    intro t listed hs hl
    have : left ops.size listed = [] := List.eq_nil_of_length_eq_zero hl
    simp [Region.linearise.go, this]
  | succ fuel ih =>
    intro t listed hs hl
    have hne : ∃ i, i ∈ left ops.size listed := by
      cases hh : left ops.size listed with
      | nil => rw [hh] at hl; simp at hl
      | cons x xs => exact ⟨x, by simp⟩
    obtain ⟨i0, hi0⟩ := hne
    obtain ⟨k0, hk0⟩ := exists_ready E hs i0 hi0
    have hpos : 0 < (Region.ready .any ops listed).length := List.length_pos_of_mem hk0
    have hlt := Nat.mod_lt t hpos
    have hstep : Region.linearise.go .any ops (fuel + 1) t listed [] = (Region.ready .any ops listed)[t % (Region.ready .any ops listed).length] ::
        Region.linearise.go .any ops fuel (t / (Region.ready .any ops listed).length) (listed.setIfInBounds ((Region.ready .any ops listed)[t % (Region.ready .any ops listed).length]) true) [] := by
      simp only [Region.linearise.go]
      change (match (Region.ready .any ops listed)[t % (Region.ready .any ops listed).length]? with
        | some i => Region.linearise.go .any ops fuel (t / (Region.ready .any ops listed).length) (listed.setIfInBounds i true) [i]
        | none => [].reverse) = _
      rw [List.getElem?_eq_getElem hlt]
      simp only
      rw [linearise_go_acc]
      rfl
    generalize hx : (Region.ready .any ops listed)[t % (Region.ready .any ops listed).length] = x at hstep
    have hxr : x ∈ Region.ready .any ops listed := by rw [← hx]; exact List.getElem_mem _
    obtain ⟨hxl, hxe⟩ := mem_ready.1 hxr
    have hxs : x < listed.size := by rw [hs]; exact (mem_left.1 hxl).1
    have hset := left_set hs hxl
    obtain ⟨k1, k2, k3⟩ := ih (t / (Region.ready .any ops listed).length) (listed.setIfInBounds x true) (by simpa using hs) (by omega)
    have hml : ∀ i, i ∈ left ops.size (listed.setIfInBounds x true) ↔ i ∈ left ops.size listed ∧ i ≠ x := by
      intro i
      rw [mem_left, mem_left, getD_set hxs]
      by_cases h : i = x
      · simp [h]
      · simp [h]
    rw [hstep]
    refine ⟨fun i => ?_, ?_, fun a y c hh j hj => ?_⟩
    · rw [List.mem_cons, k1, hml]
      constructor
      · rintro (rfl | h)
        · exact hxl
        · exact h.1
      · intro h
        by_cases hi : i = x
        · exact .inl hi
        · exact .inr ⟨h, hi⟩
    · rw [List.nodup_cons]
      exact ⟨fun h => ((hml _).1 ((k1 _).1 h)).2 rfl, k2⟩
    · cases a with
      | nil =>
        simp only [List.nil_append, List.cons.injEq] at hh
        obtain ⟨rfl, rfl⟩ := hh
        exact .inr (hxe j hj)
      | cons a0 a =>
        simp only [List.cons_append, List.cons.injEq] at hh
        obtain ⟨rfl, hh⟩ := hh
        rcases k3 a y c hh j hj with h | h
        · exact .inl (by simp [h])
        · rw [getD_set hxs] at h
          by_cases hjx : j = x
          · exact .inl (by simp [hjx])
          · rw [if_neg hjx] at h; exact .inr h
/-- an order of the region's -/
structure Lin (ops : Array Oper) (l : List Nat) : Prop where
  all : ∀ i, i ∈ l ↔ i < ops.size
  nodup : l.Nodup
  pre : ∀ a x c, l = a ++ x :: c → ∀ j, bit (Region.before ops) x j = true → j ∈ a
theorem linearise_lin {ops : Array Oper} (E : EdgesOk ops) (t : Nat) : Lin ops (Region.linearise .any ops t) := by
  have hl : left ops.size (Array.replicate ops.size false) = List.range ops.size := by
    unfold left
    rw [List.filter_eq_self]
    intro i hi
    rw [Array.getD_eq_getD_getElem?]
    simp at hi
    simp [hi]
  obtain ⟨h1, h2, h3⟩ := lin_go E ops.size t (Array.replicate ops.size false) (by simp) (by rw [hl]; simp)
  have hdirect : ∀ a x c, Region.linearise .any ops t = a ++ x :: c → ∀ j, edge ops x j → j ∈ a := by
    intro a x c hh j hj
    rcases h3 a x c hh j hj with h | h
    · exact h
    · rw [Array.getD_eq_getD_getElem?] at h
      have : (Array.replicate ops.size false)[j]?.getD false = false := by
        rw [Array.getElem?_replicate]; split <;> rfl
      rw [this] at h; cases h
  refine ⟨fun i => by rw [Region.linearise, h1, hl, List.mem_range], h2, ?_⟩
  have key : ∀ (x : Nat) a c, Region.linearise .any ops t = a ++ x :: c → ∀ j, bit (Region.before ops) x j = true → j ∈ a := by
    intro x
    induction x using Nat.strongRecOn with
    | _ x ih =>
      intro a c hh j hj
      obtain ⟨k, k1, k2⟩ := (bit_iff E (bit_size hj)).1 hj
      have hka := hdirect a x c hh k k1
      rcases k2 with rfl | k2
      · exact hka
      · obtain ⟨a1, a2, ha⟩ := List.append_of_mem hka
        have := ih k (edge_lt E k1) a1 (a2 ++ x :: c) (by rw [hh, ha]; simp) j k2
        rw [ha]; simp [this]
  exact fun a x c hh j hj => key x a c hh j hj
end Go.DM
set_option autoImplicit false
set_option linter.unusedVariables false
set_option linter.unusedSimpArgs false
namespace Go.DM
open Go.RowKit

def runs : List PItem → List Nat
  | [] => []
  | .run i :: p => i :: runs p
  | .chk _ :: p => runs p
def chks : List PItem → List Nat
  | .chk i :: p => i :: chks p
  | _ => []
theorem runs_append (p q : List PItem) : runs (p ++ q) = runs p ++ runs q := by
  induction p with
  | nil => rfl
  | cons x p ih => cases x <;> simp [runs, ih]
theorem runs_run (l : List Nat) : runs (l.map PItem.run) = l := by
  induction l with
  | nil => rfl
  | cons x l ih => simp [runs, ih]
theorem runs_chk (l : List Nat) : runs (l.map PItem.chk) = [] := by
  induction l with
  | nil => rfl
  | cons x l ih => simp [runs, ih]
theorem mem_chks {l : List Nat} {p : List PItem} {q : Nat} (h : q ∈ l) : q ∈ chks (l.map PItem.chk ++ p) := by
  induction l with
  | nil => simp at h
  | cons x l ih =>
    simp only [List.map_cons, List.cons_append, chks, List.mem_cons] at h ⊢
    rcases h with h | h
    · exact .inl h
    · exact .inr (ih h)
structure PlanOk (ops : Array Oper) (p : List PItem) : Prop where
  nodup : (runs p).Nodup
  size : ∀ i, i ∈ runs p → i < ops.size
  pre : ∀ p1 x p2, p = p1 ++ .run x :: p2 → ∀ j, bit (Region.before ops) x j = true → j ∉ runs p2
  quiet : ∀ p1 e p2, p = p1 ++ .run e :: p2 → isEffect (opAt ops e) = true → ∀ q, q ∈ runs p2 → isEffect (opAt ops q) = false →
    ∃ e', isEffect (opAt ops e') = true ∧ (e' = e ∨ e' ∈ runs p2) ∧ bit (Region.before ops) q e' = true
  chk : ∀ p1 e p2, p = p1 ++ .run e :: p2 → isEffect (opAt ops e) = true → ∀ q, q < ops.size → isEffect (opAt ops q) = false → q ∉ runs p2 →
    isRead (opAt ops q) = true → bit (Region.before ops) e q = false → q ∈ chks p2
theorem PlanOk.tail {ops : Array Oper} {x : PItem} {p : List PItem} (h : PlanOk ops (x :: p)) : PlanOk ops p := {
  nodup := by
    have := h.nodup
    cases x with
    | run i => simp only [runs, List.nodup_cons] at this; exact this.2
    | chk i => exact this
  size i hi := h.size i (by cases x <;> simp [runs, hi])
  pre p1 y p2 e := h.pre (x :: p1) y p2 (by rw [e]; rfl)
  quiet p1 y p2 e := h.quiet (x :: p1) y p2 (by rw [e]; rfl)
  chk p1 y p2 e := h.chk (x :: p1) y p2 (by rw [e]; rfl) }

theorem split_run : ∀ (A : List Nat) (T p1 p2 : List PItem) (x : Nat), A.map PItem.run ++ T = p1 ++ .run x :: p2 →
    (∃ A1 A2, A = A1 ++ x :: A2 ∧ p2 = A2.map PItem.run ++ T) ∨ ∃ p1', T = p1' ++ .run x :: p2 := by
  intro A
  induction A with
  | nil => intro T p1 p2 x h; exact .inr ⟨p1, h⟩
  | cons a A ih =>
    intro T p1 p2 x h
    cases p1 with
    | nil =>
      simp only [List.map_cons, List.cons_append, List.nil_append, List.cons.injEq, PItem.run.injEq] at h
      obtain ⟨rfl, rfl⟩ := h
      exact .inl ⟨[], A, rfl, rfl⟩
    | cons y p1 =>
      simp only [List.map_cons, List.cons_append, List.cons.injEq] at h
      rcases ih T p1 p2 x h.2 with ⟨A1, A2, h1, h2⟩ | h1
      · exact .inl ⟨a :: A1, A2, by rw [h1]; rfl, h2⟩
      · exact .inr h1
theorem split_chk : ∀ (A : List Nat) (T p1 p2 : List PItem) (x : Nat), A.map PItem.chk ++ T = p1 ++ .run x :: p2 → ∃ p1', T = p1' ++ .run x :: p2 := by
  intro A
  induction A with
  | nil => intro T p1 p2 x h; exact ⟨p1, h⟩
  | cons a A ih =>
    intro T p1 p2 x h
    cases p1 with
    | nil => simp at h
    | cons y p1 =>
      simp only [List.map_cons, List.cons_append, List.cons.injEq] at h
      exact ih T p1 p2 x h.2

theorem gap_spec (b : Array Nat) (q : Nat) : ∀ (es : List Nat) (k g : Nat),
    (gapOf b q es k g = g ∧ ∀ e, e ∈ es → bit b q e = false) ∨
    ∃ m e, es[m]? = some e ∧ bit b q e = true ∧ gapOf b q es k g = k + m + 1 ∧ ∀ m' e', m < m' → es[m']? = some e' → bit b q e' = false := by
  intro es
  induction es with
  | nil => intro k g; exact .inl ⟨rfl, by simp⟩
  | cons e es ih =>
    intro k g
    simp only [gapOf]
    rcases ih (k + 1) (match bit b q e with | true => k + 1 | false => g) with ⟨h1, h2⟩ | ⟨m, e', h1, h2, h3, h4⟩
    · cases hb : bit b q e with
      | true =>
        rw [hb] at h1
        refine .inr ⟨0, e, rfl, hb, h1.trans (by simp only []), fun m' e' hm he => ?_⟩
        obtain ⟨m'', rfl⟩ : ∃ m'', m' = m'' + 1 := ⟨m' - 1, by omega⟩
        exact h2 e' (List.mem_of_getElem? he)
      | false =>
        rw [hb] at h1
        refine .inl ⟨h1, fun x hx => ?_⟩
        rcases List.mem_cons.1 hx with rfl | hx
        · exact hb
        · exact h2 x hx
    · refine .inr ⟨m + 1, e', h1, h2, h3.trans (by omega), fun m' e'' hm he => ?_⟩
      obtain ⟨m'', rfl⟩ : ∃ m'', m' = m'' + 1 := ⟨m' - 1, by omega⟩
      exact h4 m'' e'' (by omega) he

def effsOf (ops : Array Oper) : List Nat := (List.range ops.size).filter fun i => isEffect (opAt ops i)
def gap (ops : Array Oper) (q : Nat) : Nat := gapOf (Region.before ops) q (effsOf ops) 0 0
def quietOf (ops : Array Oper) : List (Nat × Nat) := ((List.range ops.size).filter fun i => !isEffect (opAt ops i)).map fun q => (q, gap ops q)
theorem mem_effs {ops : Array Oper} {i : Nat} : i ∈ effsOf ops ↔ i < ops.size ∧ isEffect (opAt ops i) = true := by
  unfold effsOf; rw [List.mem_filter, List.mem_range]
theorem gap_lt {ops : Array Oper} {q e m : Nat} (h1 : (effsOf ops)[m]? = some e) (h2 : bit (Region.before ops) q e = true) : m < gap ops q := by
  unfold gap
  rcases gap_spec (Region.before ops) q (effsOf ops) 0 0 with ⟨h3, h4⟩ | ⟨m', e', h3, h4, h5, h6⟩
  · rw [h4 e (List.mem_of_getElem? h1)] at h2; cases h2
  · rw [h5]
    rcases Nat.lt_or_ge m' m with hh | hh
    · rw [h6 m e hh h1] at h2; cases h2
    · omega
theorem gap_some {ops : Array Oper} {q m : Nat} (h : gap ops q = m + 1) : ∃ e, (effsOf ops)[m]? = some e ∧ bit (Region.before ops) q e = true := by
  unfold gap at h
  rcases gap_spec (Region.before ops) q (effsOf ops) 0 0 with ⟨h3, h4⟩ | ⟨m', e', h3, h4, h5, h6⟩
  · omega
  · obtain rfl : m = m' := by omega
    exact ⟨e', h3, h4⟩
theorem gap_le (ops : Array Oper) (q : Nat) : gap ops q ≤ (effsOf ops).length := by
  cases h : gap ops q with
  | zero => omega
  | succ m =>
    obtain ⟨e, h1, _⟩ := gap_some h
    have := (List.getElem?_eq_some_iff.1 h1).1
    omega
def qs (ops : Array Oper) (g : Nat) : List Nat := (((quietOf ops).filter fun q => Nat.beq q.2 g)).map (·.1)
theorem qs_eq (ops : Array Oper) (g : Nat) : qs ops g = (List.range ops.size).filter fun i => !isEffect (opAt ops i) && Nat.beq (gap ops i) g := by
  unfold qs quietOf
  rw [List.filter_map, List.map_map, List.filter_filter]
  have : ((fun (x : Nat × Nat) => x.1) ∘ fun q => (q, gap ops q)) = id := rfl
  rw [this, List.map_id]
  apply List.filter_congr
  intro x _
  simp only [Function.comp]
  rw [Bool.and_comm]
theorem mem_qs {ops : Array Oper} {g q : Nat} : q ∈ qs ops g ↔ q < ops.size ∧ isEffect (opAt ops q) = false ∧ gap ops q = g := by
  rw [qs_eq, List.mem_filter, List.mem_range]
  simp
theorem qs_run (ops : Array Oper) (g : Nat) : (((quietOf ops).filter fun q => Nat.beq q.2 g).map fun q => PItem.run q.1) = (qs ops g).map PItem.run := by
  unfold qs; rw [List.map_map]; rfl
theorem qs_sorted (ops : Array Oper) (g : Nat) : (qs ops g).Pairwise (· < ·) := by
  rw [qs_eq]
  exact List.Pairwise.sublist List.filter_sublist List.pairwise_lt_range
theorem effs_sorted (ops : Array Oper) : (effsOf ops).Pairwise (· < ·) := List.Pairwise.sublist List.filter_sublist List.pairwise_lt_range
end Go.DM
set_option autoImplicit false
set_option linter.unusedVariables false
set_option linter.unusedSimpArgs false
namespace Go.DM
open Go.RowKit

theorem effs_lt {ops : Array Oper} {m m' e e' : Nat} (h : (effsOf ops)[m]? = some e) (h' : (effsOf ops)[m']? = some e') (hm : m < m') : e < e' := by
  have := effs_sorted ops
  rw [List.pairwise_iff_getElem] at this
  obtain ⟨h1, h2⟩ := List.getElem?_eq_some_iff.1 h
  obtain ⟨h3, h4⟩ := List.getElem?_eq_some_iff.1 h'
  have := this m m' h1 h3 hm
  rw [h2, h4] at this
  exact this
theorem plan_ok {ops : Array Oper} (E : EdgesOk ops) : ∀ (es pre done : List Nat), effsOf ops = pre ++ es → (∀ q, q ∈ done ↔ q < ops.size ∧ isEffect (opAt ops q) = false ∧ gap ops q < pre.length) →
    (∀ i, i ∈ runs (planBuild ops (Region.before ops) (quietOf ops) es pre.length done) ↔ i ∈ es ∨ (i < ops.size ∧ isEffect (opAt ops i) = false ∧ pre.length ≤ gap ops i)) ∧
    PlanOk ops (planBuild ops (Region.before ops) (quietOf ops) es pre.length done) := by
  intro es
  induction es with
  | nil =>
    intro pre done he hd
    have hplan : planBuild ops (Region.before ops) (quietOf ops) [] pre.length done = (qs ops pre.length).map PItem.run ++ [] := by
      simp only [planBuild, qs_run, List.append_nil]
    have hmem : ∀ i, i ∈ runs (planBuild ops (Region.before ops) (quietOf ops) [] pre.length done) ↔ i ∈ ([] : List Nat) ∨ (i < ops.size ∧ isEffect (opAt ops i) = false ∧ pre.length ≤ gap ops i) := by
      intro i
      rw [hplan, List.append_nil, runs_run, mem_qs]
      have hl : gap ops i ≤ pre.length := by have := gap_le ops i; rw [he] at this; simpa using this
      constructor
      · rintro ⟨h1, h2, h3⟩; exact .inr ⟨h1, h2, by omega⟩
      · rintro (h | ⟨h1, h2, h3⟩)
        · simp at h
        · exact ⟨h1, h2, by omega⟩
    refine ⟨hmem, ?_⟩
    have noEff : ∀ p1 x p2, (qs ops pre.length).map PItem.run ++ [] = p1 ++ .run x :: p2 → isEffect (opAt ops x) = false ∧ ∃ A1 A2, qs ops pre.length = A1 ++ x :: A2 ∧ runs p2 = A2 := by
      intro p1 x p2 h
      rcases split_run _ _ _ _ _ h with ⟨A1, A2, h1, h2⟩ | ⟨p1', h1⟩
      · refine ⟨(mem_qs.1 (by rw [h1]; simp : x ∈ qs ops pre.length)).2.1, A1, A2, h1, ?_⟩
        rw [h2, List.append_nil, runs_run]
      · simp at h1
    refine { nodup := ?_, size := fun i hi => ?_, pre := ?_, quiet := ?_, chk := ?_ }
    · rw [hplan, List.append_nil, runs_run]
      exact (qs_sorted ops _).imp (fun h => Nat.ne_of_lt h)
    · rcases (hmem i).1 hi with h | h
      · simp at h
      · exact h.1
    · intro p1 x p2 h j hj hm
      rw [hplan] at h
      obtain ⟨_, A1, A2, h1, h2⟩ := noEff p1 x p2 h
      rw [h2] at hm
      have hs := qs_sorted ops pre.length
      rw [h1, List.pairwise_append] at hs
      have := (List.pairwise_cons.1 hs.2.1).1 j hm
      have := bit_lt E x hj
      omega
    · intro p1 x p2 h hx
      rw [hplan] at h
      rw [(noEff p1 x p2 h).1] at hx; cases hx
    · intro p1 x p2 h hx
      rw [hplan] at h
      rw [(noEff p1 x p2 h).1] at hx; cases hx
  | cons e es ih =>
    intro pre done he hd
    have hpre : (pre ++ [e]).length = pre.length + 1 := by simp
    have hd' : ∀ q, q ∈ done ++ qs ops pre.length ↔ q < ops.size ∧ isEffect (opAt ops q) = false ∧ gap ops q < (pre ++ [e]).length := by
      intro q
      rw [List.mem_append, hd, mem_qs, hpre]
      constructor
      · rintro (⟨h1, h2, h3⟩ | ⟨h1, h2, h3⟩)
        · exact ⟨h1, h2, by omega⟩
        · exact ⟨h1, h2, by omega⟩
      · rintro ⟨h1, h2, h3⟩
        by_cases h : gap ops q < pre.length
        · exact .inl ⟨h1, h2, h⟩
        · exact .inr ⟨h1, h2, by omega⟩
    obtain ⟨im, ip⟩ := ih (pre ++ [e]) (done ++ qs ops pre.length) (by rw [he]; simp) hd'
    rw [hpre] at im ip
    generalize hp' : planBuild ops (Region.before ops) (quietOf ops) es (pre.length + 1) (done ++ qs ops pre.length) = p' at im ip
    generalize hC : (done ++ qs ops pre.length).filter (fun q => isRead (opAt ops q) && !bit (Region.before ops) e q) = C
    have hplan : planBuild ops (Region.before ops) (quietOf ops) (e :: es) pre.length done = (qs ops pre.length).map PItem.run ++ (.run e :: (C.map PItem.chk ++ p')) := by
      simp only [planBuild, qs_run]
      have : (((quietOf ops).filter fun q => Nat.beq q.2 pre.length).map (·.1)) = qs ops pre.length := rfl
      rw [this, hp', hC]
    have heE : e ∈ effsOf ops := by rw [he]; simp
    have hem : (effsOf ops)[pre.length]? = some e := by rw [he]; simp
    have heeff := (mem_effs.1 heE).2
    have hesE : ∀ x, x ∈ es → ∃ m, pre.length < m ∧ (effsOf ops)[m]? = some x := by
      intro x hx
      obtain ⟨k, hk⟩ := List.getElem?_of_mem hx
      refine ⟨pre.length + 1 + k, by omega, ?_⟩
      rw [he, List.getElem?_append_right (by omega), show pre.length + 1 + k - pre.length = k + 1 from by omega]
      simpa using hk
    have hruns : runs (planBuild ops (Region.before ops) (quietOf ops) (e :: es) pre.length done) = qs ops pre.length ++ e :: runs p' := by
      rw [hplan, runs_append, runs_run]
      simp only [runs, runs_append, runs_chk, List.nil_append]
    have hmem : ∀ i, i ∈ runs (planBuild ops (Region.before ops) (quietOf ops) (e :: es) pre.length done) ↔ i ∈ e :: es ∨ (i < ops.size ∧ isEffect (opAt ops i) = false ∧ pre.length ≤ gap ops i) := by
      intro i
      rw [hruns, List.mem_append, mem_qs, List.mem_cons, im, List.mem_cons]
      constructor
      · rintro (⟨h1, h2, h3⟩ | rfl | h | ⟨h1, h2, h3⟩)
        · exact .inr ⟨h1, h2, by omega⟩
        · exact .inl (.inl rfl)
        · exact .inl (.inr h)
        · exact .inr ⟨h1, h2, by omega⟩
      · rintro ((rfl | h) | ⟨h1, h2, h3⟩)
        · exact .inr (.inl rfl)
        · exact .inr (.inr (.inl h))
        · by_cases h : gap ops i = pre.length
          · exact .inl ⟨h1, h2, h⟩
          · exact .inr (.inr (.inr ⟨h1, h2, by omega⟩))
    -- who comes behind e
    have later : ∀ q, q ∈ runs p' → isEffect (opAt ops q) = false → pre.length + 1 ≤ gap ops q := by
      intro q hq hqe
      rcases (im q).1 hq with h | h
      · obtain ⟨m, _, hm⟩ := hesE q h
        have := (mem_effs.1 (List.mem_of_getElem? hm)).2
        rw [this] at hqe; cases hqe
      · exact h.2.2
    have laterEff : ∀ q, q ∈ runs p' → isEffect (opAt ops q) = true → ∃ m, pre.length < m ∧ (effsOf ops)[m]? = some q := by
      intro q hq hqe
      rcases (im q).1 hq with h | h
      · exact hesE q h
      · rw [h.2.1] at hqe; cases hqe
    have notBefore : ∀ x j, bit (Region.before ops) x j = true → gap ops x ≤ pre.length → j ∈ e :: runs p' → False := by
      intro x j hj hg hjm
      rcases List.mem_cons.1 hjm with rfl | hjm
      · have := gap_lt hem hj; omega
      · cases hje : isEffect (opAt ops j) with
        | true =>
          obtain ⟨m, h1, h2⟩ := laterEff j hjm hje
          have := gap_lt h2 hj; omega
        | false =>
          have hgj := later j hjm hje
          obtain ⟨m, hm⟩ : ∃ m, gap ops j = m + 1 := ⟨gap ops j - 1, by omega⟩
          obtain ⟨e', h1, h2⟩ := gap_some hm
          have := gap_lt h1 (bit_trans E x hj h2)
          omega
    have notBeforeE : ∀ j, bit (Region.before ops) e j = true → j ∈ runs p' → False := by
      intro j hj hjm
      have hlt := bit_lt E e hj
      cases hje : isEffect (opAt ops j) with
      | true =>
        obtain ⟨m, h1, h2⟩ := laterEff j hjm hje
        have := effs_lt hem h2 h1
        omega
      | false =>
        have hgj := later j hjm hje
        obtain ⟨m, hm⟩ : ∃ m, gap ops j = m + 1 := ⟨gap ops j - 1, by omega⟩
        obtain ⟨e', h1, h2⟩ := gap_some hm
        have h3 := bit_lt E e (bit_trans E e hj h2)
        rcases Nat.lt_or_ge pre.length m with hh | hh
        · have := effs_lt hem h1 hh; omega
        · obtain rfl : m = pre.length := by omega
          rw [h1] at hem
          simp only [Option.some.injEq] at hem
          omega
    -- where a run stands
    have split : ∀ p1 x p2, planBuild ops (Region.before ops) (quietOf ops) (e :: es) pre.length done = p1 ++ .run x :: p2 →
        (∃ A1 A2, qs ops pre.length = A1 ++ x :: A2 ∧ p2 = A2.map PItem.run ++ (.run e :: (C.map PItem.chk ++ p'))) ∨ (x = e ∧ p2 = C.map PItem.chk ++ p') ∨ ∃ p1', p' = p1' ++ .run x :: p2 := by
      intro p1 x p2 h
      rw [hplan] at h
      rcases split_run _ _ _ _ _ h with h1 | ⟨p1', h1⟩
      · exact .inl h1
      · cases p1' with
        | nil =>
          simp only [List.nil_append, List.cons.injEq, PItem.run.injEq] at h1
          exact .inr (.inl ⟨h1.1.symm, h1.2.symm⟩)
        | cons y p1' =>
          simp only [List.cons_append, List.cons.injEq] at h1
          exact .inr (.inr (split_chk _ _ _ _ _ h1.2))
    refine ⟨hmem, { nodup := ?_, size := fun i hi => ?_, pre := ?_, quiet := ?_, chk := ?_ }⟩
    · rw [hruns, List.nodup_append, List.nodup_cons]
      refine ⟨(qs_sorted ops _).imp (fun h => Nat.ne_of_lt h), ⟨fun h => ?_, ip.nodup⟩, fun a ha b hb hab => ?_⟩
      · obtain ⟨m, h1, h2⟩ := laterEff e h heeff
        have := effs_lt hem h2 h1
        omega
      · subst hab
        have hq := mem_qs.1 ha
        rcases List.mem_cons.1 hb with rfl | hb
        · rw [hq.2.1] at heeff; cases heeff
        · have := later a hb hq.2.1; omega
    · rcases (hmem i).1 hi with h | h
      · exact (mem_effs.1 (by rw [he]; simp at h ⊢; exact .inr h)).1
      · exact h.1
    · intro p1 x p2 h j hj hm
      rcases split p1 x p2 h with ⟨A1, A2, h1, h2⟩ | ⟨rfl, h2⟩ | ⟨p1', h1⟩
      · have hx : x ∈ qs ops pre.length := by rw [h1]; simp
        have hr : runs p2 = A2 ++ e :: runs p' := by
          rw [h2, runs_append, runs_run]; simp only [runs, runs_append, runs_chk, List.nil_append]
        rw [hr, List.mem_append] at hm
        rcases hm with hm | hm
        · have hs := qs_sorted ops pre.length
          rw [h1, List.pairwise_append] at hs
          have := (List.pairwise_cons.1 hs.2.1).1 j hm
          have := bit_lt E x hj
          omega
        · exact notBefore x j hj (by rw [(mem_qs.1 hx).2.2]; exact Nat.le_refl _) hm
      · rw [h2, runs_append, runs_chk, List.nil_append] at hm
        exact notBeforeE j hj hm
      · exact ip.pre p1' x p2 h1 j hj hm
    · intro p1 x p2 h hx q hq hqe
      rcases split p1 x p2 h with ⟨A1, A2, h1, h2⟩ | ⟨rfl, h2⟩ | ⟨p1', h1⟩
      · have := (mem_qs.1 (by rw [h1]; simp : x ∈ qs ops pre.length)).2.1
        rw [this] at hx; cases hx
      · rw [h2, runs_append, runs_chk, List.nil_append] at hq
        have hgq := later q hq hqe
        obtain ⟨m, hm⟩ : ∃ m, gap ops q = m + 1 := ⟨gap ops q - 1, by omega⟩
        obtain ⟨e', h3, h4⟩ := gap_some hm
        refine ⟨e', (mem_effs.1 (List.mem_of_getElem? h3)).2, ?_, h4⟩
        rcases Nat.lt_or_ge pre.length m with hh | hh
        · right
          rw [h2, runs_append, runs_chk, List.nil_append, im]
          left
          rw [he, List.getElem?_append_right (by omega)] at h3
          obtain ⟨k, hk⟩ : ∃ k, m - pre.length = k + 1 := ⟨m - pre.length - 1, by omega⟩
          rw [hk] at h3
          exact List.mem_of_getElem? (by simpa using h3)
        · obtain rfl : m = pre.length := by omega
          rw [h3] at hem
          simp only [Option.some.injEq] at hem
          exact .inl hem
      · exact ip.quiet p1' x p2 h1 hx q hq hqe
    · intro p1 x p2 h hx q hqs hqe hqn hqr hqb
      rcases split p1 x p2 h with ⟨A1, A2, h1, h2⟩ | ⟨rfl, h2⟩ | ⟨p1', h1⟩
      · have := (mem_qs.1 (by rw [h1]; simp : x ∈ qs ops pre.length)).2.1
        rw [this] at hx; cases hx
      · rw [h2]
        refine mem_chks ?_
        rw [← hC, List.mem_filter]
        refine ⟨(hd' q).2 ⟨hqs, hqe, ?_⟩, by rw [hqr, hqb]; rfl⟩
        rw [h2, runs_append, runs_chk, List.nil_append, im] at hqn
        rw [hpre]
        rcases Nat.lt_or_ge (gap ops q) (pre.length + 1) with hh | hh
        · exact hh
        · exact absurd (.inr ⟨hqs, hqe, hh⟩) hqn
      · exact ip.chk p1' x p2 h1 hx q hqs hqe hqn hqr hqb
end Go.DM
set_option autoImplicit false
set_option linter.unusedVariables false
set_option linter.unusedSimpArgs false
namespace Go.DM
open Go.RowKit

theorem edgesOk_spec : ∀ (os : List Oper) (i : Nat), edgesOk os i = true → ∀ k o, os[k]? = some o → ∀ e, e ∈ o.after.toList → Region.binds .any e = true → e.on < i + k := by
  intro os
  induction os with
  | nil => intro i _ k o h; simp at h
  | cons o os ih =>
    intro i h k o' ho e he hb
    simp only [edgesOk, Bool.and_eq_true, List.all_eq_true] at h
    cases k with
    | zero =>
      simp only [List.getElem?_cons_zero, Option.some.injEq] at ho
      subst ho
      have := h.1 e he
      rw [hb] at this
      simpa [Nat.blt_eq] using this
    | succ k =>
      simp only [List.getElem?_cons_succ] at ho
      have := ih (i + 1) h.2 k o' ho e he hb
      omega
theorem prodT_spec : ∀ (os : List Oper) (i : Nat) (t pr : T Nat), prodT os i t = some pr → (∀ d j, t.get d = some j → pr.get d = some j) ∧
    ∀ k o d, os[k]? = some o → o.dst = some d → pr.get d = some (i + k) := by
  intro os
  induction os with
  | nil =>
    intro i t pr h
    simp only [prodT, Option.some.injEq] at h
    subst h
    exact ⟨fun _ _ h => h, fun k o d h => by simp at h⟩
  | cons o os ih =>
    intro i t pr h
    simp only [prodT] at h
    split at h
    · rename_i hd
      obtain ⟨h1, h2⟩ := ih (i + 1) t pr h
      refine ⟨h1, fun k o' d ho hdst => ?_⟩
      cases k with
      | zero =>
        simp only [List.getElem?_cons_zero, Option.some.injEq] at ho
        subst ho
        rw [hd] at hdst; cases hdst
      | succ k =>
        simp only [List.getElem?_cons_succ] at ho
        rw [h2 k o' d ho hdst]; congr 1; omega
    · rename_i d hd
      split at h
      · cases h
      · rename_i hn
        obtain ⟨h1, h2⟩ := ih (i + 1) (t.set d i) pr h
        refine ⟨fun d' j hj => h1 d' j ?_, fun k o' d' ho hdst => ?_⟩
        · rw [T.get_set]
          by_cases hdd : d' = d
          · subst hdd; rw [hn] at hj; cases hj
          · rw [if_neg hdd]; exact hj
        · cases k with
          | zero =>
            simp only [List.getElem?_cons_zero, Option.some.injEq] at ho
            subst ho
            rw [hd] at hdst
            simp only [Option.some.injEq] at hdst
            subst hdst
            refine h1 d i ?_
            rw [T.get_set, if_pos rfl]
          | succ k =>
            simp only [List.getElem?_cons_succ] at ho
            rw [h2 k o' d' ho hdst]; congr 1; omega
theorem namesOk_spec {ops : Array Oper} {b : Array Nat} {pr : T Nat} : ∀ (os : List Oper) (i : Nat), namesOk ops b pr os i = true → ∀ k o, os[k]? = some o → ∀ t, t ∈ namesOf ops o → nameOk ops b pr (i + k) t = true := by
  intro os
  induction os with
  | nil => intro i _ k o h; simp at h
  | cons o os ih =>
    intro i h k o' ho t ht
    simp only [namesOk, Bool.and_eq_true, List.all_eq_true] at h
    cases k with
    | zero =>
      simp only [List.getElem?_cons_zero, Option.some.injEq] at ho
      subst ho
      exact h.1 t ht
    | succ k =>
      simp only [List.getElem?_cons_succ] at ho
      have := ih (i + 1) h.2 k o' ho t ht
      rw [show i + (k + 1) = i + 1 + k from by omega]
      exact this
theorem planGo_spec {ops : Array Oper} (E : EdgesOk ops) : ∀ (l : List Nat), planGo (Region.before ops) l = true → l.Pairwise fun i j => bit (Region.before ops) j i = true := by
  intro l
  induction l with
  | nil => intro _; exact List.Pairwise.nil
  | cons i l ih =>
    intro h
    cases l with
    | nil => exact List.pairwise_singleton _ _
    | cons j l =>
      simp only [planGo, Bool.and_eq_true] at h
      have hp := ih h.2
      refine List.pairwise_cons.2 ⟨fun k hk => ?_, hp⟩
      rcases List.mem_cons.1 hk with rfl | hk
      · exact h.1
      · exact bit_trans E k ((List.pairwise_cons.1 hp).1 k hk) h.1
/-- what the plan of a region is worth -/
structure RegOk (ops : Array Oper) : Prop where
  edges : EdgesOk ops
  chain : ∀ e e', e < ops.size → e' < ops.size → isEffect (opAt ops e) = true → isEffect (opAt ops e') = true → e < e' → bit (Region.before ops) e' e = true
  prod : ∀ (i j : Nat) (oi oj : Oper) (d : Tmp), ops[i]? = some oi → ops[j]? = some oj → oi.dst = some d → oj.dst = some d → i = j
  names : ∀ (i j : Nat) (oi oj : Oper) (d : Tmp), ops[i]? = some oi → ops[j]? = some oj → oi.dst = some d → d ∈ namesOf ops oj →
    (isEffect (opAt ops i) = false → bit (Region.before ops) j i = true) ∧
    (isEffect (opAt ops i) = true → isEffect (opAt ops j) = true ∨ bit (Region.before ops) j i = true ∨ bit (Region.before ops) i j = true)
theorem planOf_spec {ops : Array Oper} {p : List PItem} (h : planOf ops = some p) : RegOk ops ∧ PlanOk ops p ∧ ∀ i, i < ops.size → i ∈ runs p := by
  unfold planOf at h
  simp only at h
  split at h
  · cases h
  rename_i pr hpr
  split at h
  · cases h
  rename_i hc
  simp only [Bool.and_eq_true] at hc
  simp only [Option.some.injEq] at h
  have E : EdgesOk ops := by
    intro i o ho e he hb
    have := edgesOk_spec ops.toList 0 hc.1 i o (by simpa using ho) e he hb
    omega
  obtain ⟨_, hp⟩ := prodT_spec ops.toList 0 .nil pr hpr
  have hprod : ∀ i o d, ops[i]? = some o → o.dst = some d → pr.get d = some i := by
    intro i o d ho hd
    have := hp i o d (by simpa using ho) hd
    simpa using this
  have hplan : planBuild ops (Region.before ops) (quietOf ops) (effsOf ops) ([] : List Nat).length [] = p := h
  obtain ⟨k1, k2⟩ := plan_ok E (effsOf ops) [] [] rfl (fun q => by simp)
  rw [hplan] at k1 k2
  refine ⟨{ edges := E, chain := fun e e' he he' h1 h2 hlt => ?_, prod := fun i j oi oj d h1 h2 h3 h4 => ?_, names := fun i j oi oj d h1 h2 h3 h4 => ?_ }, k2, fun i hi => (k1 i).2 ?_⟩
  · have hg := planGo_spec E _ hc.2.1
    have hs := effs_sorted ops
    obtain ⟨m, hm⟩ := List.getElem?_of_mem (mem_effs.2 ⟨he, h1⟩)
    obtain ⟨m', hm'⟩ := List.getElem?_of_mem (mem_effs.2 ⟨he', h2⟩)
    have hmm : m < m' := by
      rcases Nat.lt_trichotomy m m' with hh | hh | hh
      · exact hh
      · subst hh; rw [hm] at hm'; simp only [Option.some.injEq] at hm'; omega
      · have := effs_lt hm' hm hh; omega
    rw [List.pairwise_iff_getElem] at hg
    obtain ⟨q1, q2⟩ := List.getElem?_eq_some_iff.1 hm
    obtain ⟨q3, q4⟩ := List.getElem?_eq_some_iff.1 hm'
    have := hg m m' q1 q3 hmm
    have e1 : ((List.range ops.size).filter fun i => isEffect (opAt ops i))[m] = e := q2
    have e2 : ((List.range ops.size).filter fun i => isEffect (opAt ops i))[m'] = e' := q4
    rw [e1, e2] at this
    exact this
  · have := (hprod i oi d h1 h3).symm.trans (hprod j oj d h2 h4)
    simpa using this
  · have hn := namesOk_spec ops.toList 0 hc.2.2 j oj (by simpa using h2) d h4
    rw [Nat.zero_add] at hn
    unfold nameOk at hn
    rw [hprod i oi d h1 h3] at hn
    simp only at hn
    constructor
    · intro hq; rw [hq] at hn; exact hn
    · intro hq
      rw [hq] at hn
      simp only [Bool.or_eq_true] at hn
      rcases hn with (hn | hn) | hn
      · exact .inl hn
      · exact .inr (.inl hn)
      · exact .inr (.inr hn)
  · cases hb : isEffect (opAt ops i) with
    | true => exact .inl (mem_effs.2 ⟨hi, hb⟩)
    | false => exact .inr ⟨hi, rfl, Nat.zero_le _⟩
end Go.DM
set_option autoImplicit false
set_option linter.unusedVariables false
set_option linter.unusedSimpArgs false
namespace Go.DM
open Go.RowKit
variable {P : Program} {φ ψ : Emb} {w0 w w' : World} {h h' : HS}

/-- the same outcome at another heap -/
def Out.withH (o : Out) (h2 : HS) : Out := match o with
  | .val v _ => .val v h2
  | o => o
def Still (f : HS → Out) : Prop := ∀ h h2, f h2 = (f h).withH h2 ∧ ∀ v h', f h = .val v h' → h' = h
theorem Still.val (v : DV) : Still fun h => .val v h := fun h h2 => ⟨rfl, by rintro v' h' e; cases e; rfl⟩
theorem Still.fail : Still fun _ => .fail := fun h h2 => ⟨rfl, by rintro v' h' e; cases e⟩
theorem Still.forceN {n : Nat} {k : Nat → HS → Out} (hk : ∀ m, Still (k m)) : Still fun h => forceN n fun m => k m h := by
  intro h h2
  cases n with
  | zero => exact hk 0 h h2
  | succ m => exact hk (m + 1) h h2
theorem Still.outI (k : IntKind) (n : Int) : Still (outI k n) := by
  intro h h2
  unfold DM.outI
  cases n with
  | ofNat m => exact Still.forceN (k := fun m h => .val (.int k (.ofNat m)) h) (fun m => Still.val _) h h2
  | negSucc m => exact Still.forceN (k := fun m h => .val (.int k (.negSucc m)) h) (fun m => Still.val _) h h2
theorem Still.outB (b : Bool) : Still (outB b) := by
  intro h h2
  unfold DM.outB
  cases b <;> exact Still.val _ h h2
theorem Still.outO (o : Option DV) : Still (outO o) := by
  intro h h2
  unfold DM.outO
  cases o with
  | none => exact Still.fail h h2
  | some v => exact Still.val v h h2
theorem Still.arith (op : BinOp) (k : IntKind) (a b : Int) : Still (arith op k a b) := by
  intro h h2
  unfold DM.arith
  repeat' split
  all_goals first
    | exact Still.outI _ _ h h2
    | exact Still.outB _ h h2
    | exact Still.fail h h2
theorem Still.shiftD (op : BinOp) (k : IntKind) (a b : Int) : Still (shiftD op k a b) := by
  intro h h2
  unfold DM.shiftD
  repeat' split
  all_goals first
    | exact Still.outI _ _ h h2
    | exact Still.fail h h2
theorem Still.binStr (op : BinOp) (a b : List Nat) : Still (binStr op a b) := by
  intro h h2
  unfold DM.binStr
  repeat' split
  all_goals first
    | exact Still.outB _ h h2
    | exact Still.val _ h h2
    | exact Still.fail h h2
theorem Still.binEq (op : BinOp) (t : TypeId) (c : Bool) (x y : DV) : Still (binEq P op t c x y) := by
  intro h h2
  unfold DM.binEq
  repeat' split
  all_goals first
    | exact Still.outB _ h h2
    | exact Still.fail h h2
theorem Still.binD (op : BinOp) (t : TypeId) (c : Bool) (x y : DV) : Still (binD P op t c x y) := by
  intro h h2
  unfold DM.binD
  repeat' split
  all_goals first
    | exact Still.shiftD _ _ _ _ h h2
    | exact Still.arith _ _ _ _ h h2
    | exact Still.binStr _ _ _ h h2
    | exact Still.binEq _ _ _ _ _ h h2
    | exact Still.fail h h2
end Go.DM
set_option autoImplicit false
set_option linter.unusedVariables false
set_option linter.unusedSimpArgs false
namespace Go.DM
open Go.RowKit
variable {P : Program} {φ ψ : Emb} {w0 w w' : World} {h h' : HS}

/-- what an operation that is no effect has come to -/
inductive Cls (P : Program) (tmps : T DV) (op : Op) (h : HS) (v : DV) (h' : HS) : Prop where
  | still (e : h' = h) (a : ∀ h2, exec P tmps h2 op = .val v h2)
  | new (obj : DObj) (v0 : DV) (k : ∀ c n x, obj ≠ .cells c n (some x)) (i : ∀ b c, reloc b (reloc c v0) = reloc b v0) (a : ∀ h2, exec P tmps h2 op = newObj h2 obj fun b => reloc b v0)
  | read (r : isRead op = true) (e : h' = h)

theorem Cls.ofStill {tmps : T DV} {op : Op} {v : DV} {f : HS → Out} (hf : ∀ h2, exec P tmps h2 op = f h2) (s : Still f) (he : exec P tmps h op = .val v h') : Cls P tmps op h v h' := by
  have hv := (hf h).symm.trans he
  refine .still ((s h h).2 v h' hv) fun h2 => ?_
  rw [hf h2, (s h h2).1, hv]; rfl

theorem Still.xPick (tmps : T DV) (c a b : Operand) : Still fun h => xPick tmps h c a b := by
  intro h h2
  unfold DM.xPick
  repeat' split
  all_goals first | exact Still.val _ h h2 | exact Still.fail h h2
theorem Still.xUn (op : UnOp) (x : DV) : Still fun h => xUn op h x := by
  intro h h2
  unfold DM.xUn
  repeat' split
  all_goals first | exact Still.outB _ h h2 | exact Still.outI _ _ h h2 | exact Still.fail h h2
theorem Still.xIface (t : TypeId) (x : DV) : Still fun h => xIface P h t x := by
  intro h h2
  unfold DM.xIface
  repeat' split
  all_goals first | exact Still.val _ h h2 | exact Still.fail h h2
theorem Still.xMakeFunc (fn : Fn) (a b : List DV) : Still (xMakeFunc fn a b) := by
  intro h h2
  unfold DM.xMakeFunc
  repeat' split
  all_goals first | exact Still.val _ h h2 | exact Still.fail h h2
theorem Still.xNilCheck (x : DV) : Still fun h => xNilCheck h x := by
  intro h h2
  unfold DM.xNilCheck
  repeat' split
  all_goals first | exact Still.val _ h h2 | exact Still.fail h h2
theorem Still.xFieldAddr (t : TypeId) (x : DV) (f : Nat) : Still fun h => xFieldAddr P h t x f := by
  intro h h2
  unfold DM.xFieldAddr
  repeat' split
  all_goals first
    | exact Still.forceN (k := fun m h => .val (.ptr _ m) h) (fun m => Still.val _) h h2
    | exact Still.fail h h2
theorem Still.xField (t : TypeId) (x : DV) (f : Nat) : Still fun h => xField P h t x f := by
  intro h h2
  unfold DM.xField
  repeat' split
  all_goals first | exact Still.outO _ h h2 | exact Still.fail h h2
theorem Still.ixAddr (b o size len : Nat) (i : DV) : Still fun h => ixAddr h b o size len i := by
  intro h h2
  unfold DM.ixAddr
  repeat' split
  all_goals first
    | exact Still.forceN (k := fun m h => .val (.ptr _ m) h) (fun m => Still.val _) h h2
    | exact Still.fail h h2
theorem Still.xIndexAddr (t : TypeId) (x i : DV) : Still fun h => xIndexAddr P h t x i := by
  intro h h2
  unfold DM.xIndexAddr
  repeat' split
  all_goals first | exact Still.ixAddr _ _ _ _ _ h h2 | exact Still.fail h h2
theorem Still.xIndex (t : TypeId) (x i : DV) : Still fun h => xIndex P h t x i := by
  intro h h2
  unfold DM.xIndex
  repeat' split
  all_goals first | exact Still.val _ h h2 | exact Still.outO _ h h2 | exact Still.fail h h2
theorem Still.xArrPtr (a : TypeId) (x : DV) : Still fun h => xArrPtr P h a x := by
  intro h h2
  unfold DM.xArrPtr
  repeat' split
  all_goals first | exact Still.val _ h h2 | exact Still.fail h h2
theorem Still.xExtract (x : DV) (i : Nat) : Still fun h => xExtract h x i := by
  intro h h2
  unfold DM.xExtract
  repeat' split
  all_goals first | exact Still.outO _ h h2 | exact Still.fail h h2
theorem Still.xTypeAssert (x : DV) (a : TypeId) (ok : Bool) : Still fun h => xTypeAssert P h x a ok := by
  intro h h2
  unfold DM.xTypeAssert
  repeat' split
  all_goals first | exact Still.val _ h h2 | exact Still.fail h h2
theorem Still.xBuild (tmps : T DV) (t : TypeId) (ps : List (Nat × Operand)) : Still fun h => xBuild P tmps h t ps := by
  intro h h2
  unfold DM.xBuild
  repeat' split
  all_goals first | exact Still.val _ h h2 | exact Still.fail h h2

theorem cellsOf_kin (l : List DV) : ∀ c n x, cellsOf l ≠ .cells c n (some x) := by intro c n x e; simp [cellsOf] at e
theorem cls_newPtr {tmps : T DV} {op : Op} {v : DV} (l : List DV) (hf : ∀ h2, exec P tmps h2 op = newPtr h2 l) : Cls P tmps op h v h' :=
  .new (cellsOf l) (.ptr 0 0) (cellsOf_kin l) (fun _ _ => rfl) hf
theorem cls_newSl {tmps : T DV} {op : Op} {v : DV} (l : List DV) (len cap sz : Nat) (ex : Bool) (hf : ∀ h2, exec P tmps h2 op = newSl h2 l len cap sz ex) : Cls P tmps op h v h' :=
  .new (cellsOf l) (.slice 0 0 len cap sz ex) (cellsOf_kin l) (fun _ _ => rfl) hf
theorem cls_newMap {tmps : T DV} {op : Op} {v : DV} (hf : ∀ h2, exec P tmps h2 op = newObj h2 (.map []) .map) : Cls P tmps op h v h' :=
  .new (.map []) (.map 0) (by intro c n x e; cases e) (fun _ _ => rfl) hf
theorem outI_val {k : IntKind} {n : Int} {v : DV} (he : outI k n h = .val v h') : h' = h := (Still.outI k n h h).2 v h' he

theorem cls_alloc {tmps : T DV} {v : DV} {e : TypeId} (he : exec P tmps h (.alloc e) = .val v h') : Cls P tmps (.alloc e) h v h' := by
  cases hz : zeroT P e with
  | none => simp [exec, xAlloc, hz] at he
  | some z => exact cls_newPtr z.cells fun h2 => by simp [exec, xAlloc, hz]
theorem cls_box {tmps : T DV} {v : DV} {e : TypeId} {x : Operand} (he : exec P tmps h (.box e x) = .val v h') : Cls P tmps (.box e x) h v h' := by
  cases hz : partOk (eval tmps x) with
  | false => simp [exec, xBox, hz] at he
  | true => exact cls_newPtr (eval tmps x).cells fun h2 => by simp [exec, xBox, hz]
theorem cls_makeMap {tmps : T DV} {v : DV} {t : TypeId} {r : Option Operand} (he : exec P tmps h (.makeMap t r) = .val v h') : Cls P tmps (.makeMap t r) h v h' := by
  simp only [exec] at he
  unfold xMakeMap at he
  split at he
  case h_2 => cases he
  rename_i k e hu
  split at he
  · exact cls_newMap fun h2 => by simp only [exec]; unfold xMakeMap; rw [hu]
  · rename_i x
    split at he
    · rename_i kk n hx
      exact cls_newMap fun h2 => by simp only [exec]; unfold xMakeMap; rw [hu]; simp only; rw [hx]
    · cases he
theorem cls_buildSlice {tmps : T DV} {v : DV} {t : TypeId} {len : Nat} {ps : Array (Nat × Operand)} (he : exec P tmps h (.buildSlice t len ps) = .val v h') : Cls P tmps (.buildSlice t len ps) h v h' := by
  simp only [exec] at he
  unfold xBuildSlice at he
  split at he
  case h_2 => cases he
  rename_i e hu
  split at he
  case h_2 => cases he
  rename_i size z hs hz
  split at he
  case h_2 => cases he
  rename_i hc
  split at he
  case h_2 => cases he
  rename_i l hl
  exact cls_newSl l len len size true fun h2 => by simp only [exec]; unfold xBuildSlice; rw [hu]; simp only; rw [hs, hz]; simp only; rw [hc]; simp only; rw [hl]
theorem cls_makeSlice {tmps : T DV} {v : DV} {t : TypeId} {l c : Operand} (he : exec P tmps h (.makeSlice t l c) = .val v h') : Cls P tmps (.makeSlice t l c) h v h' := by
  simp only [exec] at he
  unfold xMakeSlice at he
  split at he
  case h_2 => cases he
  rename_i ll cc e hl hc hu
  split at he
  case h_2 => cases he
  rename_i size z hs hz
  split at he
  case h_2 => cases he
  rename_i n hc' hb
  split at he
  case h_2 => cases he
  rename_i hn
  exact cls_newSl (repl z.cells cc) ll cc size true fun h2 => by simp only [exec]; unfold xMakeSlice; rw [hl, hc, hu]; simp only; rw [hs, hz]; simp only; rw [hc', hb]; simp only; rw [hn]
theorem cls_convert {tmps : T DV} {v : DV} {s d : TypeId} {x : Operand} (he : exec P tmps h (.convert s d x) = .val v h') : Cls P tmps (.convert s d x) h v h' := by
  have he0 := he
  simp only [exec] at he
  by_cases hh : h' = h
  · exact .read rfl hh
  · unfold convD at he
    split at he
    · cases he
    rename_i us hus
    split at he
    · split at he
      · exact absurd (outI_val he) hh
      · cases he
    · rename_i st hst
      split at he
      · cases he; exact absurd rfl hh
      · rename_i e hu
        split at he
        · rename_i hu8
          exact cls_newSl (ofBytes st) st.length st.length 1 false fun h2 => by simp only [exec]; unfold convD; rw [hus]; simp only; rw [hst]; simp only; rw [hu]; simp only; rw [hu8]
        · cases he
      · cases he
    · split at he
      · split at he
        · cases he; exact absurd rfl hh
        · cases he
      · cases he
    · repeat' split at he
      all_goals first | (cases he; done) | (cases he; exact absurd rfl hh)
    · cases he
theorem lookup_val {t : TypeId} {m k v : DV} {ok : Bool} (he : xLookup P h t m k ok = .val v h') : h' = h := by
  unfold xLookup at he
  repeat' split at he
  all_goals first | (cases he; done) | (cases he; rfl)
theorem load_val {t : TypeId} {a v : DV} (he : xLoad P h t a = .val v h') : h' = h := by
  unfold xLoad at he
  split at he
  · exact (Still.outO _ h h).2 v h' he
  · cases he
theorem sliceOf_val {b o size cap : Nat} {ex : Bool} {l hi : Nat} {hs : Bool} {mx : Option DV} {v : DV} (he : sliceOf h b o size cap ex l hi hs mx = .val v h') : h' = h := by
  unfold sliceOf at he
  repeat' split at he
  all_goals first | (cases he; done) | (cases he; rfl)
theorem slice_val {t : TypeId} {x v : DV} {lo hi mx : Option DV} (he : sliceD P h t x lo hi mx = .val v h') : h' = h := by
  unfold sliceD at he
  repeat' split at he
  all_goals first | (cases he; done) | (cases he; rfl) | exact sliceOf_val he
theorem outN_val {n : Nat} {v : DV} (he : outN n h = .val v h') : h' = h := by
  unfold outN at he
  exact (Still.forceN (k := fun m h => .val (.int .i64 (.ofNat m)) h) (fun m => Still.val _) h h).2 v h' he
theorem len_val {ts : Array TypeId} {x v : DV} (he : xLen P h ts x = .val v h') : h' = h := by
  unfold xLen at he
  repeat' split at he
  all_goals first | (cases he; done) | exact outN_val he
theorem cap_val {ts : Array TypeId} {x v : DV} (he : xCap P h ts x = .val v h') : h' = h := by
  unfold xCap at he
  repeat' split at he
  all_goals first | (cases he; done) | exact outN_val he
theorem max_val {x y v : DV} (he : xMax h x y = .val v h') : h' = h := by
  unfold xMax at he
  split at he
  · exact outI_val he
  · cases he
theorem min_val {x y v : DV} (he : xMin h x y = .val v h') : h' = h := by
  unfold xMin at he
  split at he
  · exact outI_val he
  · cases he
theorem quietCall_val {tmps : T DV} {c : Call} {v : DV} (hq : isEffect (.call c) = false) (he : xCall P tmps h c = .val v h') : h' = h := by
  simp only [isEffect] at hq
  unfold xCall at he
  split at hq <;> try (cases hq; done)
  all_goals
    rename_i hc
    rw [hc] at he
    simp only at he
    unfold xBuiltin at he
    simp only at he
    split at he
    · first | exact len_val he | exact cap_val he | exact max_val he | exact min_val he
    · cases he

theorem exec_class {tmps : T DV} {op : Op} {v : DV} (hq : isEffect op = false) (he : exec P tmps h op = .val v h') : Cls P tmps op h v h' := by
  cases op
  case move x => exact .ofStill (f := fun h => .val (eval tmps x) h) (fun _ => rfl) (Still.val _) he
  case pick c a b => exact .ofStill (fun _ => rfl) (Still.xPick tmps c a b) he
  case alloc e => exact cls_alloc he
  case box e x => exact cls_box he
  case build t ps => exact .ofStill (fun _ => rfl) (Still.xBuild tmps t ps.toList) he
  case buildSlice t n ps => exact cls_buildSlice he
  case load t a => exact .read rfl (load_val he)
  case nilCheck x => exact .ofStill (fun _ => rfl) (Still.xNilCheck _) he
  case binOp o t x y yt => exact .ofStill (fun _ => rfl) (Still.binD _ _ _ _ _) he
  case unOp o t x => exact .ofStill (fun _ => rfl) (Still.xUn _ _) he
  case convert s d x => exact cls_convert he
  case makeInterface t x => exact .ofStill (fun _ => rfl) (Still.xIface _ _) he
  case makeFunc fn a b => exact .ofStill (fun _ => rfl) (Still.xMakeFunc _ _ _) he
  case makeMap t r => exact cls_makeMap he
  case makeSlice t l c => exact cls_makeSlice he
  case slice t x l hh m => exact .read rfl (slice_val he)
  case fieldAddr t x f => exact .ofStill (fun _ => rfl) (Still.xFieldAddr _ _ _) he
  case field t x f => exact .ofStill (fun _ => rfl) (Still.xField _ _ _) he
  case indexAddr t x i => exact .ofStill (fun _ => rfl) (Still.xIndexAddr _ _ _) he
  case index t x i => exact .ofStill (fun _ => rfl) (Still.xIndex _ _ _) he
  case sliceToArrayPointer a x => exact .ofStill (fun _ => rfl) (Still.xArrPtr _ _) he
  case lookup t x i ok => exact .read rfl (lookup_val he)
  case extract t i => exact .ofStill (fun _ => rfl) (Still.xExtract _ _) he
  case typeAssert x t a ok => exact .ofStill (fun _ => rfl) (Still.xTypeAssert _ _ _) he
  case call c => exact .read rfl (quietCall_val hq he)
  all_goals first | (simp [isEffect] at hq; done) | (simp only [exec] at he; cases he)
end Go.DM
