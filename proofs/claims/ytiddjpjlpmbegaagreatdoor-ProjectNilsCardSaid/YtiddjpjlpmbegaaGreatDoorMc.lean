import Derived.Test.YtiddjpjlpmbegaaGreatDoorMb
import Derived.Laws.BytesArg
set_option linter.unusedVariables false
set_option linter.unusedSimpArgs false
set_option linter.unnecessarySimpa false
set_option autoImplicit false
set_option linter.unusedVariables false
set_option linter.unusedSimpArgs false
namespace Go.DM
open Go.RowKit
variable {P : Program} {φ ψ : Emb} {w0 w w' : World} {h h' : HS}

theorem isU8_iff {e : TypeId} (h : isU8 P e = true) : under P e = some (.int .u8) := by
  unfold isU8 at h
  split at h
  · assumption
  · cases h
theorem ofBytes_len (s : List Nat) : (ofBytes s).length = s.length := by simp [ofBytes]
theorem push_modify {α : Type} (a : Array α) (x : α) (f : α → α) : (a.push x).modify a.size f = a.push (f x) := by
  apply Array.ext_getElem?
  intro i
  rw [Array.getElem?_modify, Array.getElem?_push, Array.getElem?_push]
  by_cases h : i = a.size
  · subst h; simp
  · rw [if_neg (fun e => h e.symm), if_neg h, if_neg h]
theorem freeze_push (w : World) (rc : Array Value) (e : TypeId) (n : Nat) : ({ w with heap := w.heap.push (.cells rc e) } : World).freeze ⟨w.heap.size, n, none⟩ 1 = { w with heap := w.heap.push (.cells rc e (n, n + 1)) } := by
  unfold World.freeze
  rw [if_neg (by decide)]
  simp only [push_modify]
  rfl
theorem bytes_values (s : ByteArray) : (s.data.map fun b => (Value.int .u8 b.toNat)).toList = s.data.toList.map fun b => Value.int .u8 b.toNat := by simp
theorem VRL_ofBytes {s : ByteArray} {l : List Nat} (h : s.data.toList.map UInt8.toNat = l) : VRL P φ (ofBytes l) (s.data.toList.map fun b => Value.int .u8 b.toNat) := by
  subst h
  unfold ofBytes
  induction s.data.toList with
  | nil => exact VRL.nil
  | cons x xs ih => exact VRL.cons (by simp only [VR]; rfl) ih
theorem bytesD_spec {vs : List DV} {s : List Nat} (h : bytesD vs = some s) : vs = s.map (fun n => DV.int .u8 (.ofNat n)) ∧ ∀ n, n ∈ s → n < 256 := by
  induction vs generalizing s with
  | nil => simp only [bytesD, Option.some.injEq] at h; subst h; simp
  | cons v vs ih =>
    unfold bytesD at h
    split at h
    · cases ‹_ :: _ = []›
    · rename_i n vs' hc
      simp only [List.cons.injEq] at hc
      obtain ⟨rfl, rfl⟩ := hc
      split at h
      · rename_i hb hs
        simp only [Option.some.injEq] at h
        subst h
        obtain ⟨h1, h2⟩ := ih hs
        refine ⟨by simp [h1], fun m hm => ?_⟩
        simp only [List.mem_cons] at hm
        rcases hm with rfl | hm
        · simpa [Nat.blt_eq] using hb
        · exact h2 m hm
      · cases h
    · cases h

theorem outI_q {k : IntKind} {n : Int} {r : Result Next} (hr : r = .ok (.value (.int k n)) w) : QR P w0 φ h w (outI k n h) r := by
  subst hr
  unfold outI forceN
  split <;> rename_i m <;> cases m <;> (refine QR.pure ?_ rfl; rfl)
theorem conv_q {ρ : Operand → Value} {o : Oper} {src dst : TypeId} {x : Operand} {d : DV} (H : HR P w0 φ h w) (ho : o.op = .convert src dst x) (hv : VR P φ d (ρ x)) : QR P w0 φ h w (convD P h src dst d) ((execOp ρ o).run P w) := by
  have hr0 : (execOp ρ o).run P w = ((convert src dst (ρ x)).run P w).andThen fun v w => .ok (Next.value v) w := by simp [execOp, ho, Sem.run_bind]
  rw [hr0]
  unfold convD
  split
  · trivial
  · rename_i sd hsd
    split
    · rename_i k n
      simp only [VR] at hv
      split
      · rename_i k' hd
        refine outI_q ?_
        rw [hv, wrapK_eq]
        simp only [convert, Sem.run_bind, run_underlying hsd, run_underlying hd, Result.andThen_ok]
        cases sd <;> rfl
      · trivial
    · rename_i l
      have hv0 := hv
      simp only [VR] at hv
      obtain ⟨s, h1, h2⟩ := hv
      split
      · rename_i hd
        have hr : ((convert src dst (ρ x)).run P w).andThen (fun v w => .ok (Next.value v) w) = .ok (.value (ρ x)) w := by
          rw [h1]
          simp only [convert, Sem.run_bind, run_underlying hsd, run_underlying hd, Result.andThen_ok]
          cases sd <;> rfl
        exact QR.pure hv0 hr
      · rename_i e hd
        split
        · rename_i hu
          have hu := isU8_iff hu
          -- bytes of a text: the capacity is drawn
          have hlen : l.length = s.size := str_size h2
          generalize hcap : Question.cut (.appendCap s.size 0 e) (w.tape w.drawn (.appendCap s.size 0 e)) = cap
          have hle : s.size ≤ cap := by rw [← hcap]; exact Nat.le_add_right _ _
          refine newSl_q' (d := w.drawn + 1) (VRL_ofBytes h2) ((s.data.map fun b => Value.int .u8 b.toNat) ++ Array.replicate (cap - s.size) (.int .u8 0)) e (cap, cap + 1) (.inr ?_) ?_ ?_ (Nat.le_refl _) (rcap := cap) (by omega) (by simp) (by simp; omega) ?_
          · simp; omega
          · intro i hi
            rw [ofBytes_len] at hi
            have hi' : i < s.data.size := by rw [hlen] at hi; exact hi
            rw [Array.getElem?_append_left (by simpa using hi')]
            simp
          · rw [ofBytes_len]; simp; omega
          · rw [h1]
            have hrun : (Conv.stringToBytes e s).run P w = .ok (.slice (some ⟨w.heap.size, 0, none⟩) s.size cap)
                { w with drawn := w.drawn + 1, heap := w.heap.push (.cells ((s.data.map fun b => Value.int .u8 b.toNat) ++ Array.replicate (cap - s.size) (.int .u8 0)) e (cap, cap + 1)) } := by
              unfold Conv.stringToBytes
              simp only [Sem.run_bind, run_choose, Question.forced, Bool.false_eq_true, if_false, Result.andThen_ok, hcap, newRow, run_newObj, Sem.run_pure]
              unfold markStringish
              have hshape : ({ w with drawn := w.drawn + 1, heap := w.heap.push (.cells ((s.data.map fun b => Value.int .u8 b.toNat) ++ Array.replicate (cap - s.size) (.int .u8 0)) e) } : World).shape? w.heap.size = some (e, cap) := by
                simp only [World.shape?, Array.getElem?_push_size]
                simp
                show s.data.size + (cap - s.size) = cap
                have : s.data.size = s.size := rfl
                omega
              simp only [Sem.run_bind, run_shape, hshape, Result.andThen_ok, run_freeze]
              have := freeze_push { w with drawn := w.drawn + 1 } ((s.data.map fun b => Value.int .u8 b.toNat) ++ Array.replicate (cap - s.size) (.int .u8 0)) e cap
              simp only at this
              rw [this]
            simp only [convert, Sem.run_bind, run_underlying hsd, run_underlying hd, Result.andThen_ok]
            cases sd <;> simp only [Sem.run_bind, run_underlying hu, Result.andThen_ok, hrun, hlen]
        · trivial
      · trivial
    · simp only [VR] at hv
      split
      · rename_i e hs hd
        split
        · rename_i hu
          have hr : ((convert src dst (ρ x)).run P w).andThen (fun v w => .ok (Next.value v) w) = .ok (.value (.string ByteArray.empty)) w := by
            rw [hv, run_convert_bytes_nil w src e hs (isU8_iff hu) 0 0 dst hd]; rfl
          refine QR.pure ?_ hr
          exact ⟨_, rfl, rfl⟩
        · trivial
      · trivial
    · rename_i b off l cap sz ex
      have hv0 := hv
      simp only [VR] at hv
      obtain ⟨rb, ro, rcap, h1, h2, h3, h4, h5⟩ := hv
      split
      · rename_i e hs hd
        split
        · rename_i hu
          split
          · rename_i vs hl
            split
            · rename_i str hst
              obtain ⟨k1, k2⟩ := bytesD_spec hst
              have hlen : str.length = l := by
                have : vs.length = l := by
                  unfold DM.loadN at hl
                  split at hl
                  · exact (T.getL_some _ _ _ _ hl).1
                  · cases hl
                rw [k1] at this
                simpa using this
              have hcell : ∀ i, i < l → w.cell? ⟨rb, ro + i, none⟩ = some (.int .u8 ((str.map Int.ofNat).getD i 0)) := by
                intro i hi
                rcases h5 with h5 | ⟨sh, h5, h6, _⟩
                · omega
                · obtain ⟨_, q⟩ := H.loadN h5 hl
                  obtain ⟨d', v', q1, q2, q3⟩ := q i hi
                  subst h6
                  rw [q2]
                  rw [k1] at q1
                  have hi' : i < str.length := by omega
                  simp [List.getElem?_eq_getElem hi'] at q1
                  subst q1
                  simp only [VR] at q3
                  subst q3
                  simp [List.getD_eq_getElem?_getD, List.getElem?_eq_getElem hi']
              have hr : ((convert src dst (ρ x)).run P w).andThen (fun v w => .ok (Next.value v) w) = .ok (.value (.string (strOfNums (str.map Int.ofNat)))) w := by
                rw [h1, run_convert_bytes_arg w src e hs (isU8_iff hu) rb ro l rcap (str.map Int.ofNat) (by simpa using hlen) hcell dst hd]; rfl
              refine QR.pure ?_ hr
              refine ⟨_, rfl, ?_⟩
              simp only [strOfNums, List.map_map]
              rw [List.map_congr_left (g := id)]
              · simp
              · intro n hn
                have := k2 n hn
                simp
                omega
            · trivial
          · trivial
        · trivial
      · rename_i e' e hs hd
        split
        · rename_i heq hu
          have heq := Nat.eq_of_beq_eq_true heq
          subst heq
          simp only [Bool.and_eq_true] at hu
          obtain ⟨hu, hpos⟩ := hu
          have hpos : 0 < cap := by simpa [Nat.blt_eq] using hpos
          have hu := isU8_iff hu
          have hsd' : sd = .slice e := by rw [hd] at hsd; simpa using hsd.symm
          -- a mark is laid behind the row
          have hmark : ∃ w', (markStringish ⟨rb, ro, none⟩).run P w = .ok () w' ∧ HR P w0 φ h w' := by
            unfold markStringish
            cases hsh : w.shape? rb with
            | none => exact ⟨w, by simp [Sem.run_bind, hsh], H⟩
            | some y =>
              obtain ⟨el, n⟩ := y
              refine ⟨w.freeze ⟨rb, n, none⟩ 1, by simp [Sem.run_bind, hsh], ?_⟩
              have hblk : ∃ rc fz, w.heap[rb]? = some (.cells rc el fz) ∧ rc.size = n := by
                unfold World.shape? at hsh
                split at hsh
                · rename_i c e2 fz hc
                  simp only [Option.some.injEq, Prod.mk.injEq] at hsh
                  exact ⟨c, fz, by rw [hc, hsh.1], hsh.2⟩
                · cases hsh
              obtain ⟨rc, fz, hblk, hn⟩ := hblk
              have hdom : ∃ c sh, φ c = some (rb, sh) := by
                rcases h5 with h5 | ⟨sh, h5, _⟩
                · omega
                · exact ⟨b, sh, h5⟩
              · obtain ⟨c0, sh0, hc0⟩ := hdom
                have hd0 := H.dom c0 rb sh0 hc0
                have hold : ∀ k, k ≠ rb → (w.freeze ⟨rb, n, none⟩ 1).heap[k]? = w.heap[k]? := by
                  intro k hk
                  simp only [World.freeze, if_neg (show ¬ (1 = 0) from by decide), Array.getElem?_modify]
                  rw [if_neg (fun e => hk e.symm)]
                have hnew : ∃ fz', (w.freeze ⟨rb, n, none⟩ 1).heap[rb]? = some (.cells rc el fz') ∧ ((fz.1 = fz.2 ∨ rc.size ≤ fz.1) → (fz'.1 = fz'.2 ∨ rc.size ≤ fz'.1)) := by
                  obtain ⟨lo, hi⟩ := fz
                  simp only [World.freeze, if_neg (show ¬ (1 = 0) from by decide), Array.getElem?_modify, if_true, hblk, Option.map_some]
                  refine ⟨_, rfl, ?_⟩
                  intro hcond
                  have hcond : lo = hi ∨ rc.size ≤ lo := hcond
                  by_cases hlh : lo = hi
                  · subst hlh; simp; omega
                  · have : (lo == hi) = false := by simpa using hlh
                    simp [this]
                    omega
                obtain ⟨fz', hnew, hfz⟩ := hnew
                exact {
                  below := H.below.trans ⟨by simp [World.freeze], by simp [World.freeze], by simp [World.freeze], by simp [World.freeze], fun k hk => hold k (by omega)⟩
                  dom := fun c r s e1 => by
                    obtain ⟨a1, a2, a3⟩ := H.dom c r s e1
                    exact ⟨a1, a2, by simpa [World.freeze] using a3⟩
                  objs := fun c r s o1 e1 e2 => by
                    by_cases hr : r = rb
                    · subst hr
                      have hor := H.objs c r s o1 e1 e2
                      cases o1 with
                      | cells cc m kin =>
                        obtain ⟨rc', el', fz0, b1, b2, b3, b4⟩ := hor
                        rw [hblk] at b1
                        simp only [Option.some.injEq, Obj.cells.injEq] at b1
                        obtain ⟨rfl, rfl, rfl⟩ := b1
                        exact ⟨rc, el, fz', hnew, b2, hfz b3, b4⟩
                      | map es => obtain ⟨_, _, _, b1, _⟩ := hor; rw [hblk] at b1; cases b1
                      | loop => obtain ⟨_, _, b1, _⟩ := hor; rw [hblk] at b1; cases b1
                      | deferred => have b1 := hor.2; rw [hblk] at b1; cases b1
                      | shuf ls =>
                        obtain ⟨h0, rc', el', fz0, b1, b2, b3⟩ := hor
                        rw [hblk] at b1
                        simp only [Option.some.injEq, Obj.cells.injEq] at b1
                        obtain ⟨rfl, rfl, rfl⟩ := b1
                        exact ⟨h0, rc, el, fz', hnew, b2, b3⟩
                    · exact (H.objs c r s o1 e1 e2).mono (Emb.le_refl φ) rfl (hold r hr)
                  fresh := H.fresh
                  gfresh := H.gfresh
                  kin := H.kin
                  gmem := H.gmem
                  apart := H.apart }
          obtain ⟨w', hm1, hm2⟩ := hmark
          have hr : ((convert src src (ρ x)).run P w).andThen (fun v w => .ok (Next.value v) w) = .ok (.value (ρ x)) w' := by
            rw [h1]
            subst hsd'
            simp only [convert, Sem.run_bind, run_underlying hd, Result.andThen_ok, run_underlying hu, beq_self_eq_true, hm1, Sem.run_pure]
          exact hr ▸ .inr (.inr ⟨⟨_, rfl⟩, φ, w', .value (ρ x), ρ x, rfl, .inl rfl, Emb.le_refl φ, hm2, hv0, Kept.refl φ h⟩)
        · trivial
      · trivial
    · trivial
theorem conv_sim {ρ : Operand → Value} {o : Oper} {src dst : TypeId} {x : Operand} {d : DV} (H : HR P w0 φ h w) (ho : o.op = .convert src dst x) (hv : VR P φ d (ρ x)) : OutR P w0 φ h w (convD P h src dst d) ((execOp ρ o).run P w) := (conv_q H ho hv).out H
end Go.DM
set_option autoImplicit false
set_option linter.unusedVariables false
set_option linter.unusedSimpArgs false
namespace Go.DM
open Go.RowKit
variable {P : Program} {φ ψ : Emb} {w0 w w' : World} {h h' : HS}

/-! ### filling -/
theorem foldSet (off : Nat) : ∀ (l : List Value) (s : Nat) (cs : Array Value), ((l.zipIdx s).foldl (fun cs (x : Value × Nat) => cs.setIfInBounds (off + x.2) x.1) cs).size = cs.size ∧
    ∀ k, ((l.zipIdx s).foldl (fun cs (x : Value × Nat) => cs.setIfInBounds (off + x.2) x.1) cs)[k]? = if off + s ≤ k ∧ k < off + s + l.length ∧ k < cs.size then l[k - (off + s)]? else cs[k]? := by
  intro l
  induction l with
  | nil => intro s cs; refine ⟨rfl, fun k => ?_⟩; rw [if_neg (by simp; omega)]; rfl
  | cons v l ih =>
    intro s cs
    simp only [List.zipIdx_cons, List.foldl_cons]
    obtain ⟨h1, h2⟩ := ih (s + 1) (cs.setIfInBounds (off + s) v)
    refine ⟨by rw [h1]; simp, fun k => ?_⟩
    rw [h2 k]
    simp only [Array.size_setIfInBounds, List.length_cons]
    by_cases c : off + (s + 1) ≤ k ∧ k < off + (s + 1) + l.length ∧ k < cs.size
    · rw [if_pos c, if_pos (by omega)]
      obtain ⟨j, rfl⟩ : ∃ j, k = off + (s + 1) + j := ⟨k - (off + (s + 1)), by omega⟩
      rw [show off + (s + 1) + j - (off + (s + 1)) = j from by omega, show off + (s + 1) + j - (off + s) = j + 1 from by omega]
      simp
    · rw [if_neg c, Array.getElem?_setIfInBounds]
      by_cases c2 : off + s = k
      · subst c2
        by_cases c3 : off + s < cs.size
        · rw [if_pos rfl, if_pos c3, if_pos (by omega)]; simp
        · rw [if_pos rfl, if_neg c3, if_neg (by omega), Array.getElem?_eq_none (by omega)]
      · rw [if_neg c2, if_neg (by omega)]
def PartsR (P : Program) (φ : Emb) : List (Nat × DV) → List (Nat × Value) → Prop
  | [], l => l = []
  | x :: xs, l => ∃ y ys, l = y :: ys ∧ y.1 = x.1 ∧ VR P φ x.2 y.2 ∧ PartsR P φ xs ys
theorem fill_sim {placeD placeR : Nat → Option (Nat × Nat)} (hp : ∀ i x, placeD i = some x → placeR i = some x) : ∀ (parts : List (Nat × DV)) (rparts : List (Nat × Value)) (cells l : List DV) (rc : Array Value),
    fillD placeD parts cells = some l → PartsR P φ parts rparts → VRL P φ cells rc.toList → ∃ cs, Instr.fill placeR rc rparts = some cs ∧ VRL P φ l cs.toList := by
  intro parts
  induction parts with
  | nil => intro rparts cells l rc h1 h2 h3; simp only [PartsR] at h2; subst h2; simp only [fillD, Option.some.injEq] at h1; subst h1; exact ⟨rc, rfl, h3⟩
  | cons x xs ih =>
    intro rparts cells l rc h1 h2 h3
    obtain ⟨i, d⟩ := x
    simp only [PartsR] at h2
    obtain ⟨⟨i', v⟩, ys, rfl, hi, hv, h4⟩ := h2
    simp only at hi hv
    subst hi
    simp only [fillD] at h1
    split at h1
    · cases h1
    · rename_i off size hpl
      split at h1
      · rename_i hb1 hb2
        simp only [Bool.and_eq_true] at hb2
        have hb1 : d.cells.length = size := Nat.eq_of_beq_eq_true hb1
        have hb2' : off + size ≤ cells.length := Nat.le_of_ble_eq_true hb2.1
        have hvc := partOk_cells hb2.2 hv
        have hlen1 : d.cells.length = v.cells.size := by simpa using VRL.length hvc
        have hlen2 : cells.length = rc.size := by simpa using VRL.length h3
        have hsp := foldSet off v.cells.toList 0 rc
        have hnew : VRL P φ (cells.take off ++ (d.cells ++ cells.drop (off + size))) (((v.cells.toList.zipIdx 0).foldl (fun cs (x : Value × Nat) => cs.setIfInBounds (off + x.2) x.1) rc).toList) := by
          refine VRL_iff.2 ⟨by simp [hsp.1]; omega, fun k d' v' k1 k2 => ?_⟩
          have k2 : ((v.cells.toList.zipIdx 0).foldl (fun cs (x : Value × Nat) => cs.setIfInBounds (off + x.2) x.1) rc)[k]? = some v' := by simpa using k2
          rw [hsp.2] at k2
          simp only [Nat.add_zero] at k2
          rw [List.getElem?_append] at k1
          simp only [List.length_take] at k1
          have hmin : min off cells.length = off := by omega
          rw [hmin] at k1
          by_cases c1 : k < off
          · rw [if_pos c1] at k1
            rw [if_neg (by omega)] at k2
            rw [List.getElem?_take, if_pos c1] at k1
            exact (VRL_iff.1 h3).2 k d' v' k1 (by simpa using k2)
          · rw [if_neg c1, List.getElem?_append] at k1
            by_cases c2 : k - off < d.cells.length
            · rw [if_pos c2] at k1
              rw [if_pos ⟨by omega, by simp; omega, by omega⟩] at k2
              exact (VRL_iff.1 hvc).2 (k - off) d' v' k1 k2
            · rw [if_neg c2, List.getElem?_drop] at k1
              rw [if_neg (by simp; omega)] at k2
              have : off + size + (k - off - d.cells.length) = k := by omega
              rw [this] at k1
              exact (VRL_iff.1 h3).2 k d' v' k1 (by simpa using k2)
        obtain ⟨cs, q1, q2⟩ := ih ys _ l _ h1 h4 hnew
        refine ⟨cs, ?_, q2⟩
        simp only [Instr.fill, hp _ _ hpl]
        rw [if_neg (by simp; omega)]
        rw [← q1]
        congr 1
        rw [← Array.foldl_toList, Array.toList_zipIdx]
      · cases h1
theorem PartsR_of {tmps : T DV} {ρ : Operand → Value} : ∀ (ps : List (Nat × Operand)), (∀ i x, (i, x) ∈ ps → VR P φ (eval tmps x) (ρ x)) → PartsR P φ (evalParts tmps ps) (ps.map fun (i, x) => (i, ρ x)) := by
  intro ps
  induction ps with
  | nil => intro _; rfl
  | cons p ps ih =>
    intro hq
    obtain ⟨i, x⟩ := p
    exact ⟨(i, ρ x), _, rfl, rfl, hq i x (by simp), ih fun i x hx => hq i x (by simp [hx])⟩
theorem run_places {fs : List Field} (h1 : sizedAll P fs = true) : (fs.mapM (m := Sem) fun f => do pure (f.offset, ← sizeOf f.type)).run P w = .ok (fs.map fun f => (f.offset, (sizeT P f.type).getD 0)) w := by
  induction fs with
  | nil => rfl
  | cons f fs ih =>
    unfold sizedAll at h1
    split at h1
    · rename_i n hn
      simp only [List.mapM_cons, Sem.run_bind, run_sizeOf hn, ih h1, hn, Result.andThen_ok, Sem.run_pure, List.map_cons, Option.getD_some]
    · cases h1
theorem zero_cells {t : TypeId} {z : DV} {v : Value} (e : z = ofValue v) (hz : partOk z = true) : VRL P φ z.cells v.cells.toList := by
  subst e
  exact partOk_cells hz (VR_ofValue v)
theorem build_sim {tmps : T DV} {ρ : Operand → Value} {o : Oper} {t : TypeId} {ps : Array (Nat × Operand)} (H : HR P w0 φ h w) (ho : o.op = .build t ps) (hq : ∀ i x, (i, x) ∈ ps.toList → VR P φ (eval tmps x) (ρ x)) :
    OutR P w0 φ h w (xBuild P tmps h t ps.toList) ((execOp ρ o).run P w) := by
  have hparts := PartsR_of ps.toList hq
  have hpl : (ps.map fun (i, x) => (i, ρ x)).toList = ps.toList.map fun (i, x) => (i, ρ x) := by simp
  unfold xBuild
  split
  · rename_i z fs hz hu
    obtain ⟨zv, hz1, hz2⟩ := run_zero (w := w) hz
    split
    · rename_i hsz
      simp only [Bool.and_eq_true] at hsz
      obtain ⟨hsz, hpz⟩ := hsz
      split
      · rename_i l hf
        have hzc : VRL P φ z.cells zv.cells.toList := by
          exact zero_cells (t := t) hz2 hpz
        obtain ⟨cs, q1, q2⟩ := fill_sim (P := P) (φ := φ) (placeR := fun i => (fs.map fun f => (f.offset, (sizeT P f.type).getD 0))[i]?) (fun i x hx => by
          unfold fieldPlace at hx
          split at hx
          · rename_i f hf
            split at hx
            · rename_i n hn
              simp only [Option.some.injEq] at hx
              subst hx
              simp [hf, hn]
            · cases hx
          · cases hx) _ _ _ _ _ hf hparts hzc
        have hr : (execOp ρ o).run P w = .ok (.value (.agg cs)) w := by
          simp only [execOp, ho, Instr.build, Sem.run_bind, hz1, Result.andThen_ok, run_underlying hu]
          have hm : (fs.mapM (m := Sem) fun f => do pure (f.offset, ← sizeOf f.type)).run P w = .ok (fs.map fun f => (f.offset, (sizeT P f.type).getD 0)) w := by
            rw [Array.mapM_eq_mapM_toList]
            rw [Sem.run_map, run_places hsz, Result.andThen_ok]
            congr 1
            rw [← Array.toList_map]
          simp only [hm, Result.andThen_ok, hpl, q1, Sem.run_pure]
        exact hr ▸ ValR.pure H ⟨cs, rfl, q2⟩
      · trivial
    · trivial
  · rename_i z n e hz hu
    obtain ⟨zv, hz1, hz2⟩ := run_zero (w := w) hz
    split
    · rename_i size hs hpz
      split
      · rename_i l hf
        have hzc : VRL P φ z.cells zv.cells.toList := by
          exact zero_cells (t := t) hz2 hpz
        obtain ⟨cs, q1, q2⟩ := fill_sim (P := P) (φ := φ) (placeR := fun i => some (i * size, size)) (fun i x hx => hx) _ _ _ _ _ hf hparts hzc
        have hr : (execOp ρ o).run P w = .ok (.value (.agg cs)) w := by
          simp only [execOp, ho, Instr.build, Sem.run_bind, hz1, Result.andThen_ok, run_underlying hu, run_sizeOf hs, hpl, q1, Sem.run_pure]
        exact hr ▸ ValR.pure H ⟨cs, rfl, q2⟩
      · trivial
    · trivial
  · trivial
end Go.DM
set_option autoImplicit false
set_option linter.unusedVariables false
set_option linter.unusedSimpArgs false
namespace Go.DM
open Go.RowKit
variable {P : Program} {φ ψ : Emb} {w0 w w' : World} {h h' : HS}

theorem repl_len (l : List DV) (n : Nat) : (repl l n).length = n * l.length := by
  induction n with
  | zero => simp [repl]
  | succ n ih => simp only [repl, List.length_append, ih, Nat.succ_mul]; omega
theorem VRL_repl {l : List DV} {vs : List Value} (hv : VRL P φ l vs) (n : Nat) : VRL P φ (repl l n) (List.replicate n vs).flatten := by
  induction n with
  | zero => exact VRL.nil
  | succ n ih => simp only [repl, List.replicate_succ, List.flatten_cons]; exact hv.append ih
theorem flat_get {α : Type} (vs : List α) (n i : Nat) (hi : i < n * vs.length) : (List.replicate n vs).flatten[i]? = vs[i % vs.length]? := by
  induction n generalizing i with
  | zero => simp at hi
  | succ n ih =>
    simp only [List.replicate_succ, List.flatten_cons, List.getElem?_append]
    by_cases h : i < vs.length
    · rw [if_pos h, Nat.mod_eq_of_lt h]
    · rw [if_neg h, ih (i - vs.length) (by rw [Nat.succ_mul] at hi; omega)]
      congr 1
      rw [← Nat.mod_eq_sub_mod (by omega)]
theorem zeros_array (zero : Array Value) (n m : Nat) (hz : zero.size = m) : (Array.range (n * m)).map (fun i => zero[i % zero.size]!) = (List.replicate n zero.toList).flatten.toArray := by
  apply Array.ext_getElem?
  intro i
  by_cases h : i < n * m
  · have hm : 0 < m := by rcases Nat.eq_zero_or_pos m with e | e; subst e; simp at h; exact e
    have hmod : i % zero.size < zero.size := Nat.mod_lt _ (by omega)
    have := flat_get zero.toList n i (by simpa [hz] using h)
    simp only [Array.getElem?_map, Array.getElem?_range, if_pos h, Option.map_some, List.getElem?_toArray, this]
    have e : zero[i % zero.size]! = zero[i % zero.size] := getElem!_pos zero (i % zero.size) hmod
    rw [e]
    simp [Array.getElem?_eq_getElem hmod]
  · simp only [Array.getElem?_map, Array.getElem?_range, if_neg h, Option.map_none, List.getElem?_toArray]
    rw [List.getElem?_eq_none]
    simp [hz]
    omega
theorem range0 {α : Type} (f : Nat → α) : (Array.range 0).map f = #[] := by apply Array.ext_getElem?; intro i; simp
theorem fillD_len {place : Nat → Option (Nat × Nat)} : ∀ {ps : List (Nat × DV)} {cells l : List DV}, fillD place ps cells = some l → l.length = cells.length := by
  intro ps
  induction ps with
  | nil => intro cells l h; simp only [fillD, Option.some.injEq] at h; rw [h]
  | cons p ps ih =>
    intro cells l h
    obtain ⟨i, v⟩ := p
    simp only [fillD] at h
    split at h
    · cases h
    · split at h
      · rename_i hb1 hb2
        simp only [Bool.and_eq_true] at hb2
        have hb1 := Nat.eq_of_beq_eq_true hb1
        have hb2 := Nat.le_of_ble_eq_true hb2.1
        rw [ih h]
        simp
        omega
      · cases h
theorem buildSlice_q {tmps : T DV} {ρ : Operand → Value} {o : Oper} {t : TypeId} {len : Nat} {ps : Array (Nat × Operand)} (ho : o.op = .buildSlice t len ps) (hq : ∀ i x, (i, x) ∈ ps.toList → VR P φ (eval tmps x) (ρ x)) :
    QR P w0 φ h w (xBuildSlice P tmps h t len ps.toList) ((execOp ρ o).run P w) := by
  have hparts := PartsR_of ps.toList hq
  have hpl : (ps.map fun (i, x) => (i, ρ x)).toList = ps.toList.map fun (i, x) => (i, ρ x) := by simp
  unfold xBuildSlice
  split
  · rename_i e hu
    split
    · rename_i size z hs hz
      obtain ⟨zv, hz1, hz2⟩ := run_zero (w := w) hz
      split
      · rename_i hc
        simp only [Bool.and_eq_true] at hc
        obtain ⟨⟨hc1, hc2⟩, hc3⟩ := hc
        have hc1 : len * size ≤ 100000 := Nat.le_of_ble_eq_true hc1
        have hc3 : z.cells.length = size := Nat.eq_of_beq_eq_true hc3
        split
        · rename_i l hf
          have hzc := zero_cells (P := P) (φ := φ) (t := t) hz2 hc2
          have hzsize : zv.cells.size = size := by have := VRL.length hzc; simp at this; omega
          have hcells : VRL P φ (repl z.cells len) ((Array.range (len * size)).map (fun i => zv.cells[i % zv.cells.size]!)).toList := by
            rw [zeros_array zv.cells len size hzsize]
            exact VRL_repl hzc len
          obtain ⟨cs, q1, q2⟩ := fill_sim (P := P) (φ := φ) (placeR := fun i => some (i * size, size)) (fun i x hx => hx) _ _ _ _ _ hf hparts hcells
          refine newSl_q q2 cs e (fun i _ => by simp) (by have := VRL.length q2; simp at this; omega) (Nat.le_refl _) (rcap := len) (Nat.le_refl _) (fun _ => rfl) (by have := VRL.length q2; have h9 := VRL.length hcells; have := fillD_len hf; rw [repl_len, hc3] at this; simp at *; omega) ?_
          have hzero : ∀ (k : Array Value → Sem Value), (do let z0 ← (if len * size = 0 then pure #[] else do pure (← zeroValue e).cells : Sem (Array Value)); k z0 : Sem Value).run P w = (k (if len * size = 0 then #[] else zv.cells)).run P w := by
            intro k
            by_cases h0 : len * size = 0
            · simp [h0]
            · simp [h0, hz1]
          simp only [execOp, ho, Instr.buildSlice, Sem.run_bind, run_underlying hu, Result.andThen_ok, run_sizeOf hs]
          rw [if_neg (by omega)]
          by_cases h0 : len * size = 0
          · rw [h0, range0] at q1
            simp only [h0, if_true, Sem.run_pure, Result.andThen_ok, hpl, range0, q1, newRow, Sem.run_bind, run_newObj]
          · simp only [h0, if_false, Sem.run_bind, hz1, Result.andThen_ok, Sem.run_pure, hpl, q1, newRow, run_newObj]
        · trivial
      · trivial
    · trivial
  · trivial
theorem makeSlice_q {ρ : Operand → Value} {o : Oper} {t : TypeId} {l c : Operand} {dl dc : DV} (ho : o.op = .makeSlice t l c) (hl : VR P φ dl (ρ l)) (hc : VR P φ dc (ρ c)) : QR P w0 φ h w (xMakeSlice P h t dl dc) ((execOp ρ o).run P w) := by
  unfold xMakeSlice
  split
  · rename_i nl nc e hnl hnc hu
    have asN : ∀ {d : DV} {n : Nat} {v : Value}, asNat d = some n → VR P φ d v → ∃ k, v = .int k n := by
      intro d n v h1 h2
      unfold asNat at h1
      split at h1
      · simp only [Option.some.injEq] at h1; subst h1; simp only [VR] at h2; exact ⟨_, h2⟩
      · cases h1
    obtain ⟨kl, hl⟩ := asN hnl hl
    obtain ⟨kc, hc⟩ := asN hnc hc
    split
    · rename_i size z hs hz
      obtain ⟨zv, hz1, hz2⟩ := run_zero (w := w) hz
      split
      · rename_i n hcond hb
        simp only [Bool.and_eq_true] at hcond
        obtain ⟨⟨⟨⟨h1, h2⟩, h3⟩, h4⟩, h5⟩ := hcond
        have h1 : nl ≤ nc := Nat.le_of_ble_eq_true h1
        have h2 : nc * size ≤ 100000 := Nat.le_of_ble_eq_true h2
        have h4 : z.cells.length = size := Nat.eq_of_beq_eq_true h4
        have h5 : nc ≤ 100000 := Nat.le_of_ble_eq_true h5
        split
        · rename_i hbc
          have hbc : n * nc ≤ 100000000 := Nat.le_of_ble_eq_true hbc
          have hzc := zero_cells (P := P) (φ := φ) (t := t) hz2 h3
          have hzsize : zv.cells.size = size := by have := VRL.length hzc; simp at this; omega
          have hcells : VRL P φ (repl z.cells nc) (List.replicate nc zv.cells.toList).flatten := VRL_repl hzc nc
          have hinfo : ∃ i, P.types[e]? = some i ∧ i.bytes = n := by
            unfold bytesT at hb
            split at hb
            · rename_i i hi; simp only [Option.some.injEq] at hb; exact ⟨i, hi, hb⟩
            · cases hb
          obtain ⟨inf, hi1, hi2⟩ := hinfo
          have w64 : ∀ m : Nat, m ≤ 100000 → IntKind.i64.wrap (m : Int) = m := by intro m hm; rw [IntKind.wrap_i64]; omega
          refine newSl_q hcells (List.replicate nc zv.cells.toList).flatten.toArray e (fun i _ => by simp) (by have := VRL.length hcells; simp at this ⊢; omega) h1 (rcap := nc) (Nat.le_refl _) (fun _ => rfl) (by have := VRL.length hcells; rw [repl_len, h4] at this; simp at this ⊢; omega) ?_
          simp only [execOp, ho, Instr.makeSlice, Sem.run_bind, run_underlying hu, Result.andThen_ok, hl, hc, asInt, asIntOf, Sem.run_pure, run_typeInfo hi1, hi2, w64 nl (by omega), w64 nc h5]
          have t1 : (decide ((nc : Int) < 0) || decide ((n : Int) * nc > 2 ^ 48)) = false := by
            rw [Bool.or_eq_false_iff]
            constructor
            · simp
            · have := Int.ofNat_le.2 hbc
              rw [Int.natCast_mul] at this
              rw [decide_eq_false_iff_not]
              intro hgt
              have e48 : (2 : Int) ^ 48 = 281474976710656 := rfl
              rw [e48] at hgt
              omega
          have t2 : ((decide ((nc : Int) < 0) || decide ((n : Int) * nc > 2 ^ 48)) || decide ((nl : Int) < 0) || decide ((nl : Int) > nc)) = false := by
            rw [t1, Bool.false_or, Bool.or_eq_false_iff, decide_eq_false_iff_not, decide_eq_false_iff_not]
            omega
          rw [if_neg (by rw [t2]; simp)]
          simp only [Sem.run_bind, run_askRoom, Result.andThen_ok, run_sizeOf hs, Int.toNat_natCast]
          by_cases h0 : nc * size = 0
          · simp only [h0, if_true, Sem.run_pure, Result.andThen_ok, range0, newRow, Sem.run_bind, run_newObj]
            have : (List.replicate nc zv.cells.toList).flatten.toArray = #[] := by
              have := VRL.length hcells
              rw [repl_len, h4, h0] at this
              have := List.eq_nil_of_length_eq_zero this.symm
              rw [this]
            rw [this]
          · rw [if_neg h0]
            simp only [Sem.run_bind, hz1, Result.andThen_ok, Sem.run_pure]
            rw [zeros_array zv.cells nc size hzsize]
            rfl
        · trivial
      · trivial
    · trivial
  · trivial
theorem buildSlice_sim {tmps : T DV} {ρ : Operand → Value} {o : Oper} {t : TypeId} {len : Nat} {ps : Array (Nat × Operand)} (H : HR P w0 φ h w) (ho : o.op = .buildSlice t len ps) (hq : ∀ i x, (i, x) ∈ ps.toList → VR P φ (eval tmps x) (ρ x)) :
    OutR P w0 φ h w (xBuildSlice P tmps h t len ps.toList) ((execOp ρ o).run P w) := (buildSlice_q ho hq).out H
theorem makeSlice_sim {ρ : Operand → Value} {o : Oper} {t : TypeId} {l c : Operand} {dl dc : DV} (H : HR P w0 φ h w) (ho : o.op = .makeSlice t l c) (hl : VR P φ dl (ρ l)) (hc : VR P φ dc (ρ c)) : OutR P w0 φ h w (xMakeSlice P h t dl dc) ((execOp ρ o).run P w) := (makeSlice_q ho hl hc).out H
end Go.DM
set_option autoImplicit false
set_option linter.unusedVariables false
set_option linter.unusedSimpArgs false
namespace Go.DM
open Go.RowKit
variable {P : Program} {φ ψ : Emb} {w0 w w' : World} {h h' : HS}

theorem asNat_of {d : DV} {n : Nat} {v : Value} (h1 : asNat d = some n) (h2 : VR P φ d v) : ∃ k, v = .int k n := by
  unfold asNat at h1
  split at h1
  · simp only [Option.some.injEq] at h1; subst h1; simp only [VR] at h2; exact ⟨_, h2⟩
  · cases h1
theorem outO_sim {v : Option DV} {r : Result Next} (H : HR P w0 φ h w) (hr : ∀ d, v = some d → ∃ x, VR P φ d x ∧ r = .ok (.value x) w) : OutR P w0 φ h w (outO v h) r := by
  unfold outO
  split
  · rename_i d
    obtain ⟨x, h1, h2⟩ := hr d rfl
    exact h2 ▸ ValR.pure H h1
  · trivial
theorem outPtr_sim {b o n : Nat} {r : Result Next} (H : HR P w0 φ h w) (hr : ∃ x, VR P φ (.ptr b n) x ∧ r = .ok (.value x) w) : OutR P w0 φ h w (forceN n fun o => .val (.ptr b o) h) r := by
  obtain ⟨x, h1, h2⟩ := hr
  unfold forceN
  cases n <;> exact h2 ▸ ValR.pure H h1
theorem offOf_spec {t : TypeId} {f d : Nat} (e : offOf P t f = some d) : ∃ fs fl n, under P t = some (.struct fs) ∧ fs[f]? = some fl ∧ fl.offset = d ∧ sizeT P fl.type = some (n + 1) := by
  unfold offOf at e
  split at e
  · rename_i fs hu
    split at e
    · rename_i fl hf
      split at e
      · rename_i n hn
        simp only [Option.some.injEq] at e
        exact ⟨fs, fl, n, hu, hf, e, hn⟩
      · cases e
    · cases e
  · cases e
theorem fieldAddr_sim {ρ : Operand → Value} {o : Oper} {t : TypeId} {x : Operand} {f : Nat} {d : DV} (H : HR P w0 φ h w) (ho : o.op = .fieldAddr t x f) (hv : VR P φ d (ρ x)) : OutR P w0 φ h w (xFieldAddr P h t d f) ((execOp ρ o).run P w) := by
  unfold xFieldAddr
  split
  · rename_i b off
    split
    · rename_i dd hd
      obtain ⟨fs, fl, n, h1, h2, h3, h4⟩ := offOf_spec hd
      simp only [VR] at hv
      obtain ⟨rb, sh, k1, k2⟩ := hv
      refine outPtr_sim (o := 0) H ⟨.pointer (some ⟨rb, sh + off + dd, none⟩), ⟨rb, sh, k1, by rw [Nat.add_assoc]⟩, ?_⟩
      simp only [execOp, ho, Instr.fieldAt, Sem.run_bind, run_underlying h1, Result.andThen_ok, h2, k2, Instr.sureAddr, Sem.run_pure, Go.fieldPlace, run_sizeOf h4, Nat.add_one_ne_zero, if_false, add_at, h3]
    · trivial
  · trivial
theorem field_sim {ρ : Operand → Value} {o : Oper} {t : TypeId} {x : Operand} {f : Nat} {d : DV} (H : HR P w0 φ h w) (ho : o.op = .field t x f) (hv : VR P φ d (ρ x)) : OutR P w0 φ h w (xField P h t d f) ((execOp ρ o).run P w) := by
  unfold xField
  split
  · rename_i cs
    simp only [VR] at hv
    obtain ⟨rc, k1, k2⟩ := hv
    split
    · rename_i fs hu
      split
      · rename_i fl hf
        refine outO_sim H fun d' hd' => ?_
        obtain ⟨v, h1, h2⟩ := run_part (w := w) k2 hd'
        refine ⟨v, h2, ?_⟩
        simp only [execOp, ho, Instr.field, Sem.run_bind, run_underlying hu, Result.andThen_ok, hf, k1, asAgg, Sem.run_pure, h1]
      · trivial
    · trivial
  · trivial
theorem indexAddr_sim {ρ : Operand → Value} {o : Oper} {t : TypeId} {x i : Operand} {d di : DV} (H : HR P w0 φ h w) (ho : o.op = .indexAddr t x i) (hv : VR P φ d (ρ x)) (hi : VR P φ di (ρ i)) : OutR P w0 φ h w (xIndexAddr P h t d di) ((execOp ρ o).run P w) := by
  unfold xIndexAddr
  split
  · rename_i b off len cap sz ex
    split
    · rename_i size hs
      unfold ixAddr
      split
      · rename_i n hn
        obtain ⟨k, hi⟩ := asNat_of hn hi
        split
        · rename_i hlt
          have hlt : n < len := by simpa [Nat.blt_eq] using hlt
          simp only [VR] at hv
          obtain ⟨rb, ro, rcap, h1, h2, h3, h4, h5⟩ := hv
          have hu : ∃ e, under P t = some (.slice e) ∧ sizeT P e = some size := by
            unfold elemSize at hs
            split at hs
            · exact ⟨_, ‹_›, hs⟩
            · cases hs
          obtain ⟨e, hu, hse⟩ := hu
          rcases h5 with h5 | ⟨sh, h5, h6, _⟩
          · omega
          · subst h6
            refine outPtr_sim (o := 0) H ⟨.pointer (some ⟨rb, sh + off + n * size, none⟩), ⟨rb, sh, h5, by rw [Nat.add_assoc]⟩, ?_⟩
            simp only [execOp, ho, Instr.indexAt, Sem.run_bind, hi, asIntOf, Sem.run_pure, Result.andThen_ok, run_underlying hu, h1]
            rw [if_pos ⟨by omega, by omega⟩]
            simp only [Sem.run_bind, run_sizeOf hse, Result.andThen_ok, Sem.run_pure, add_at, Int.toNat_natCast]
        · trivial
      · trivial
    · trivial
  · rename_i b off
    split
    · rename_i len e hu
      split
      · rename_i size hse
        unfold ixAddr
        split
        · rename_i n hn
          obtain ⟨k, hi⟩ := asNat_of hn hi
          split
          · rename_i hlt
            have hlt : n < len := by simpa [Nat.blt_eq] using hlt
            simp only [VR] at hv
            obtain ⟨rb, sh, h1, h2⟩ := hv
            refine outPtr_sim (o := 0) H ⟨.pointer (some ⟨rb, sh + off + n * size, none⟩), ⟨rb, sh, h1, by rw [Nat.add_assoc]⟩, ?_⟩
            simp only [execOp, ho, Instr.indexAt, Sem.run_bind, hi, asIntOf, Sem.run_pure, Result.andThen_ok, run_underlying hu, h2, Instr.sureAddr]
            rw [if_pos ⟨by omega, by omega⟩]
            simp only [Sem.run_bind, run_sizeOf hse, Result.andThen_ok, Sem.run_pure, add_at, Int.toNat_natCast]
          · trivial
        · trivial
      · trivial
    · trivial
  · trivial
theorem index_sim {ρ : Operand → Value} {o : Oper} {t : TypeId} {x i : Operand} {d di : DV} (H : HR P w0 φ h w) (ho : o.op = .index t x i) (hv : VR P φ d (ρ x)) (hi : VR P φ di (ρ i)) : OutR P w0 φ h w (xIndex P h t d di) ((execOp ρ o).run P w) := by
  unfold xIndex
  split
  · rename_i l
    simp only [VR] at hv
    obtain ⟨s, h1, h2⟩ := hv
    split
    · rename_i n hu hn
      obtain ⟨k, hi⟩ := asNat_of hn hi
      split
      · rename_i c hc
        have hlt : n < s.size := by
          have := (List.getElem?_eq_some_iff.1 hc).1
          have := str_size h2
          omega
        have hb : s[n]? = some s[n] := ByteArray.getElem?_lt' s n hlt
        have hcv : c = (s[n]).toNat := by
          subst h2
          simp only [List.getElem?_map] at hc
          have : s.data.toList[n]? = some s[n] := by
            rw [List.getElem?_eq_getElem (by simpa using hlt)]
            rfl
          rw [this] at hc
          simpa using hc.symm
        have hr : (execOp ρ o).run P w = .ok (.value (.int .u8 c)) w := by
          simp only [execOp, ho, Instr.index, Sem.run_bind, hi, asIntOf, Sem.run_pure, Result.andThen_ok, run_underlying hu, h1]
          rw [if_pos (by omega)]
          simp only [Int.toNat_natCast, hb, hcv, Sem.run_pure, Result.andThen_ok]
        exact hr ▸ ValR.pure H rfl
      · trivial
    · trivial
  · rename_i cs
    simp only [VR] at hv
    obtain ⟨rc, k1, k2⟩ := hv
    split
    · rename_i n e len hu hn
      obtain ⟨k, hi⟩ := asNat_of hn hi
      split
      · rename_i size hse hlt
        have hlt : len < n := by simpa [Nat.blt_eq] using hlt
        refine outO_sim H fun d' hd' => ?_
        obtain ⟨v, h1, h2⟩ := run_part (w := w) k2 hd'
        refine ⟨v, h2, ?_⟩
        simp only [execOp, ho, Instr.index, Sem.run_bind, hi, asIntOf, Sem.run_pure, Result.andThen_ok, run_underlying hu, k1]
        rw [if_pos ⟨by omega, by omega⟩]
        simp only [Sem.run_bind, run_sizeOf hse, Result.andThen_ok, Int.toNat_natCast, h1]
      · trivial
    · trivial
  · trivial
theorem arrPtr_sim {ρ : Operand → Value} {o : Oper} {a : TypeId} {x : Operand} {d : DV} (H : HR P w0 φ h w) (ho : o.op = .sliceToArrayPointer a x) (hv : VR P φ d (ρ x)) : OutR P w0 φ h w (xArrPtr P h a d) ((execOp ρ o).run P w) := by
  unfold xArrPtr
  split
  · rename_i n e b off len cap sz ex hu
    split
    · rename_i hle
      simp only [Bool.and_eq_true] at hle
      have h1 : n ≤ len := Nat.le_of_ble_eq_true hle.1
      have h0 : 0 < n := by simpa [Nat.blt_eq] using hle.2
      simp only [VR] at hv
      obtain ⟨rb, ro, rcap, k1, k2, k3, k4, k5⟩ := hv
      rcases k5 with k5 | ⟨sh, k5, k6, _⟩
      · omega
      · have hr : (execOp ρ o).run P w = .ok (.value (.pointer (some ⟨rb, ro, none⟩))) w := by
          simp only [execOp, ho, Instr.arrayAt, Sem.run_bind, run_underlying hu, Result.andThen_ok, k1]
          rw [if_neg (by omega)]
          rfl
        exact hr ▸ ValR.pure H ⟨rb, sh, k5, by rw [k6]⟩
    · trivial
  · trivial
theorem extract_sim {ρ : Operand → Value} {o : Oper} {x : Operand} {i : Nat} {d : DV} (H : HR P w0 φ h w) (ho : o.op = .extract x i) (hv : VR P φ d (ρ x)) : OutR P w0 φ h w (xExtract h d i) ((execOp ρ o).run P w) := by
  unfold xExtract
  split
  · rename_i vs
    simp only [VR] at hv
    obtain ⟨rc, k1, k2⟩ := hv
    refine outO_sim H fun d' hd' => ?_
    obtain ⟨v, h1, h2⟩ := VRL.get k2 hd'
    have h1 : rc[i]? = some v := by simpa using h1
    exact ⟨v, h2, by simp [execOp, ho, Instr.extract, k1, h1]⟩
  · trivial
theorem assert_sim {ρ : Operand → Value} {o : Oper} {x : Operand} {xt a : TypeId} {ok : Bool} {d : DV} (H : HR P w0 φ h w) (ho : o.op = .typeAssert x xt a ok) (hv : VR P φ d (ρ x)) : OutR P w0 φ h w (xTypeAssert P h d a ok) ((execOp ρ o).run P w) := by
  unfold xTypeAssert
  split
  · trivial
  · rename_i dd z hne hu hz
    have hni : ∀ m, dd ≠ .interface m := fun m e => hne m e
    obtain ⟨zv, hz1, hz2⟩ := run_zero (w := w) hz
    have hzr : VR P φ z zv := hz2 ▸ VR_ofValue zv
    split
    · simp only [VR] at hv
      split
      · have hr : (execOp ρ o).run P w = .ok (.value (.tuple #[zv, .bool false])) w := by
          simp only [execOp, ho, Instr.typeAssert, Sem.run_bind, run_underlying hu, Result.andThen_ok, hv]
          cases dd <;> first | exact absurd rfl (hni _) | simp [hz1]
        exact hr ▸ ValR.pure H ⟨_, rfl, VRL.cons hzr (VRL.cons rfl VRL.nil)⟩
      · trivial
    · rename_i t v
      simp only [VR] at hv
      obtain ⟨y, hy1, hy2⟩ := hv
      split
      · rename_i heq
        have heq := Nat.eq_of_beq_eq_true heq
        have hr : (execOp ρ o).run P w = .ok (.value (.tuple #[y, .bool true])) w := by
          simp only [execOp, ho, Instr.typeAssert, Sem.run_bind, run_underlying hu, Result.andThen_ok, hy1]
          cases dd <;> first | exact absurd rfl (hni _) | simp [heq]
        exact hr ▸ ValR.pure H ⟨_, rfl, VRL.cons hy2 (VRL.cons rfl VRL.nil)⟩
      · rename_i heq
        have heq := Nat.eq_of_beq_eq_true heq
        have hr : (execOp ρ o).run P w = .ok (.value y) w := by
          simp only [execOp, ho, Instr.typeAssert, Sem.run_bind, run_underlying hu, Result.andThen_ok, hy1]
          cases dd <;> first | exact absurd rfl (hni _) | simp [heq]
        exact hr ▸ ValR.pure H hy2
      · rename_i hneq
        have hneq : t ≠ a := fun e => by subst e; simp at hneq
        have hr : (execOp ρ o).run P w = .ok (.value (.tuple #[zv, .bool false])) w := by
          simp only [execOp, ho, Instr.typeAssert, Sem.run_bind, run_underlying hu, Result.andThen_ok, hy1]
          cases dd <;> first | exact absurd rfl (hni _) | simp [hneq, hz1]
        exact hr ▸ ValR.pure H ⟨_, rfl, VRL.cons hzr (VRL.cons rfl VRL.nil)⟩
      · trivial
    · trivial
  · trivial
end Go.DM
set_option autoImplicit false
set_option linter.unusedVariables false
set_option linter.unusedSimpArgs false
namespace Go.DM
open Go.RowKit
variable {P : Program} {φ ψ : Emb} {w0 w w' : World} {h h' : HS}

def OptR (P : Program) (φ : Emb) : Option DV → Option Value → Prop
  | none, r => r = none
  | some d, r => ∃ v, r = some v ∧ VR P φ d v
/-- bounds that fit -/
theorem lowHigh_spec {low high : Option DV} {len l hi : Nat} (e : lowHigh low high len = some (l, hi)) : l ≤ hi ∧ (match high with | none => hi = len | some v => asNat v = some hi) ∧ (match low with | none => l = 0 | some v => asNat v = some l) := by
  unfold lowHigh at e
  split at e
  · rename_i hh ll h1 h2
    split at e
    · rename_i hle
      have hle := Nat.le_of_ble_eq_true hle
      simp only [Option.some.injEq, Prod.mk.injEq] at e
      obtain ⟨rfl, rfl⟩ := e
      refine ⟨hle, ?_, ?_⟩
      · cases high with
        | none => simpa using h1.symm
        | some v => exact h1
      · cases low with
        | none => simpa using h2.symm
        | some v => exact h2
    · cases e
  · cases e
theorem run_bound {v : DV} {x : Value} {n y : Nat} {c : BoundsCode} (h1 : asNat v = some n) (h2 : VR P φ v x) (h3 : n ≤ y) : (Instr.sliceBound x y c).run P w = .ok n w := by
  obtain ⟨k, rfl⟩ := asNat_of h1 h2
  simp only [Instr.sliceBound, Sem.run_bind, asIntOf, Sem.run_pure, Result.andThen_ok]
  rw [if_pos ⟨by omega, by omega⟩]
  simp
theorem run_bounds {low high max : Option DV} {rl rh rm : Option Value} {len cap l hi m : Nat} (b : Bool) (hl : OptR P φ low rl) (hh : OptR P φ high rh) (hm : OptR P φ max rm)
    (e : lowHigh low high len = some (l, hi)) (he : match max with | none => m = cap ∧ hi ≤ cap | some v => asNat v = some m ∧ hi ≤ m ∧ m ≤ cap ∧ high.isSome = true) :
    (Instr.sliceBounds b len cap rl rh rm).run P w = .ok (l, hi, m) w := by
  obtain ⟨h1, h2, h3⟩ := lowHigh_spec e
  unfold Instr.sliceBounds
  cases max with
  | none =>
    simp only [OptR] at hm
    subst hm
    simp only at he
    obtain ⟨rfl, he⟩ := he
    cases high with
    | none =>
      simp only [OptR] at hh
      subst hh
      simp only at h2
      subst h2
      cases low with
      | none => simp only [OptR] at hl; subst hl; simp only at h3; subst h3; simp
      | some v => obtain ⟨x, rfl, hx⟩ := hl; simp only at h3; simp [run_bound h3 hx h1]
    | some u =>
      obtain ⟨y, rfl, hy⟩ := hh
      simp only at h2
      cases low with
      | none => simp only [OptR] at hl; subst hl; simp only at h3; subst h3; simp [run_bound h2 hy he]
      | some v => obtain ⟨x, rfl, hx⟩ := hl; simp only at h3; simp [run_bound h2 hy he, run_bound h3 hx h1]
  | some mv =>
    obtain ⟨xm, rfl, hxm⟩ := hm
    simp only at he
    obtain ⟨e1, e2, e3, e4⟩ := he
    cases high with
    | none => simp at e4
    | some u =>
      obtain ⟨y, rfl, hy⟩ := hh
      simp only at h2
      cases low with
      | none => simp only [OptR] at hl; subst hl; simp only at h3; subst h3; simp [run_bound e1 hxm e3, run_bound h2 hy e2]
      | some v => obtain ⟨x, rfl, hx⟩ := hl; simp only at h3; simp [run_bound e1 hxm e3, run_bound h2 hy e2, run_bound h3 hx h1]
theorem elemSize_spec {t : TypeId} {n : Nat} (e : elemSize P t = some n) : ∃ el, under P t = some (.slice el) ∧ sizeT P el = some n := by
  unfold elemSize at e
  split at e
  · exact ⟨_, ‹_›, e⟩
  · cases e
theorem slice_sim {ρ : Operand → Value} {o : Oper} {t : TypeId} {x : Operand} {lo hi mx : Option Operand} {d : DV} {dl dh dm : Option DV} (H : HR P w0 φ h w) (ho : o.op = .slice t x lo hi mx) (hv : VR P φ d (ρ x))
    (hl : OptR P φ dl (lo.map ρ)) (hh : OptR P φ dh (hi.map ρ)) (hm : OptR P φ dm (mx.map ρ)) : OutR P w0 φ h w (sliceD P h t d dl dh dm) ((execOp ρ o).run P w) := by
  have hr0 : (execOp ρ o).run P w = ((Instr.sliceAt t (ρ x) (lo.map ρ) (hi.map ρ) (mx.map ρ)).run P w).andThen fun v w => .ok (Next.value v) w := by simp [execOp, ho, Sem.run_bind]
  rw [hr0]
  unfold sliceD
  split
  · rename_i s
    simp only [VR] at hv
    obtain ⟨bs, h1, h2⟩ := hv
    split
    · rename_i l hh' hu hlh
      split
      · rename_i hle
        have hle : hh' ≤ s.length := Nat.le_of_ble_eq_true hle
        have hsz := str_size h2
        simp only [OptR] at hm
        have hb := run_bounds (P := P) (w := w) (max := none) (rm := none) (m := bs.size) (cap := bs.size) false hl hh rfl (hsz ▸ hlh) ⟨rfl, by omega⟩
        have hr : ((Instr.sliceAt t (ρ x) (lo.map ρ) (hi.map ρ) (mx.map ρ)).run P w).andThen (fun v w => .ok (Next.value v) w) = .ok (.value (.string (bs.extract l hh'))) w := by
          rw [h1, hm]
          simp only [Instr.sliceAt, Instr.slice, Sem.run_bind, run_underlying hu, Result.andThen_ok, Option.isSome_none, Bool.false_eq_true, if_false, Sem.run_pure, hb]
        refine hr ▸ ValR.pure H ⟨_, rfl, ?_⟩
        rw [← h2]
        simp [ByteArray.data_extract, List.extract_eq_take_drop, List.map_take, List.map_drop, List.drop_take]
      · trivial
    · trivial
  · simp only [VR] at hv
    split
    · rename_i n hes hlh
      obtain ⟨e, hu, hse⟩ := elemSize_spec hes
      have fin : (Instr.sliceBounds true 0 0 (lo.map ρ) (hi.map ρ) (mx.map ρ)).run P w = .ok (0, 0, 0) w → OutR P w0 φ h w (.val .nils h) (((Instr.sliceAt t (ρ x) (lo.map ρ) (hi.map ρ) (mx.map ρ)).run P w).andThen fun v w => .ok (Next.value v) w) := by
        intro hb
        have hr : ((Instr.sliceAt t (ρ x) (lo.map ρ) (hi.map ρ) (mx.map ρ)).run P w).andThen (fun v w => .ok (Next.value v) w) = .ok (.value (.slice none 0 0)) w := by
          rw [hv]
          simp [Instr.sliceAt, Instr.slice, Sem.run_bind, run_underlying hu, hb, run_sizeOf hse]
        exact hr ▸ ValR.pure H (by simp only [VR])
      split
      · exact fin (run_bounds (max := none) (m := 0) true hl hh hm hlh ⟨rfl, Nat.le_refl _⟩)
      · rename_i mv
        split
        · rename_i hm0 hs
          exact fin (run_bounds (max := some mv) (m := 0) true hl hh hm hlh ⟨hm0, Nat.le_refl _, Nat.le_refl _, hs⟩)
        · trivial
    · trivial
  · rename_i b off
    simp only [VR] at hv
    obtain ⟨rb, sh, h1, h2⟩ := hv
    split
    · rename_i n e hu
      split
      · rename_i size l hh' hse hlh
        split
        · rename_i hle
          have hle : hh' ≤ n := Nat.le_of_ble_eq_true hle
          split
          case h_2 => trivial
          rename_i cc mm kk hgo
          split
          case h_2 => trivial
          rename_i hfit
          have hfit : off + n * size ≤ mm := Nat.le_of_ble_eq_true hfit
          obtain ⟨rc, el, fz, o1, o2, o3, o4⟩ := H.objs b rb sh _ h1 (getO_heap hgo)
          simp only [OptR] at hm
          have hb := run_bounds (P := P) (w := w) (max := none) (rm := none) (m := n) (cap := n) false hl hh rfl hlh ⟨rfl, hle⟩
          obtain ⟨hlh1, _, _⟩ := lowHigh_spec hlh
          have hr : ((Instr.sliceAt t (ρ x) (lo.map ρ) (hi.map ρ) (mx.map ρ)).run P w).andThen (fun v w => .ok (Next.value v) w) = .ok (.value (.slice (some (if n = l then ⟨rb, sh + off, none⟩ else ⟨rb, sh + off + l * size, none⟩)) (hh' - l) (n - l))) w := by
            rw [h2, hm]
            simp only [Instr.sliceAt, Sem.run_bind, run_underlying hu, Result.andThen_ok, Instr.sureAddr, Sem.run_pure, hb, run_sizeOf hse, add_at]
          by_cases hnl : n = l
          · rw [if_pos hnl] at hr
            exact hr ▸ ValR.pure H ⟨_, _, _, rfl, by omega, Nat.le_refl _, fun _ => rfl, .inl (by omega)⟩
          · rw [if_neg hnl] at hr
            exact hr ▸ ValR.pure H ⟨_, _, _, rfl, by omega, Nat.le_refl _, fun _ => rfl, .inr ⟨sh, h1, by omega, by
              obtain ⟨lh1, lh2⟩ := o2
              have e1 : l * size + (n - l) * size = n * size := by rw [← Nat.add_mul]; congr 1; omega
              omega⟩⟩
        · trivial
      · trivial
    · trivial
  · rename_i b off len cap sz ex
    simp only [VR] at hv
    obtain ⟨rb, ro, rcap, h1, h2, h3, h4, h5⟩ := hv
    split
    · rename_i size l hh' hes hlh
      split
      case h_2 => trivial
      rename_i hszb
      have hszb : sz = size := Nat.eq_of_beq_eq_true hszb
      subst hszb
      obtain ⟨e, hu, hse⟩ := elemSize_spec hes
      obtain ⟨hlh1, _, _⟩ := lowHigh_spec hlh
      have key : ∀ (m rm' : Nat) (ex' : Bool), (Instr.sliceBounds true len rcap (lo.map ρ) (hi.map ρ) (mx.map ρ)).run P w = .ok (l, hh', rm') w → hh' ≤ m → m ≤ rm' → rm' ≤ rcap → (ex' = true → rm' = m) →
          OutR P w0 φ h w (.val (.slice b (off + l * sz) (hh' - l) (m - l) sz ex') h) (((Instr.sliceAt t (ρ x) (lo.map ρ) (hi.map ρ) (mx.map ρ)).run P w).andThen fun v w => .ok (Next.value v) w) := by
        intro m rm' ex' hb k1 k2 k3 k4
        have hr : ((Instr.sliceAt t (ρ x) (lo.map ρ) (hi.map ρ) (mx.map ρ)).run P w).andThen (fun v w => .ok (Next.value v) w) = .ok (.value (.slice (if rm' = l then some ⟨rb, ro, none⟩ else some ⟨rb, ro + l * sz, none⟩) (hh' - l) (rm' - l))) w := by
          rw [h1]
          simp only [Instr.sliceAt, Instr.slice, Sem.run_bind, run_underlying hu, Result.andThen_ok, hb, run_sizeOf hse, Sem.run_pure, Option.map_some, add_at]
        by_cases hml : rm' = l
        · rw [if_pos hml] at hr
          exact hr ▸ ValR.pure H ⟨_, _, _, rfl, by omega, by omega, fun e => by have := k4 e; omega, .inl (by omega)⟩
        · rw [if_neg hml] at hr
          refine hr ▸ ValR.pure H ⟨_, _, _, rfl, by omega, by omega, fun e => by have := k4 e; omega, ?_⟩
          rcases h5 with h5 | ⟨sh, h5, h6, h7⟩
          · omega
          · refine .inr ⟨sh, h5, by omega, ?_⟩
            have e1 : l * sz + (rm' - l) * sz = rm' * sz := by rw [← Nat.add_mul]; congr 1; omega
            have e2 : rm' * sz ≤ rcap * sz := Nat.mul_le_mul_right _ k3
            omega
      unfold sliceOf
      split
      · rename_i mv
        split
        · rename_i m hmn
          split
          · rename_i hc1 hc2
            have hc1 : hh' ≤ m := Nat.le_of_ble_eq_true hc1
            simp only [Bool.and_eq_true] at hc2
            have hc3 : m ≤ cap := Nat.le_of_ble_eq_true hc2.1
            exact key m m true (run_bounds true hl hh hm hlh ⟨hmn, hc1, by omega, hc2.2⟩) hc1 (Nat.le_refl _) (by omega) (fun _ => rfl)
          · trivial
        · trivial
      · split
        · rename_i hc
          have hc : hh' ≤ cap := Nat.le_of_ble_eq_true hc
          exact key cap rcap ex (run_bounds (max := none) (m := rcap) true hl hh hm hlh ⟨rfl, by omega⟩) hc h3 (Nat.le_refl _) h4
        · trivial
    · trivial
  · trivial
end Go.DM
set_option autoImplicit false
set_option linter.unusedVariables false
set_option linter.unusedSimpArgs false
namespace Go.DM
open Go.RowKit
variable {P : Program} {φ ψ : Emb} {w0 w w' : World} {h h' : HS}

/-! ### maps -/
theorem checkKey_scalar {t : TypeId} {d : TypeDesc} {v : Value} (b : Bool) (n : Nat) (hu : under P t = some d) (hd : keyScalar d = true) : (Instr.checkKey b (n + 1) t v).run P w = .ok () w := by
  unfold Instr.checkKey
  simp only [Sem.run_bind, run_underlying hu, Result.andThen_ok]
  cases d <;> simp only [keyScalar, Bool.false_eq_true] at hd <;> cases v <;> rfl
theorem keyScalar_agg {d : TypeDesc} (hd : keyScalar d = true) : isAggD d = false := by cases d <;> simp_all [keyScalar, isAggD]
theorem checkFields {l : List DV} {cs : Array Value} (hv : VRL P φ l cs.toList) (b : Bool) (n : Nat) : ∀ (fs : List Field), keyFields P l fs = true →
    (forIn fs (() : Unit) fun f _ => (do if f.name ≠ "_" then (do let x ← part f.type cs f.offset; Instr.checkKey b (n + 1) f.type x; pure (ForInStep.yield ())) else pure (ForInStep.yield ()) : Sem (ForInStep Unit))).run P w = .ok () w := by
  intro fs
  induction fs with
  | nil => intro _; rfl
  | cons f fs ih =>
    intro hk
    unfold keyFields at hk
    split at hk
    · rename_i d a hn hu hx
      split at hk
      · rename_i hs
        have hn : f.name ≠ "_" := by simpa using hn
        obtain ⟨v, h1, h2⟩ := VRL.get hv hx
        have h1 : cs[f.offset]? = some v := by simpa using h1
        have hp : (part f.type cs f.offset).run P w = .ok v w := by simp [part, run_isAgg hu, keyScalar_agg hs, h1]
        have := ih hk
        simp only [List.forIn_cons, ne_eq, hn, not_false_eq_true, if_true, bind_assoc, Sem.run_bind, hp, Result.andThen_ok, checkKey_scalar b n hu hs, Sem.run_pure] at this ⊢
        exact this
      · cases hk
    · cases hk
theorem run_checkKey {t : TypeId} {k : DV} {v : Value} (b : Bool) (n : Nat) (hk : keyOk P t k = true) (hv : VR P φ k v) : (Instr.checkKey b (n + 2) t v).run P w = .ok () w := by
  unfold keyOk at hk
  split at hk
  · rename_i d hu
    split at hk
    · exact checkKey_scalar b (n + 1) hu ‹_›
    · split at hk
      · rename_i fs l _
        simp only [VR] at hv
        obtain ⟨cs, rfl, hv⟩ := hv
        have := checkFields (P := P) (φ := φ) (w := w) hv b n fs.toList hk
        unfold Instr.checkKey
        simp only [Sem.run_bind, run_underlying hu, Result.andThen_ok]
        rw [← Array.forIn_toList]
        refine Eq.trans (congrArg (fun r => Result.andThen r _) ?_) (Result.andThen_ok () w _)
        exact this
      · cases hk
  · cases hk
def FoundR (P : Program) (φ : Emb) : Option (Nat × DV) → Option (Nat × Value) → Prop
  | none, r => r = none
  | some (i, d), r => ∃ v, r = some (i, v) ∧ VR P φ d v
theorem findAsking_sim {t : TypeId} {k : DV} {vk : Value} (hk : VR P φ k vk) : ∀ (es : List (DV × DV)) (res : List MapEntry) (i : Nat) (r : Option (Nat × DV)), mapFind P t k es i = some r → EntR P φ es res →
    ∃ rr, (Instr.findAsking t vk res i).run P w = .ok rr w ∧ FoundR P φ r rr := by
  intro es
  induction es with
  | nil =>
    intro res i r h1 h2
    simp only [mapFind, Option.some.injEq] at h1
    simp only [EntR] at h2
    subst h1 h2
    exact ⟨none, rfl, rfl⟩
  | cons x xs ih =>
    intro res i r h1 h2
    obtain ⟨a, v⟩ := x
    simp only [EntR] at h2
    obtain ⟨e, es', rfl, q1, q2, q3⟩ := h2
    simp only [mapFind] at h1
    split at h1
    · rename_i he
      simp only [Option.some.injEq] at h1
      subst h1
      have := eqD_sim (P := P) (φ := φ) (w := w) 100 Op.maxDepth t k a vk e.key true (by decide) he hk q1
      exact ⟨some (i, e.val), by simp [Instr.findAsking, Op.equal, this], e.val, rfl, q2⟩
    · rename_i he
      have := eqD_sim (P := P) (φ := φ) (w := w) 100 Op.maxDepth t k a vk e.key false (by decide) he hk q1
      obtain ⟨rr, r1, r2⟩ := ih es' (i + 1) r h1 q3
      exact ⟨rr, by simp [Instr.findAsking, Op.equal, this, r1], r2⟩
    · cases h1
theorem sameNow_of {t : TypeId} {d : TypeDesc} {k a : DV} {vk va : Value} {b : Bool} (hu : under P t = some d) (he : eqD P 100 t k a = some b) (hk : VR P φ k vk) (ha : VR P φ a va) :
    Instr.sameNow d vk va = some b ∨ Instr.sameNow d vk va = none := by
  unfold eqD at he
  rw [hu] at he
  cases d <;> try (right; cases vk <;> cases va <;> rfl)
  case bool =>
    split at he <;> first | (cases ‹some TypeDesc.bool = _›; done) | skip
    all_goals try (cases he; done)
    rename_i x y _
    simp only [VR] at hk ha
    subst hk ha
    simp only [Option.some.injEq] at he
    left
    simp [Instr.sameNow, he]
  case int kk =>
    split at he <;> first | (cases ‹some (TypeDesc.int kk) = _›; done) | skip
    all_goals try (cases he; done)
    simp only [VR] at hk ha
    subst hk ha
    split at he
    · rename_i hkk
      have := kindEq_eq hkk
      subst this
      simp only [Option.some.injEq] at he
      rw [intEq_eq] at he
      left
      simp [Instr.sameNow, he]
    · cases he
  case string =>
    split at he <;> first | (cases ‹some TypeDesc.string = _›; done) | skip
    all_goals try (cases he; done)
    simp only [VR] at hk ha
    obtain ⟨s, rfl, rfl⟩ := hk
    obtain ⟨s', rfl, rfl⟩ := ha
    simp only [Option.some.injEq] at he
    rw [strEq_eq] at he
    left
    simp only [Instr.sameNow]
    rw [bytes_beq, he]
theorem findNow_sim {t : TypeId} {d : TypeDesc} {k : DV} {vk : Value} (hu : under P t = some d) (hk : VR P φ k vk) : ∀ (es : List (DV × DV)) (res : List MapEntry) (i : Nat) (r : Option (Nat × DV)), mapFind P t k es i = some r → EntR P φ es res →
    Instr.findNow d vk res i = none ∨ ∃ rr, Instr.findNow d vk res i = some rr ∧ FoundR P φ r rr := by
  intro es
  induction es with
  | nil =>
    intro res i r h1 h2
    simp only [mapFind, Option.some.injEq] at h1
    simp only [EntR] at h2
    subst h1 h2
    exact .inr ⟨none, rfl, rfl⟩
  | cons x xs ih =>
    intro res i r h1 h2
    obtain ⟨a, v⟩ := x
    simp only [EntR] at h2
    obtain ⟨e, es', rfl, q1, q2, q3⟩ := h2
    simp only [mapFind] at h1
    split at h1
    · rename_i he
      simp only [Option.some.injEq] at h1
      subst h1
      rcases sameNow_of hu he hk q1 with q | q
      · exact .inr ⟨some (i, e.val), by simp [Instr.findNow, q], e.val, rfl, q2⟩
      · exact .inl (by simp [Instr.findNow, q])
    · rename_i he
      rcases sameNow_of hu he hk q1 with q | q
      · rcases ih es' (i + 1) r h1 q3 with q' | ⟨rr, r1, r2⟩
        · exact .inl (by simp [Instr.findNow, q, q'])
        · exact .inr ⟨rr, by simp [Instr.findNow, q, r1], r2⟩
      · exact .inl (by simp [Instr.findNow, q])
    · cases h1
theorem findKey_sim {t : TypeId} {d : TypeDesc} {k : DV} {vk : Value} {es : List (DV × DV)} {res : List MapEntry} {r : Option (Nat × DV)} (hu : under P t = some d) (hk : VR P φ k vk) (h1 : mapFind P t k es 0 = some r) (h2 : EntR P φ es res) :
    ∃ rr, (Instr.findKey t vk res).run P w = .ok rr w ∧ FoundR P φ r rr := by
  unfold Instr.findKey
  simp only [Sem.run_bind, run_underlying hu, Result.andThen_ok]
  rcases findNow_sim hu hk es res 0 r h1 h2 with q | ⟨rr, r1, r2⟩
  · rw [q]; exact findAsking_sim hk es res 0 r h1 h2
  · rw [r1]; exact ⟨rr, rfl, r2⟩
end Go.DM
set_option autoImplicit false
set_option linter.unusedVariables false
set_option linter.unusedSimpArgs false
namespace Go.DM
open Go.RowKit
variable {P : Program} {φ ψ : Emb} {w0 w w' : World} {h h' : HS}

theorem EntR.append {l : List (DV × DV)} {es : List MapEntry} {d v : DV} {e : MapEntry} (h1 : EntR P φ l es) (hk : VR P φ d e.key) (hv : VR P φ v e.val) : EntR P φ (l ++ [(d, v)]) (es ++ [e]) := by
  induction l generalizing es with
  | nil => simp only [EntR] at h1; subst h1; exact ⟨e, [], rfl, hk, hv, rfl⟩
  | cons x xs ih =>
    simp only [EntR] at h1
    obtain ⟨e', es', rfl, q1, q2, q3⟩ := h1
    exact ⟨e', es' ++ [e], rfl, q1, q2, ih q3⟩
theorem EntR.length {l : List (DV × DV)} {es : List MapEntry} (h1 : EntR P φ l es) : l.length = es.length := by
  induction l generalizing es with
  | nil => simp only [EntR] at h1; subst h1; rfl
  | cons x xs ih =>
    simp only [EntR] at h1
    obtain ⟨e', es', rfl, q1, q2, q3⟩ := h1
    simp [ih q3]
theorem EntR.set {l : List (DV × DV)} {es : List MapEntry} {d v : DV} {f : MapEntry → MapEntry} (i : Nat) (h1 : EntR P φ l es) (hf : ∀ e, es[i]? = some e → VR P φ d (f e).key ∧ VR P φ v (f e).val) : EntR P φ (l.set i (d, v)) (es.modify i f) := by
  induction l generalizing es i with
  | nil => simp only [EntR] at h1; subst h1; simp [EntR]
  | cons x xs ih =>
    simp only [EntR] at h1
    obtain ⟨e', es', rfl, q1, q2, q3⟩ := h1
    cases i with
    | zero =>
      obtain ⟨k1, k2⟩ := hf e' rfl
      exact ⟨f e', es', by simp, k1, k2, q3⟩
    | succ i => exact ⟨e', es'.modify i f, by simp, q1, q2, ih i q3 (fun e he => hf e (by simpa using he))⟩
theorem mapFind_lt {t : TypeId} {k : DV} {es : List (DV × DV)} {i j : Nat} {v : DV} (e : mapFind P t k es j = some (some (i, v))) : j ≤ i ∧ ∃ a, es[i - j]? = some (a, v) ∧ eqD P 100 t k a = some true := by
  induction es generalizing j with
  | nil => simp [mapFind] at e
  | cons x xs ih =>
    obtain ⟨a, u⟩ := x
    simp only [mapFind] at e
    split at e
    · rename_i he
      simp only [Option.some.injEq, Prod.mk.injEq] at e
      obtain ⟨rfl, rfl⟩ := e
      exact ⟨Nat.le_refl _, a, by simp, he⟩
    · obtain ⟨h1, a', h2, h3⟩ := ih e
      refine ⟨by omega, a', ?_, h3⟩
      rw [show i - j = (i - (j + 1)) + 1 from by omega]
      simpa using h2
    · cases e
theorem lookup_sim {ρ : Operand → Value} {o : Oper} {t : TypeId} {x i : Operand} {ok : Bool} {dm dk : DV} (H : HR P w0 φ h w) (ho : o.op = .lookup t x i ok) (hm : VR P φ dm (ρ x)) (hk : VR P φ dk (ρ i)) : OutR P w0 φ h w (xLookup P h t dm dk ok) ((execOp ρ o).run P w) := by
  unfold xLookup
  split
  · rename_i kt e hu
    split
    · rename_i es hko hes
      have hd : ∃ d, under P kt = some d := by
        unfold keyOk at hko
        split at hko
        · exact ⟨_, ‹_›⟩
        · cases hko
      obtain ⟨d, hd⟩ := hd
      have hent : ∃ res : Array MapEntry, EntR P φ es res.toList ∧ ((ρ x = .map none ∧ res = #[]) ∨ ∃ rr clock, ρ x = .map (some rr) ∧ w.heap[rr]? = some (.map res clock)) := by
        unfold entriesD at hes
        split at hes
        · simp only [VR] at hm
          simp only [Option.some.injEq] at hes
          subst hes
          exact ⟨#[], rfl, .inl ⟨hm, rfl⟩⟩
        · rename_i r
          split at hes
          · rename_i es' hg
            simp only [Option.some.injEq] at hes
            subst hes
            simp only [VR] at hm
            obtain ⟨rr, q1, q2⟩ := hm
            obtain ⟨_, res, clock, q3, q4, _⟩ := H.objs r rr 0 _ q1 (getO_heap hg)
            exact ⟨res, q4, .inr ⟨rr, clock, q2, q3⟩⟩
          · cases hes
        · cases hes
      obtain ⟨res, he1, he2⟩ := hent
      have base : (execOp ρ o).run P w = ((Instr.lookup t (ρ x) (ρ i) ok).run P w).andThen (fun v w => .ok (Next.value v) w) := by simp [execOp, ho, Sem.run_bind]
      have hrun : (Instr.lookup t (ρ x) (ρ i) ok).run P w = ((do
          Instr.checkKey res.isEmpty 10000 kt (ρ i)
          let (v, b) ← match ← Instr.findKey kt (ρ i) res.toList with
            | some (_, v) => pure (v, true)
            | none => pure (← zeroValue e, false)
          pure (if ok then .tuple #[v, .bool b] else v) : Sem Value)).run P w := by
        unfold Instr.lookup
        rcases he2 with ⟨h1, h2⟩ | ⟨rr, clock, h1, h2⟩
        · subst h2
          rw [Sem.run_bind, run_underlying hu, Result.andThen_ok, h1]
          rfl
        · have hg : (getObj rr).run P w = .ok (.map res clock) w := by simp [getObj, Sem.run, h2]
          rw [Sem.run_bind, run_underlying hu, Result.andThen_ok, h1]
          dsimp only
          rw [Sem.run_bind, hg, Result.andThen_ok]
          rfl
      rw [base, hrun]
      simp only [Sem.run_bind, run_checkKey res.isEmpty 9998 hko hk, Result.andThen_ok]
      split
      · rename_i j v hf
        obtain ⟨rr, r1, r2⟩ := findKey_sim (w := w) hd hk hf he1
        obtain ⟨rv, rfl, r3⟩ := r2
        simp only [r1, Result.andThen_ok, Sem.run_pure]
        cases ok with
        | true => exact ValR.pure H ⟨#[rv, .bool true], rfl, VRL.cons r3 (VRL.cons rfl VRL.nil)⟩
        | false => exact ValR.pure H r3
      · rename_i hf
        obtain ⟨rr, r1, r2⟩ := findKey_sim (w := w) hd hk hf he1
        simp only [FoundR] at r2
        subst r2
        split
        · rename_i z hz
          obtain ⟨zv, hz1, hz2⟩ := run_zero (w := w) hz
          have hzr : VR P φ z zv := hz2 ▸ VR_ofValue zv
          simp only [r1, Result.andThen_ok, Sem.run_bind, hz1, Sem.run_pure]
          cases ok with
          | true => exact ValR.pure H ⟨#[zv, .bool false], rfl, VRL.cons hzr (VRL.cons rfl VRL.nil)⟩
          | false => exact ValR.pure H hzr
        · trivial
      · trivial
    · trivial
  · trivial
theorem setO_mk (heap : T DObj) (n : Nat) (g : T (List Nat)) (b : Nat) (o : DObj) : setO (.mk heap n g) b o = .mk (heap.set b o) n g := rfl
theorem Born.push {res : Array MapEntry} {clock : Nat} (b : Born res.toList clock) (k v : Value) : Born (res.push { key := k, val := v, born := clock }).toList (clock + 1) := by
  constructor
  · intro x hx
    simp only [Array.toList_push, List.mem_append, List.mem_singleton] at hx
    rcases hx with hx | rfl
    · exact Nat.lt_succ_of_lt (b.1 x hx)
    · exact Nat.lt_succ_self _
  · simp only [Array.toList_push, List.map_append, List.map_cons, List.map_nil]
    refine List.nodup_append.2 ⟨b.2, by simp, fun x hx y hy => ?_⟩
    obtain ⟨e, he, rfl⟩ := List.mem_map.1 hx
    simp only [List.mem_singleton] at hy
    have := b.1 e he
    omega
theorem Born.modify {res : Array MapEntry} {clock : Nat} (b : Born res.toList clock) (j : Nat) (f : MapEntry → MapEntry) (hf : ∀ e, (f e).born = e.born) : Born (res.modify j f).toList clock := by
  have hm : (res.modify j f).toList.map (·.born) = res.toList.map (·.born) := by
    rw [Array.toList_modify]
    apply List.ext_getElem?
    intro i
    rw [List.getElem?_map, List.getElem?_map, List.getElem?_modify]
    by_cases h : j = i
    · subst h
      cases res.toList[j]? with
      | none => simp
      | some e => simp [hf]
    · simp [h]
  refine ⟨fun x hx => ?_, by rw [hm]; exact b.2⟩
  have : x.born ∈ (res.modify j f).toList.map (·.born) := List.mem_map.2 ⟨x, hx, rfl⟩
  rw [hm] at this
  obtain ⟨e, he, h2⟩ := List.mem_map.1 this
  rw [← h2]
  exact b.1 e he
theorem mapUpdate_sim {ρ : Operand → Value} {o : Oper} {t : TypeId} {m k x : Operand} {dm dk dv : DV} (H : HR P w0 φ h w) (ho : o.op = .mapUpdate t m k x) (hm : VR P φ dm (ρ m)) (hk : VR P φ dk (ρ k)) (hv : VR P φ dv (ρ x)) : OutR P w0 φ h w (xMapUpdate P h t dm dk dv) ((execOp ρ o).run P w) := by
  unfold xMapUpdate
  split
  · rename_i kt e r hu
    split
    · rename_i es hko hg
      have hd : ∃ d, under P kt = some d := by
        unfold keyOk at hko
        split at hko
        · exact ⟨_, ‹_›⟩
        · cases hko
      obtain ⟨d, hd⟩ := hd
      simp only [VR] at hm
      obtain ⟨rr, q1, q2⟩ := hm
      have hg := getO_heap hg
      obtain ⟨_, res, clock, q3, q4, qb⟩ := H.objs r rr 0 _ q1 hg
      obtain ⟨heap, next, gs⟩ := h
      have hsz : rr < w.heap.size := (H.dom r rr 0 q1).2.2
      have wr : ∀ (es' : List (DV × DV)) (res' : Array MapEntry) (c : Nat), EntR P φ es' res'.toList → Born res'.toList c → (execOp ρ o).run P w = .ok .skip { w with heap := w.heap.setIfInBounds rr (.map res' c) } →
          OutR P w0 φ (.mk heap next gs) w (.val undefD (setO (.mk heap next gs) r (.map es'))) ((execOp ρ o).run P w) := by
        intro es' res' c he hbn hr
        have := H.setObj (o' := .map es') q1 hg (by intro _ _ _ e; cases e) (by intro _ _ _ e; cases e) (.map res' c) ⟨rfl, res', c, by
          show (w.heap.setIfInBounds rr _)[rr]? = _
          rw [Array.getElem?_setIfInBounds, if_pos rfl, if_pos hsz], he, hbn⟩
        rw [hr, setO_mk]
        refine ValR.skip this ⟨Nat.le_refl _, fun c hc hn => ⟨?_, hn⟩⟩ rfl
        simp only [HS.heap, T.get_set]
        rw [if_neg (fun e => by rw [e, q1] at hn; cases hn)]
      have hbase : ∀ (s : Sem Unit), (Instr.mapUpdate t (ρ m) (ρ k) (ρ x)).run P w = s.run P w → (execOp ρ o).run P w = (s.run P w).andThen (fun _ w => .ok .skip w) := by
        intro s hs
        simp [execOp, ho, Sem.run_bind, hs]
      have hgetObj : (getObj rr).run P w = .ok (.map res clock) w := by simp [getObj, Sem.run, q3]
      have hset : ∀ (ob : Obj), (setObj rr ob).run P w = .ok () { w with heap := w.heap.setIfInBounds rr ob } := by intro ob; simp [Go.setObj, Sem.run, q3]
      have hpre : ∀ (K : Option (Nat × Value) → Sem Unit) (ff : Option (Nat × Value)), (Instr.findKey kt (ρ k) res.toList).run P w = .ok ff w →
          (Instr.mapUpdate t (ρ m) (ρ k) (ρ x)).run P w = ((match ff with
            | some (i, _) => do
              let key ← Instr.keyThatStays (((res[i]?).map (·.key)).getD (ρ k)) (ρ k)
              Go.setObj rr (.map (res.modify i fun e => { e with key, val := ρ x }) clock)
            | none => Go.setObj rr (.map (res.push { key := ρ k, val := ρ x, born := clock }) (clock + 1)) : Sem Unit)).run P w := by
        intro K ff hff
        unfold Instr.mapUpdate
        simp only [Sem.run_bind, run_underlying hu, Result.andThen_ok, q2, hgetObj, run_checkKey false 9998 hko hk, hff]
        rfl
      split
      · rename_i hf
        obtain ⟨ff, r1, r2⟩ := findKey_sim (w := w) hd hk hf q4
        simp only [FoundR] at r2
        subst r2
        have h1 := hpre (fun _ => Sem.pure ()) none r1
        refine wr _ (res.push { key := ρ k, val := ρ x, born := clock }) (clock + 1) ?_ (qb.push _ _) ?_
        · simpa using q4.append (e := { key := ρ k, val := ρ x, born := clock }) hk hv
        · rw [hbase _ h1]; simp [hset]
      · rename_i j v hf
        split
        · rename_i hpk
          obtain ⟨ff, r1, r2⟩ := findKey_sim (w := w) hd hk hf q4
          obtain ⟨rv, rfl, r3⟩ := r2
          have h1 := hpre (fun _ => Sem.pure ()) _ r1
          -- the key that stands there is the same text
          obtain ⟨_, a, ha1, ha2⟩ := mapFind_lt hf
          have hent : ∀ {l : List (DV × DV)} {es : List MapEntry} {i : Nat} {p : DV × DV}, EntR P φ l es → l[i]? = some p → ∃ e, es[i]? = some e ∧ VR P φ p.1 e.key := by
            intro l
            induction l with
            | nil => intro es i p _ h2; simp at h2
            | cons y ys ih =>
              intro es i p h1 h2
              simp only [EntR] at h1
              obtain ⟨e', es', rfl, k1, k2, k3⟩ := h1
              cases i with
              | zero => simp at h2; subst h2; exact ⟨e', rfl, k1⟩
              | succ i => obtain ⟨e, g1, g2⟩ := ih k3 (by simpa using h2); exact ⟨e, by simpa using g1, g2⟩
          obtain ⟨en, en1, en2⟩ := hent q4 ha1
          have en1 : res[j]? = some en := by simpa using en1
          have hstay : (Instr.keyThatStays en.key (ρ k)).run P w = .ok (ρ k) w := by
            cases dk <;> simp only [plainKey, Bool.false_eq_true] at hpk
            rename_i l
            simp only [VR] at hk
            obtain ⟨s, hs1, hs2⟩ := hk
            unfold eqD at ha2
            split at ha2 <;> first | (cases ‹DV.str l = _›; done) | skip
            all_goals try (cases ha2; done)
            rename_i l1 l2 _ heq1
            simp only [DV.str.injEq] at heq1
            subst heq1
            simp only [VR] at en2
            obtain ⟨s', hs3, hs4⟩ := en2
            simp only [Option.some.injEq] at ha2
            rw [← hs2, ← hs4, strEq_eq] at ha2
            have : (s' == s) = true := by rw [bytes_beq]; simp only [beq_iff_eq] at ha2 ⊢; exact ha2.symm
            simp [Instr.keyThatStays, hs1, hs3, Instr.sameBits, this]
          refine wr _ (res.modify j fun e => { e with key := ρ k, val := ρ x }) clock ?_ (qb.modify j _ (fun e => rfl)) ?_
          · rw [Array.toList_modify]
            exact q4.set j fun e _ => ⟨hk, hv⟩
          · rw [hbase _ h1]; simp [en1, hstay, hset]
        · trivial
      · trivial
    · trivial
  · trivial
end Go.DM
set_option autoImplicit false
set_option linter.unusedVariables false
set_option linter.unusedSimpArgs false
namespace Go.DM
open Go.RowKit
variable {P : Program} {φ ψ : Emb} {w0 w w' : World} {h h' : HS}

theorem growBy_le (n : Nat) : ∀ (r c : Nat), c ≤ 2 * n + 768 → Builtin.growBy n r c ≤ 2 * n + 768 := by
  intro r
  induction r with
  | zero => intro c hc; exact hc
  | succ r ih =>
    intro c hc
    unfold Builtin.growBy
    split
    · exact hc
    · exact ih _ (by omega)
theorem nextcap_le (n o : Nat) (h : o < n) : Builtin.nextslicecap n o ≤ 2 * n + 768 := by
  unfold Builtin.nextslicecap
  split
  · omega
  · split
    · omega
    · exact growBy_le n 4 o (by omega)
structure AppCtx (P : Program) (ts : Array TypeId) (t e : TypeId) (size bytes : Nat) (z : DV) : Prop where
  t0 : ts[0]? = some t
  ni : notInt P ts[1]? = true
  ut : under P t = some (.slice e)
  se : sizeT P e = some size
  be : bytesT P e = some bytes
  ze : zeroT P e = some z
  po : partOk z = true
  zl : z.cells.length = size
theorem notInt_cases {o : Option TypeId} (hn : notInt P o = true) : o = none ∨ ∃ t d, o = some t ∧ under P t = some d ∧ ∀ k, d ≠ .int k := by
  cases o with
  | none => exact .inl rfl
  | some t =>
    right
    simp only [notInt] at hn
    cases hu : under P t with
    | none => rw [hu] at hn; simp at hn
    | some d =>
      refine ⟨t, d, rfl, hu, fun k e => ?_⟩
      subst e
      rw [hu] at hn
      simp at hn
theorem intMatch {d : TypeDesc} (h : ∀ k, d ≠ .int k) : (match d with | .int _ => true | _ => false) = false := by
  cases d <;> first | rfl | exact absurd rfl (h _)
theorem app_inplace {ts : Array TypeId} {t e ty : TypeId} {size bytes : Nat} {z : DV} (A : AppCtx P ts t e size bytes z) {base : Addr} {sLen sCap n : Nat} {x : Value} {new : Array Value} (hn : (Builtin.lenOf x).run P w = .ok n w) (hnew : (Builtin.firstCells size n x).run P w = .ok new w) (hle : sLen + n ≤ sCap)
    {w' : World} (hs : (storeCells (base.add (sLen * size)) new.toList).run P w = .ok () w') : (Builtin.append_ ts ty #[.slice (some base) sLen sCap, x]).run P w = .ok (.slice (some base) (sLen + n) sCap) w' := by
  unfold Builtin.append_
  have h0 : (#[Value.slice (some base) sLen sCap, x] : Array Value)[0]? = some (.slice (some base) sLen sCap) := rfl
  have h1 : (#[Value.slice (some base) sLen sCap, x] : Array Value)[1]? = some x := rfl
  simp only [A.t0, h0, h1]
  rcases notInt_cases A.ni with h2 | ⟨xt, d, h2, h3, h4⟩
  · simp only [h2, Sem.run_bind, run_underlying A.ut, Result.andThen_ok, run_sizeOf A.se, Bool.false_eq_true, if_false, hn, hle, if_true, Bool.not_false, hnew, hs, Sem.run_pure]
  · simp only [h2, Sem.run_bind, run_underlying A.ut, run_underlying h3, intMatch h4, Result.andThen_ok, run_sizeOf A.se, Bool.false_eq_true, if_false, hn, hle, if_true, Bool.not_false, hnew, hs, Sem.run_pure]
theorem app_realloc {ts : Array TypeId} {t e ty : TypeId} {size bytes : Nat} {z : DV} (A : AppCtx P ts t e size bytes z) {base : Option Addr} {sLen sCap n : Nat} {x : Value} {new old : Array Value} (hn : (Builtin.lenOf x).run P w = .ok n w) (hgt : ¬ sLen + n ≤ sCap) (hroom : (2 * (sLen + n) + 768) * bytes ≤ 1000000000000) (hmax : sLen + n ≤ 1000000000)
    (hold : ∀ m, (Builtin.firstCells size sLen (.slice base sLen sCap)).run P { w with drawn := m } = .ok old { w with drawn := m }) (hnew : ∀ m, (Builtin.firstCells size n x).run P { w with drawn := m } = .ok new { w with drawn := m }) :
    ∃ cap rest, sLen + n ≤ cap ∧ rest.size = (cap - (sLen + n)) * size ∧ (Builtin.append_ ts ty #[.slice base sLen sCap, x]).run P w = .ok (.slice (some ⟨w.heap.size, 0, none⟩) (sLen + n) cap) { w with drawn := w.drawn + 1, heap := w.heap.push (.cells (old ++ new ++ rest) e) } := by
  obtain ⟨zv, hz1, hz2⟩ := run_zero (w := { w with drawn := w.drawn + 1 }) A.ze
  have hzc := zero_cells (P := P) (φ := ⟨fun _ => none, fun _ => 0⟩) (t := e) hz2 A.po
  have hzsize : zv.cells.size = size := by have := VRL.length hzc; have := A.zl; simp at *; omega
  have hinfo : ∃ i, P.types[e]? = some i ∧ i.bytes = bytes := by
    have hb := A.be
    unfold bytesT at hb
    split at hb
    · rename_i i hi; simp only [Option.some.injEq] at hb; exact ⟨i, hi, hb⟩
    · cases hb
  obtain ⟨inf, hi1, hi2⟩ := hinfo
  generalize hcap : Question.cut (.appendCap (sLen + n) sCap e) (w.tape w.drawn (.appendCap (sLen + n) sCap e)) = cap
  have hle : sLen + n ≤ cap := by rw [← hcap]; exact Nat.le_add_right _ _
  refine ⟨cap, Builtin.zeroCells zv.cells (cap - (sLen + n)), hle, by simp [Builtin.zeroCells, hzsize], ?_⟩
  have hnc := nextcap_le (sLen + n) sCap (by omega)
  have hbig : (Builtin.nextslicecap (sLen + n) sCap * bytes > 2 ^ 48) = False := by
    apply eq_false
    have h1 : Builtin.nextslicecap (sLen + n) sCap * bytes ≤ (2 * (sLen + n) + 768) * bytes := Nat.mul_le_mul_right _ hnc
    have e48 : (2 : Nat) ^ 48 = 281474976710656 := rfl
    rw [e48]
    omega
  have hint : (((sLen + n : Nat) : Int) > IntKind.i64.max) = False := by
    apply eq_false
    intro h1
    have : IntKind.i64.max = 9223372036854775807 := rfl
    rw [this] at h1
    omega
  unfold Builtin.append_
  have h0 : (#[Value.slice base sLen sCap, x] : Array Value)[0]? = some (.slice base sLen sCap) := rfl
  have h1 : (#[Value.slice base sLen sCap, x] : Array Value)[1]? = some x := rfl
  simp only [A.t0, h0, h1]
  rcases notInt_cases A.ni with h2 | ⟨xt, d, h2, h3, h4⟩
  · simp only [h2, Sem.run_bind, run_underlying A.ut, Result.andThen_ok, run_sizeOf A.se, Bool.false_eq_true, if_false, hn, hgt, Bool.not_false, if_true, Sem.run_pure, run_typeInfo hi1, hint, false_and, hi2, hbig, run_choose, Question.forced, hcap, run_askRoom, hold, hnew, hz1, newRow, run_newObj]
  · simp only [h2, Sem.run_bind, run_underlying A.ut, run_underlying h3, intMatch h4, Result.andThen_ok, run_sizeOf A.se, Bool.false_eq_true, if_false, hn, hgt, Bool.not_false, if_true, Sem.run_pure, run_typeInfo hi1, hint, false_and, hi2, hbig, run_choose, Question.forced, hcap, run_askRoom, hold, hnew, hz1, newRow, run_newObj]
end Go.DM
set_option autoImplicit false
set_option linter.unusedVariables false
set_option linter.unusedSimpArgs false
namespace Go.DM
open Go.RowKit
variable {P : Program} {φ ψ : Emb} {w0 w w' : World} {h h' : HS}

def Apart (o o' : DObj) (sh sh' : Nat) : Prop := ∃ c n c' n' g s s', o = .cells c n (some (g, s)) ∧ o' = .cells c' n' (some (g, s')) ∧ sh + s' = sh' + s
theorem Apart.symm {o o' : DObj} {sh sh' : Nat} (h : Apart o o' sh sh') : Apart o' o sh' sh := by
  obtain ⟨c, n, c', n', g, s, s', h1, h2, h3⟩ := h
  exact ⟨c', n', c, n, g, s', s, h2, h1, h3.symm⟩
/-- the abstract heap behind an append: what is left of the old blocks, and one block more -/
structure AppD (φ : Emb) (heap heap1 : T DObj) (next : Nat) (gs' : T (List Nat)) (rb sh o p : Nat) (c' : T DV) (n' : Nat) (knew : Option (Nat × Nat)) : Prop where
  old : ∀ c1 o1, heap1.get c1 = some o1 → c1 < next ∧ (heap.get c1 = some o1 ∨ ∃ cc nn k k', heap.get c1 = some (.cells cc nn k) ∧ o1 = .cells cc nn k')
  near : ∀ c1 o1 s1, heap1.get c1 = some o1 → φ c1 = some (rb, s1) → ∃ cc nn g s s0, o1 = .cells cc nn (some (g, s)) ∧ knew = some (g, s0) ∧ s1 + s0 = (sh + o) + s ∧ s1 + nn ≤ sh + p
  kin : ∀ c cc n g s, (heap1.set next (.cells c' n' knew)).get c = some (.cells cc n (some (g, s))) → ∃ ms, gs'.get g = some ms ∧ c ∈ ms
  gmem : ∀ g ms m, gs'.get g = some ms → m ∈ ms → m = next ∨ ∃ x, φ m = some x
  apart : ∀ c c' rb sh sh' o o', φ c = some (rb, sh) → φ c' = some (rb, sh') → heap1.get c = some o → heap1.get c' = some o' → c ≠ c' → Apart o o' sh sh'
  gfresh : ∀ g, next + 1 ≤ g → gs'.get g = none
  gone : ∀ c1, c1 < next → φ c1 = none → heap1.get c1 = heap.get c1
theorem OR.kin {c : T DV} {n : Nat} {k k' : Option (Nat × Nat)} {rb sh : Nat} (h : OR P φ w (.cells c n k) rb sh) : OR P φ w (.cells c n k') rb sh := h
theorem HR.appD {heap heap1 : T DObj} {next : Nat} {gs gs' : T (List Nat)} {rb sh o p : Nat} {c' : T DV} {n' : Nat} {knew : Option (Nat × Nat)} {r' s' m' : Nat} (H : HR P w0 φ (.mk heap next gs) w) (A : AppD φ heap heap1 next gs' rb sh o p c' n' knew)
    (hle : φ.le (φ.put next (r', s') m')) (hb : Below w0.heap.size w w') (hr : w0.heap.size ≤ r' ∧ r' < w'.heap.size)
    (hob : ∀ c1 r s o1, φ c1 = some (r, s) → heap1.get c1 = some o1 → OR P φ w o1 r s → OR P (φ.put next (r', s') m') w' o1 r s)
    (hnew : OR P (φ.put next (r', s') m') w' (.cells c' n' knew) r' s')
    (hap : ∀ c1 s1 o1, φ c1 = some (r', s1) → heap1.get c1 = some o1 → Apart o1 (.cells c' n' knew) s1 s') :
    HR P w0 (φ.put next (r', s') m') (.mk (heap1.set next (.cells c' n' knew)) (Nat.succ next) gs') w' ∧ Kept φ (φ.put next (r', s') m') (.mk heap next gs) (.mk (heap1.set next (.cells c' n' knew)) (Nat.succ next) gs') := by
  have hn := H.nextNone
  have hne : ∀ {c1 : Nat} {x : Nat × Nat}, φ c1 = some x → c1 ≠ next := fun e e2 => by rw [e2, hn] at e; cases e
  refine ⟨{
    below := H.below.trans hb
    dom := fun b r s e => ?_
    objs := fun b r s o1 e e1 => ?_
    fresh := fun b hb' => ?_
    gfresh := fun g hg => A.gfresh g hg
    kin := fun c cc n g s e => A.kin c cc n g s e
    gmem := fun g ms m e1 e2 => ?_
    apart := fun b b' r s s2 o1 o2 e1 e2 h1 h2 hbb => ?_ }, by simp [HS.next], fun c hc he => ⟨?_, ?_⟩⟩
  · rw [put_f] at e
    by_cases hbn : b = next
    · rw [if_pos hbn] at e
      simp only [Option.some.injEq, Prod.mk.injEq] at e
      obtain ⟨rfl, rfl⟩ := e
      exact ⟨by simp [HS.next, hbn], hr⟩
    · rw [if_neg hbn] at e
      obtain ⟨a1, a2, a3⟩ := H.dom b r s e
      exact ⟨by simp only [HS.next] at a1 ⊢; omega, a2, Nat.lt_of_lt_of_le a3 hb.size⟩
  · simp only [HS.heap, T.get_set] at e1
    by_cases hbn : b = next
    · rw [if_pos hbn] at e1
      rw [put_f, if_pos hbn] at e
      simp only [Option.some.injEq, Prod.mk.injEq] at e e1
      obtain ⟨rfl, rfl⟩ := e
      subst e1
      exact hnew
    · rw [if_neg hbn] at e1
      rw [put_f, if_neg hbn] at e
      refine hob b r s o1 e e1 ?_
      rcases (A.old b o1 e1).2 with q | ⟨cc, nn, k, k', q1, q2⟩
      · exact H.objs b r s o1 e q
      · subst q2
        exact (H.objs b r s _ e q1).kin
  · simp only [HS.heap, HS.next, T.get_set] at hb' ⊢
    rw [if_neg (by omega)]
    cases e : heap1.get b with
    | none => rfl
    | some o1 => have := (A.old b o1 e).1; omega
  · rcases A.gmem g ms m e1 e2 with rfl | ⟨x, hx⟩
    · exact ⟨_, put_self⟩
    · exact ⟨x, hle.1 _ _ hx⟩
  · simp only [HS.heap, T.get_set] at h1 h2
    by_cases hbn : b = next
    · subst hbn
      rw [if_pos rfl] at h1
      rw [if_neg (Ne.symm hbb)] at h2
      rw [put_f, if_pos rfl] at e1
      rw [put_f, if_neg (Ne.symm hbb)] at e2
      simp only [Option.some.injEq, Prod.mk.injEq] at e1 h1
      obtain ⟨rfl, rfl⟩ := e1
      subst h1
      exact (hap b' s2 o2 e2 h2).symm
    · rw [if_neg hbn] at h1
      rw [put_f, if_neg hbn] at e1
      by_cases hbn' : b' = next
      · subst hbn'
        rw [if_pos rfl] at h2
        rw [put_f, if_pos rfl] at e2
        simp only [Option.some.injEq, Prod.mk.injEq] at e2 h2
        obtain ⟨rfl, rfl⟩ := e2
        subst h2
        exact hap b s o1 e1 h1
      · rw [if_neg hbn'] at h2
        rw [put_f, if_neg hbn'] at e2
        exact A.apart b b' r s s2 o1 o2 e1 e2 h1 h2 hbb
  · simp only [HS.next] at hc
    simp only [HS.heap, T.get_set]
    rw [if_neg (by omega)]
    exact A.gone c hc he
  · simp only [HS.next] at hc
    rw [put_f, if_neg (by omega)]
    exact he
theorem trimKin_get (p : Nat) : ∀ (ms : List Nat) (t : T DObj) (c : Nat) (o : DObj), (trimKin p ms t).get c = some o → t.get c = some o ∧ (c ∈ ms → ∀ cc n g s, o = .cells cc n (some (g, s)) → s + n ≤ p) := by
  intro ms
  induction ms with
  | nil => intro t c o h; exact ⟨h, fun hc => by cases hc⟩
  | cons m ms ih =>
    intro t c o h
    unfold trimKin at h
    split at h
    · rename_i cc n g sh hm
      split at h
      · rename_i hle
        obtain ⟨h1, h2⟩ := ih _ _ _ h
        refine ⟨h1, fun hc cc' n' g' s' ho => ?_⟩
        simp only [List.mem_cons] at hc
        rcases hc with rfl | hc
        · rw [h1] at hm
          subst ho
          simp only [Option.some.injEq, DObj.cells.injEq, Prod.mk.injEq] at hm
          obtain ⟨_, rfl, _, rfl⟩ := hm
          exact Nat.le_of_ble_eq_true hle
        · exact h2 hc _ _ _ _ ho
      · obtain ⟨h1, h2⟩ := ih _ _ _ h
        rw [T.get_put] at h1
        by_cases hcm : c = m
        · rw [if_pos hcm] at h1; cases h1
        · rw [if_neg hcm] at h1
          exact ⟨h1, fun hc cc' n' g' s' ho => h2 (by simp only [List.mem_cons] at hc; exact hc.resolve_left hcm) _ _ _ _ ho⟩
    · rename_i hno
      obtain ⟨h1, h2⟩ := ih _ _ _ h
      refine ⟨h1, fun hc cc' n' g' s' ho => ?_⟩
      simp only [List.mem_cons] at hc
      rcases hc with rfl | hc
      · subst ho
        exact absurd h1 (hno _ _ _ _)
      · exact h2 hc _ _ _ _ ho
theorem trimKin_keep (p : Nat) : ∀ (ms : List Nat) (t : T DObj) (c : Nat), c ∉ ms → (trimKin p ms t).get c = t.get c := by
  intro ms
  induction ms with
  | nil => intro t c _; rfl
  | cons m ms ih =>
    intro t c hc
    simp only [List.mem_cons, not_or] at hc
    unfold trimKin
    split
    · split
      · exact ih _ _ hc.2
      · rw [ih _ _ hc.2, T.get_put, if_neg hc.1]
    · exact ih _ _ hc.2
/-- the three kinds of kin -/
theorem appD_of {heap : T DObj} {next : Nat} {gs : T (List Nat)} {b rb sh o p n : Nat} {c : T DV} {kin : Option (Nat × Nat)} (H : HR P w0 φ (.mk heap next gs) w) (hb : φ b = some (rb, sh)) (hg : heap.get b = some (.cells c n kin)) (c' : T DV) (n' : Nat) :
    (kin = none → n ≤ p → AppD φ heap (heap.set b (.cells c n (some (next, 0)))) next (gs.set next [next, b]) rb sh o p c' n' (some (next, o))) ∧
    (kin = none → AppD φ heap (heap.put b none) next gs rb sh o p c' n' none) ∧
    (∀ g s ms, kin = some (g, s) → gs.get g = some ms → AppD φ heap (trimKin (s + p) ms heap) next (gs.set g (next :: ms)) rb sh o p c' n' (some (g, s + o))) := by
  have hbn : b < next := (H.dom b rb sh hb).1
  have hlt : ∀ c1 o1, heap.get c1 = some o1 → c1 < next := by
    intro c1 o1 e
    rcases Nat.lt_or_ge c1 next with h | h
    · exact h
    · have := H.fresh c1 h
      simp only [HS.heap] at this
      rw [this] at e; cases e
  have hgnext : gs.get next = none := H.gfresh next (Nat.le_refl _)
  have lone : kin = none → ∀ c1 o1 s1, heap.get c1 = some o1 → φ c1 = some (rb, s1) → c1 = b := by
    intro hk c1 o1 s1 e1 e2
    rcases Nat.decEq c1 b with hne | he
    · obtain ⟨_, _, _, _, _, _, _, h1, h2, _⟩ := H.apart c1 b rb s1 sh o1 _ e2 hb e1 hg hne
      rw [hk] at h2
      simp at h2
    · exact he
  refine ⟨fun hk hnp => ?_, fun hk => ?_, fun g s ms hk hms => ?_⟩
  · exact {
      old := fun c1 o1 e => by
        rw [T.get_set] at e
        by_cases hc : c1 = b
        · rw [if_pos hc] at e
          simp only [Option.some.injEq] at e
          subst hc
          exact ⟨hbn, .inr ⟨c, n, kin, some (next, 0), hg, e.symm⟩⟩
        · rw [if_neg hc] at e; exact ⟨hlt _ _ e, .inl e⟩
      near := fun c1 o1 s1 e e2 => by
        rw [T.get_set] at e
        by_cases hc : c1 = b
        · rw [if_pos hc] at e
          subst hc
          rw [hb] at e2
          simp only [Option.some.injEq, Prod.mk.injEq] at e e2
          exact ⟨c, n, next, 0, o, e.symm, rfl, by omega, by omega⟩
        · rw [if_neg hc] at e; exact absurd (lone hk c1 o1 s1 e e2) hc
      kin := fun c1 cc n1 g1 s1 e => by
        rw [T.get_set] at e
        by_cases hc : c1 = next
        · rw [if_pos hc] at e
          simp only [Option.some.injEq, DObj.cells.injEq, Prod.mk.injEq] at e
          exact ⟨[next, b], by rw [T.get_set, if_pos e.2.2.1.symm], by simp [hc]⟩
        · rw [if_neg hc, T.get_set] at e
          by_cases hc2 : c1 = b
          · rw [if_pos hc2] at e
            simp only [Option.some.injEq, DObj.cells.injEq, Prod.mk.injEq] at e
            exact ⟨[next, b], by rw [T.get_set, if_pos e.2.2.1.symm], by simp [hc2]⟩
          · rw [if_neg hc2] at e
            obtain ⟨ms, m1, m2⟩ := H.kin c1 cc n1 g1 s1 e
            refine ⟨ms, ?_, m2⟩
            rw [T.get_set, if_neg (fun e => by simp only [HS.groups] at m1; rw [e, hgnext] at m1; cases m1)]
            exact m1
      gmem := fun g ms m e1 e2 => by
        rw [T.get_set] at e1
        by_cases hc : g = next
        · rw [if_pos hc] at e1
          simp only [Option.some.injEq] at e1
          subst e1
          simp only [List.mem_cons, List.not_mem_nil, or_false] at e2
          rcases e2 with e2 | e2
          · exact .inl e2
          · exact .inr ⟨_, e2 ▸ hb⟩
        · rw [if_neg hc] at e1; exact .inr (H.gmem g ms m e1 e2)
      apart := fun c1 c2 r s1 s2 o1 o2 e1 e2 d1 d2 hne => by
        rw [T.get_set] at d1 d2
        by_cases h1 : c1 = b
        · subst h1
          rw [if_neg (Ne.symm hne)] at d2
          rw [hb] at e1
          simp only [Option.some.injEq, Prod.mk.injEq] at e1
          obtain ⟨rfl, rfl⟩ := e1
          exact absurd (lone hk c2 o2 s2 d2 e2) (Ne.symm hne)
        · rw [if_neg h1] at d1
          by_cases h2 : c2 = b
          · subst h2
            rw [hb] at e2
            simp only [Option.some.injEq, Prod.mk.injEq] at e2
            obtain ⟨rfl, rfl⟩ := e2
            exact absurd (lone hk c1 o1 s1 d1 e1) h1
          · rw [if_neg h2] at d2
            exact H.apart c1 c2 r s1 s2 o1 o2 e1 e2 d1 d2 hne
      gfresh := fun g hgn => by rw [T.get_set, if_neg (by omega)]; exact H.gfresh g (by simp only [HS.next]; omega)
      gone := fun c1 hc hn => by rw [T.get_set, if_neg (fun e => by rw [e, hb] at hn; cases hn)] }
  · exact {
      old := fun c1 o1 e => by
        rw [T.get_put] at e
        by_cases hc : c1 = b
        · rw [if_pos hc] at e; cases e
        · rw [if_neg hc] at e; exact ⟨hlt _ _ e, .inl e⟩
      near := fun c1 o1 s1 e e2 => by
        rw [T.get_put] at e
        by_cases hc : c1 = b
        · rw [if_pos hc] at e; cases e
        · rw [if_neg hc] at e; exact absurd (lone hk c1 o1 s1 e e2) hc
      kin := fun c1 cc n1 g1 s1 e => by
        rw [T.get_set] at e
        by_cases hc : c1 = next
        · rw [if_pos hc] at e
          simp at e
        · rw [if_neg hc, T.get_put] at e
          by_cases hc2 : c1 = b
          · rw [if_pos hc2] at e; cases e
          · rw [if_neg hc2] at e; exact H.kin c1 cc n1 g1 s1 e
      gmem := fun g ms m e1 e2 => .inr (H.gmem g ms m e1 e2)
      apart := fun c1 c2 r s1 s2 o1 o2 e1 e2 d1 d2 hne => by
        rw [T.get_put] at d1 d2
        by_cases h1 : c1 = b
        · rw [if_pos h1] at d1; cases d1
        · by_cases h2 : c2 = b
          · rw [if_pos h2] at d2; cases d2
          · rw [if_neg h1] at d1
            rw [if_neg h2] at d2
            exact H.apart c1 c2 r s1 s2 o1 o2 e1 e2 d1 d2 hne
      gfresh := fun g hgn => H.gfresh g (by simp only [HS.next]; omega)
      gone := fun c1 hc hn => by rw [T.get_put, if_neg (fun e => by rw [e, hb] at hn; cases hn)] }
  · subst hk
    exact {
      old := fun c1 o1 e => by
        obtain ⟨h1, _⟩ := trimKin_get _ _ _ _ _ e
        exact ⟨hlt _ _ h1, .inl h1⟩
      near := fun c1 o1 s1 e e2 => by
        obtain ⟨h1, h2⟩ := trimKin_get _ _ _ _ _ e
        by_cases hc : c1 = b
        · subst hc
          rw [hg] at h1
          rw [hb] at e2
          simp only [Option.some.injEq, Prod.mk.injEq] at h1 e2
          obtain ⟨ms', m1, m2⟩ := H.kin c1 c n g s hg
          simp only [HS.groups] at m1
          rw [hms] at m1
          simp only [Option.some.injEq] at m1
          subst m1
          have := h2 m2 c n g s h1.symm
          exact ⟨c, n, g, s, s + o, h1.symm, rfl, by omega, by omega⟩
        · obtain ⟨c2, n2, c3, n3, g', sa, sb, q1, q2, q3⟩ := H.apart c1 b rb s1 sh o1 _ e2 hb h1 hg hc
          simp only [DObj.cells.injEq, Option.some.injEq, Prod.mk.injEq] at q2
          obtain ⟨_, _, rfl, rfl⟩ := q2
          subst q1
          obtain ⟨ms', m1, m2⟩ := H.kin c1 _ _ _ _ h1
          simp only [HS.groups] at m1
          rw [hms] at m1
          simp only [Option.some.injEq] at m1
          subst m1
          have := h2 m2 _ _ _ _ rfl
          exact ⟨c2, n2, g, sa, s + o, rfl, rfl, by omega, by omega⟩
      kin := fun c1 cc n1 g1 s1 e => by
        rw [T.get_set] at e
        by_cases hc : c1 = next
        · rw [if_pos hc] at e
          simp only [Option.some.injEq, DObj.cells.injEq, Prod.mk.injEq] at e
          exact ⟨next :: ms, by rw [T.get_set, if_pos e.2.2.1.symm], by simp [hc]⟩
        · rw [if_neg hc] at e
          obtain ⟨h1, _⟩ := trimKin_get _ _ _ _ _ e
          obtain ⟨ms', m1, m2⟩ := H.kin c1 cc n1 g1 s1 h1
          by_cases hgg : g1 = g
          · subst hgg
            simp only [HS.groups] at m1
            rw [hms] at m1
            simp only [Option.some.injEq] at m1
            subst m1
            exact ⟨next :: ms, by rw [T.get_set, if_pos rfl], by simp [m2]⟩
          · exact ⟨ms', by rw [T.get_set, if_neg hgg]; exact m1, m2⟩
      gmem := fun g1 ms' m e1 e2 => by
        rw [T.get_set] at e1
        by_cases hgg : g1 = g
        · rw [if_pos hgg] at e1
          simp only [Option.some.injEq] at e1
          subst e1
          simp only [List.mem_cons] at e2
          rcases e2 with e2 | e2
          · exact .inl e2
          · exact .inr (H.gmem g ms m hms e2)
        · rw [if_neg hgg] at e1; exact .inr (H.gmem g1 ms' m e1 e2)
      apart := fun c1 c2 r s1 s2 o1 o2 e1 e2 d1 d2 hne => H.apart c1 c2 r s1 s2 o1 o2 e1 e2 (trimKin_get _ _ _ _ _ d1).1 (trimKin_get _ _ _ _ _ d2).1 hne
      gfresh := fun g1 hgn => by
        have : g1 ≠ g := fun e => by
          have := H.gfresh g1 (by simp only [HS.next]; omega)
          simp only [HS.groups] at this
          rw [e, hms] at this; cases this
        rw [T.get_set, if_neg this]; exact H.gfresh g1 (by simp only [HS.next]; omega)
      gone := fun c1 hc hn => trimKin_keep _ _ _ _ (fun hm => by
        obtain ⟨x, hx⟩ := H.gmem g ms c1 hms hm
        rw [hn] at hx; cases hx) }
end Go.DM
