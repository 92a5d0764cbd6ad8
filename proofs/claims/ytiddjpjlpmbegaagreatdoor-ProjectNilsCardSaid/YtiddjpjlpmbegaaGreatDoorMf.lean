import Derived.Test.YtiddjpjlpmbegaaGreatDoorMe
import Derived.Laws.Externs
import Derived.Sort.KeysCollected
import Derived.Maps.Own
set_option linter.unusedVariables false
set_option linter.unusedSimpArgs false
set_option linter.unnecessarySimpa false
set_option autoImplicit false
set_option linter.unusedVariables false
set_option linter.unusedSimpArgs false
namespace Go.DM
open Go.RowKit
variable {P : Program} {φ ψ φ' : Emb} {w0 w w' : World} {h h' : HS} {I : Intr} {base : List Frame}
variable {fn : FuncId} {t : T DV} {todo : List DItem} {defers : List DDef} {kind : CallKind} {ro : Option Nat} {fr : Frame} {cs : List Frame} {dfs : List DF} {B B1 B2 : Nat → Prop} {s' : DS}

/-! ### returning -/
theorem return_sim {v : DV} {x : Value} (H : HR P w0 φ h w) (C : CR P φ h base B dfs cs) (hlow : ∀ b, B b → b < h.next) (hv : VR P φ v x) (hkd : fr.kind = kind) (e : returnD P kind dfs h v = some s') :
    ∃ fr' cs', (doReturn P true fr cs none x w).bare = .go { frame := fr', callers := cs', status := .running, dying := none } w ∧ SR P w0 base s' fr' cs' w := by
  unfold returnD at e
  cases C with
  | nil => cases e
  | cons F C hB =>
    rename_i b1 b2 d f ds fs
    obtain ⟨fn', t', todo', defers', mode', kind', ro'⟩ := d
    simp only at e
    cases kind with
    | normal =>
      simp only at e
      cases mode' with
      | run =>
        simp only [Option.some.injEq] at e
        subst e
        refine ⟨f.finish x, fs, by simp [doReturn, hkd], SR.mk' (Emb.le_refl φ) (Keeps.refl _ _ _) H (F.finish (Emb.le_refl φ) (Keeps.refl _ _ _) hv) C hB hlow⟩
      | returning => cases e
      | panicking c => cases e
    | deferred =>
      simp only at e
      cases mode' with
      | run => cases e
      | returning =>
        simp only [Option.some.injEq] at e
        subst e
        cases F with
        | off ht hs hm hc hd hr =>
          cases hm
          exact ⟨_, fs, by simp [doReturn, hkd], SR.mk' (Emb.le_refl φ) (Keeps.refl _ _ _) H (.off ht hs .returning hc hd hr) C hB hlow⟩
      | panicking c =>
        simp only at e
        cases F with
        | off ht hs hm hc hd hr =>
          cases hm with
          | panicking ec =>
            cases ec with
            | nil =>
              simp only [Option.some.injEq] at e
              subst e
              exact ⟨_, fs, by simp [doReturn, hkd], SR.mk' (Emb.le_refl φ) (Keeps.refl _ _ _) H (.off ht hs (.panicking .nil) hc hd hr) C hB hlow⟩
            | cons ev et =>
              rename_i v' x' b c rc
              cases b with
              | true =>
                simp only [Option.some.injEq] at e
                subst e
                have hdrop : rc.dropWhile (!·.goexit) = [] := by
                  clear ev hv
                  induction et with
                  | nil => rfl
                  | cons _ _ ih => simpa [List.dropWhile] using ih
                exact ⟨_, fs, by simp [doReturn, hkd, hdrop], SR.mk' (Emb.le_refl φ) (Keeps.refl _ _ _) H (.off ht hs .returning hc hd hr) C hB hlow⟩
              | false =>
                simp only [Option.some.injEq] at e
                subst e
                exact ⟨_, fs, by simp [doReturn, hkd], SR.mk' (Emb.le_refl φ) (Keeps.refl _ _ _) H (.off ht hs (.panicking (.cons ev et)) hc hd hr) C hB hlow⟩
    | _ => cases e

/-! ### leaving -/
def stOf : Option Code → LoopState
  | none => .ready
  | some _ => .done
def boOf : Option Code → Bool
  | none => true
  | some _ => false
def leaveG (P : Program) (fr : Frame) (callers : List Frame) (jump : Option Code) (w : World) : GStep :=
  match fr.roundOf with
  | none => if jump matches none | some .ret then .go { frame := { fr with mode := .returning }, callers, status := .running, dying := none } w else .ended (.stuck "exit, goto: no such block or label" (fr.pos P)) w
  | some l =>
    let (r, es) := (Instr.endRound l jump).runT P w #[]
    GStep.after (seen P fr.fn es) <| match r with
    | .ok v w => doReturn P true fr callers none v w
    | .halt _ w => .ended (.stuck "range over a function: no such loop" (fr.pos P)) w
theorem leave_sim {jump : Option Code} (H : HR P w0 φ h w) (F : FR P φ h B1 false (.mk fn t todo defers .run kind ro) fr) (hnd : NoCall fr.todo) (hTR : TR P φ t fr.tmps) (C : CR P φ h base B2 dfs cs) (hB : ∀ b, B1 b → ¬ B2 b) (hlow : ∀ b, B1 b ∨ B2 b → b < h.next)
    (hs : stepG P true { frame := fr, callers := cs, status := .running, dying := none } w = leaveG P fr cs jump w)
    (e : leaveD P fn t todo defers kind ro dfs h jump = some s') : ∃ fr' cs' w', Steps P (lone fr cs w) (lone fr' cs' w') ∧ SR P w0 base s' fr' cs' w' := by
  obtain ⟨hkind, hfn, hmode, hro⟩ := F.facts
  unfold leaveD at e
  cases ro with
  | none =>
    have hrn : fr.roundOf = none := by
      generalize fr.roundOf = y at hro
      cases hro; rfl
    have hret : (jump = none ∨ jump = some .ret) ∧ s' = .mk (.mk fn t todo defers .returning kind none :: dfs) h := by
      simp only at e
      split at e
      · simp only [Option.some.injEq] at e; exact ⟨.inl rfl, e.symm⟩
      · simp only [Option.some.injEq] at e; exact ⟨.inr rfl, e.symm⟩
      · cases e
    obtain ⟨hj, rfl⟩ := hret
    refine ⟨{ fr with mode := .returning }, cs, w, .one (step_lone_go ?_), SR.mk' (B1 := B1) (Emb.le_refl φ) (Keeps.refl _ _ _) H ?_ C hB hlow⟩
    · rw [hs]
      unfold leaveG
      rw [hrn]
      rcases hj with rfl | rfl <;> simp
    · cases F with
      | run ht hsz hi hd hr => exact .off ht hsz .returning hnd hd hr
      | draw hβ D hsu hi hd hr => exact .off hTR D.size .returning hnd hd hr
      | off ht hs hm hc hd hr => cases hm
  | some l =>
    obtain ⟨rl, hrl, hl⟩ : ∃ rl, fr.roundOf = some rl ∧ φ l = some (rl, 0) := by
      generalize fr.roundOf = y at hro
      cases hro with
      | some e => exact ⟨_, rfl, e⟩
    simp only at e
    split at e
    · split at e
      · rename_i st pend f ltmps params assign body d hg
        obtain ⟨L, k1, k2, k3, k4, k5, k6, k7, k8, k9, k10⟩ := H.loop hl hg
        have hst : (if jump.isNone then LoopState.ready else .done) = stOf jump := by cases jump <;> rfl
        have e' : returnD P kind dfs (setO h l (.loop (stOf jump) jump f ltmps params assign body d)) (.bool (boOf jump)) = some s' := by cases jump <;> exact e
        clear e
        obtain ⟨H', hk⟩ := H.setLoop (st' := stOf jump) (pend' := jump) (L' := { L with state := if jump.isNone then .ready else .done, pending := jump }) hl hg k1 hst rfl k4 k5 k6 k7 k8 k9 k10
        have hrun := run_endRound (P := P) (jump := jump) k1
        obtain ⟨fr', cs', r1, r2⟩ := return_sim (fr := fr) H' (C.under (Emb.le_refl φ) hk.keeps) (fun b hb => Nat.lt_of_lt_of_le (hlow b (.inr hb)) hk.1) (v := .bool (boOf jump)) (x := .bool jump.isNone) (by cases jump <;> rfl) hkind e'
        refine ⟨fr', cs', _, .one (step_lone_go ?_), r2⟩
        rw [hs]
        unfold leaveG
        rw [hrl]
        simp only [Sem.runT_eq, hrun, GStep.bare_after]
        exact r1
      · cases e
    · cases e

/-! ### unwinding -/
theorem unwind_sim (hN : NoCount P) {mode : DMode} (hmo : mode ≠ .run) (H : HR P w0 φ h w) (F : FR P φ h B1 false (.mk fn t todo defers mode kind ro) fr) (C : CR P φ h base B2 dfs cs) (hB : ∀ b, B1 b → ¬ B2 b) (hlow : ∀ b, B1 b ∨ B2 b → b < h.next)
    (e : unwindD P fn t todo defers mode kind ro dfs h = some s') : ∃ fr' cs' w', Steps P (lone fr cs w) (lone fr' cs' w') ∧ SR P w0 base s' fr' cs' w' := by
  cases F with
  | run ht hs hi hd hr => exact absurd rfl hmo
  | draw hβ D hsu hi hd hr => exact absurd rfl hmo
  | off ht hsz hm hc hd hr =>
    rename_i rmode rt rtodo rdefers rro
    have hstep : stepG P true { frame := ⟨fn, rt, rtodo, rdefers, rmode, kind, rro⟩, callers := cs, status := .running, dying := none } w = unwind P true ⟨fn, rt, rtodo, rdefers, rmode, kind, rro⟩ cs none w := by
      cases hm <;> rfl
    unfold unwindD at e
    cases hd with
    | cons ed et =>
      rename_i d r ds rs
      simp only at e
      cases d with
      | collected b =>
        obtain ⟨rr, k1, rfl⟩ := ed
        simp only at e
        split at e
        · rename_i hg
          simp only [Option.some.injEq] at e
          subst e
          have ho := H.objs b rr 0 _ k1 (getO_heap hg)
          obtain ⟨_, ho⟩ := ho
          simp only at ho
          have hrl : rr < w.heap.size := (Array.getElem?_eq_some_iff.1 ho).1
          have hrun := run_takeDeferred (P := P) ho
          have H' : HR P w0 φ (setO h b (.deferred false)) { w with heap := w.heap.setIfInBounds rr (.deferred none) } := by
            have hg' := getO_heap hg
            obtain ⟨heap, next, g⟩ := h
            exact H.setObj k1 hg' (by intro _ _ _ e; cases e) (by intro _ _ _ e; cases e) _ ⟨rfl, by
              show (w.heap.setIfInBounds rr _)[rr]? = _
              rw [Array.getElem?_setIfInBounds, if_pos rfl, if_pos hrl]⟩
          have hk : Kept φ φ h (setO h b (.deferred false)) := by
            obtain ⟨heap, next, g⟩ := h
            refine ⟨Nat.le_refl _, fun c hc he => ⟨?_, he⟩⟩
            simp only [setO, HS.heap, T.get_set]
            rw [if_neg (fun e => by subst e; rw [k1] at he; cases he)]
          refine ⟨⟨fn, rt, rtodo, rs, rmode, kind, rro⟩, cs, _, .one (step_lone_go ?_), SR.mk' (B1 := B1) (Emb.le_refl φ) hk.keeps H' (.off ht hsz hm hc et hr) C hB hlow⟩
          rw [hstep]
          simp [unwind, hrun]
        · cases e
      | call f args =>
        obtain ⟨g', first, cap, args', k1, k2, rfl⟩ := ed
        simp only at e
        split at e
        · rename_i g as h2 hf
          unfold funcVal at hf
          split at hf
          · rename_i gg first' cap'
            cases hf
            simp only [VR, FnR] at k1
            obtain ⟨fn', a', b', q1, q2, q3, q4⟩ := k1
            simp only [Value.func.injEq] at q1
            obtain ⟨rfl, rfl, rfl⟩ := q1
            subst q2
            obtain ⟨c, hb, rfl⟩ := enterF_some e
            have hargs : VRL P φ (first' ++ (args ++ cap')) ((first ++ args') ++ cap).toList := by
              simp only [Array.toList_append, List.append_assoc]
              exact q3.append (k2.append q4)
            refine ⟨Frame.enter P g ((first ++ args') ++ cap) .deferred, ⟨fn, rt, rtodo, rs, rmode, kind, rro⟩ :: cs, w, .one (step_lone_go ?_),
              SR.above H (B1 := B1) (.off ht hsz hm hc et hr) C hB hlow (FR.enter hargs hb _ _)⟩
            rw [hstep]
            simp [unwind, callDeferred, invoke, callFunc_enter hN hb]
          · cases hf
          · cases hf
        · cases e
    | nil =>
      simp only at e
      cases hm with
      | returning =>
        simp only at e
        split at e
        · rename_i f hf
          split at e
          · rename_i l hl
            obtain ⟨x, hx, hv⟩ := run_results H ht hl
            obtain ⟨fr', cs', r1, r2⟩ := return_sim (fr := ⟨fn, rt, rtodo, [], .returning, kind, rro⟩) H C (fun b hb => hlow b (.inr hb)) hv rfl e
            refine ⟨fr', cs', _, .one (step_lone_go ?_), r2⟩
            rw [hstep]
            simp [unwind, hf, hx, r1]
          · cases e
        · cases e
      | panicking ec =>
        rename_i c rc
        simp only at e
        cases C with
        | nil => cases e
        | cons F2 C2 hB2 =>
          rename_i b1 b2 d f ds fs
          simp only [Option.some.injEq] at e
          subst e
          refine ⟨f.raise rc, fs, w, .one (step_lone_go ?_), SR.mk' (B1 := b1) (Emb.le_refl φ) (Keeps.refl _ _ _) H (F2.raise ec) C2 hB2 (fun b hb => hlow b (.inr hb))⟩
          rw [hstep]
          have hcat : (⟨fn, rt, rtodo, [], .panicking rc, kind, rro⟩ : Frame).catches P = false := by
            unfold Frame.catches
            split
            · rename_i hh; exact absurd hh (hc _ _ _ _ _)
            · rfl
          simp [unwind, hcat]
end Go.DM
set_option autoImplicit false
set_option linter.unusedVariables false
set_option linter.unusedSimpArgs false
namespace Go.DM
open Go.RowKit
variable {P : Program} {φ ψ φ' : Emb} {w0 w w' : World} {h h' : HS} {I : Intr} {base : List Frame}
variable {fn : FuncId} {t : T DV} {defers : List DDef} {kind : CallKind} {ro : Option Nat} {cs : List Frame} {dfs : List DF} {B B1 B2 : Nat → Prop} {s' : DS}
variable {rdefers : List Deferred} {rro : Option Nat} {ops : Array Oper} {rk : List Item} {k : List DItem} {rt : Array Value}

/-! ### one operation of the machine's -/
theorem stepG_at {i : Nat} {rest : List Nat} {o : Oper} (ho : ops[i]? = some o) (hw : Region.wanted o (yielded ops rt) = true) (hd : ∀ l c, rro = some l → o.op ≠ .defer c) :
    stepG P true { frame := ⟨fn, rt, .inRegion ops (i :: rest) :: rk, rdefers, .run, kind, rro⟩, callers := cs, status := .running, dying := none } w =
      stepG.apply P true ⟨fn, rt, .inRegion ops (i :: rest) :: rk, rdefers, .run, kind, rro⟩ cs none (execOp (evalR rt) o) w := by
  simp only [stepG, stepG.exec, stepG.oper, Frame.oper?, ho, Option.map_some, Option.getD_some, hw, if_true, evalR_frame]
theorem finish_at {i : Nat} {rest : List Nat} {o : Oper} {x : Value} (ho : ops[i]? = some o) :
    (⟨fn, rt, .inRegion ops (i :: rest) :: rk, rdefers, .run, kind, rro⟩ : Frame).finish x = ⟨fn, setR rt o.dst x, .inRegion ops rest :: rk, rdefers, .run, kind, rro⟩ := by
  simp only [Frame.finish, ho, Option.bind_some]
  cases o.dst <;> rfl
theorem step_value {i : Nat} {rest : List Nat} {o : Oper} {nx : Next} {x : Value} (ho : ops[i]? = some o) (hw : Region.wanted o (yielded ops rt) = true) (hd : ∀ c, o.op ≠ .defer c)
    (hr : (execOp (evalR rt) o).run P w = .ok nx w') (hnx : nx = .value x ∨ (nx = .skip ∧ x = undef)) :
    Go.step P (lone ⟨fn, rt, .inRegion ops (i :: rest) :: rk, rdefers, .run, kind, rro⟩ cs w) = .next (lone ⟨fn, setR rt o.dst x, .inRegion ops rest :: rk, rdefers, .run, kind, rro⟩ cs w') := by
  refine step_lone_go ?_
  rw [stepG_at ho hw (fun _ c _ => hd c), ← finish_at ho]
  rcases hnx with rfl | ⟨rfl, rfl⟩
  · simp [stepG.apply, hr]
  · simp [stepG.apply, hr]
theorem step_unwanted {i : Nat} {rest : List Nat} {o : Oper} (ho : ops[i]? = some o) (hw : Region.wanted o (yielded ops rt) = false) :
    Go.step P (lone ⟨fn, rt, .inRegion ops (i :: rest) :: rk, rdefers, .run, kind, rro⟩ cs w) = .next (lone ⟨fn, setR rt o.dst undef, .inRegion ops rest :: rk, rdefers, .run, kind, rro⟩ cs w) := by
  refine step_lone_go ?_
  have hw' : (Option.map (fun x => Region.wanted x (yielded ops rt)) ops[i]?).getD false = false := by rw [ho]; exact hw
  rw [← finish_at ho]
  simp [stepG, stepG.exec, hw']
theorem step_pop : Go.step P (lone ⟨fn, rt, .inRegion ops [] :: rk, rdefers, .run, kind, rro⟩ cs w) = .next (lone ⟨fn, rt, rk, rdefers, .run, kind, rro⟩ cs w) :=
  step_lone_go (by simp [stepG, stepG.exec])

/-! ### regions in order -/
theorem runOps_cons {nt : Nat} {all : Array Oper} {o : Oper} {rest : List Oper} : runOps P nt all (o :: rest) t h = match wantedD o.guard all t with
    | .no => runOps P nt all rest (putT nt t o.dst undefD) h
    | .bad => .out (o :: rest) t h .fail
    | .yes => match exec P t h o.op with
      | .val v h' => runOps P nt all rest (putT nt t o.dst v) h'
      | x => .out (o :: rest) t h x := by
  obtain ⟨dst, op, ty, pos, aft, guard⟩ := o
  show W3.casesOn (motive := fun _ => RO) (wantedD guard all t) _ _ _ = _
  cases wantedD guard all t with
  | yes =>
    show Out.casesOn (motive := fun _ => RO) (exec P t h op) _ _ _ _ _ _ _ = _
    cases exec P t h op <;> rfl
  | no => rfl
  | bad => rfl
def RunR (P : Program) (w0 : World) (φ : Emb) (h : HS) (fn : FuncId) (ops : Array Oper) (rk : List Item) (rdefers : List Deferred) (kind : CallKind) (rro : Option Nat) (cs : List Frame) (m : Machine) : RO → Prop
  | .done t' h' => ∃ φ' rt' w', Steps P m (lone ⟨fn, rt', .inRegion ops [] :: rk, rdefers, .run, kind, rro⟩ cs w') ∧ φ.le φ' ∧ HR P w0 φ' h' w' ∧ TR P φ' t' rt' ∧ ntOf P fn ≤ rt'.size ∧ Kept φ φ' h h'
  | .out rest' t' h' o => o = .fail ∨ ∃ n' op' φ' rt' w', rest' = ops.toList.drop n' ∧ ops[n']? = some op' ∧
      Steps P m (lone ⟨fn, rt', .inRegion ops ((List.range ops.size).drop n') :: rk, rdefers, .run, kind, rro⟩ cs w') ∧ φ.le φ' ∧ HR P w0 φ' h' w' ∧ TR P φ' t' rt' ∧ ntOf P fn ≤ rt'.size ∧ Kept φ φ' h h' ∧
      wantedD op'.guard ops t' = .yes ∧ o = exec P t' h' op'.op
theorem Kept.trans {φ1 φ2 φ3 : Emb} {h1 h2 h3 : HS} (a : Kept φ1 φ2 h1 h2) (b : Kept φ2 φ3 h2 h3) : Kept φ1 φ3 h1 h3 :=
  ⟨Nat.le_trans a.1 b.1, fun c hc e => let ⟨x, y⟩ := a.2 c hc e; let ⟨u, v⟩ := b.2 c (Nat.lt_of_lt_of_le hc a.1) y; ⟨u.trans x, v⟩⟩
theorem RunR.of {φ1 : Emb} {h1 : HS} {m m' : Machine} (hs : Steps P m m') (hl : φ.le φ1) (hk : Kept φ φ1 h h1) : ∀ {r : RO}, RunR P w0 φ1 h1 fn ops rk rdefers kind rro cs m' r → RunR P w0 φ h fn ops rk rdefers kind rro cs m r
  | .done t' h', ⟨φ', rt', w', k1, k2, k3, k4, k5, k6⟩ => ⟨φ', rt', w', hs.trans k1, Emb.le_trans hl k2, k3, k4, k5, hk.trans k6⟩
  | .out rest' t' h' o, .inl e => .inl e
  | .out rest' t' h' o, .inr ⟨n', op', φ', rt', w', k1, k2, k3, k4, k5, k6, k7, k8, k9⟩ => .inr ⟨n', op', φ', rt', w', k1, k2, hs.trans k3, Emb.le_trans hl k4, k5, k6, k7, hk.trans k8, k9⟩
theorem val_not_defer {o : Op} {v : DV} (e : exec P t h o = .val v h') : ∀ c, o ≠ .defer c := by
  rintro c rfl
  simp only [exec] at e
  unfold xDefer at e
  repeat' split at e
  all_goals cases e
theorem runOps_sim : ∀ (rest : List Oper) (n : Nat) (t : T DV) (h : HS) (w : World) (φ : Emb) (rt : Array Value), rest = ops.toList.drop n → HR P w0 φ h w → TR P φ t rt → ntOf P fn ≤ rt.size →
    RunR P w0 φ h fn ops rk rdefers kind rro cs (lone ⟨fn, rt, .inRegion ops ((List.range ops.size).drop n) :: rk, rdefers, .run, kind, rro⟩ cs w) (runOps P (ntOf P fn) ops rest t h) := by
  intro rest
  induction rest with
  | nil =>
    intro n t h w φ rt hn H ht hs
    rw [drop_nil_ops hn.symm]
    exact ⟨φ, rt, w, .refl _ _, Emb.le_refl φ, H, ht, hs, Kept.refl φ h⟩
  | cons o rest ih =>
    intro n t h w φ rt hn H ht hs
    obtain ⟨h1, h2, h3⟩ := drop_cons_ops hn.symm
    have hw := wanted_rel (o := o) (ops := ops) (t := t) (rt := rt) (φ := φ) (P := P) fun k _ => ht k
    rw [runOps_cons]
    cases hwd : wantedD o.guard ops t with
    | bad => exact .inl rfl
    | no =>
      simp only
      rw [h3]
      refine RunR.of (.one (step_unwanted h1 (hw.2 hwd))) (Emb.le_refl φ) (Kept.refl φ h) (ih (n + 1) _ _ _ _ _ h2 H (ht.put (Emb.le_refl φ) hs (v := undefD) ⟨#[], rfl, rfl⟩) (by rw [setR_size]; exact hs))
    | yes =>
      simp only
      have hx := exec_sim (o := o) (tmps := t) (ρ := evalR rt) H fun x _ => eval_rel fun k _ => ht k
      cases hex : exec P t h o.op with
      | val v h' =>
        simp only
        rw [hex] at hx
        obtain ⟨φ', w', nx, x, k1, k2, k3, k4, k5, k6⟩ := hx
        rw [h3]
        exact RunR.of (.one (step_value h1 (hw.1 hwd) (val_not_defer hex) k1 k2)) k3 k6 (ih (n + 1) _ _ _ _ _ h2 k4 (ht.put k3 hs k5) (by rw [setR_size]; exact hs))
      | _ => exact .inr ⟨n, o, φ, rt, w, hn, h1, .refl _ _, Emb.le_refl φ, H, ht, hs, Kept.refl φ h, hwd, hex.symm⟩
theorem stepOps_sim {rest : List Oper} {n : Nat} (hI : IntrOk P I) (hN : NoCount P) (hn : rest = ops.toList.drop n) (H : HR P w0 φ h w) (ht : TR P φ t rt) (hsz : ntOf P fn ≤ rt.size) (hi : ITR φ k rk) (hd : DefsR P φ defers rdefers) (hr : RoR φ ro rro)
    (C : CR P φ h base B2 dfs cs) (hB : ∀ b, B1 b → ¬ B2 b) (hlow : ∀ b, B1 b ∨ B2 b → b < h.next) (e : stepOps P I fn defers kind ro dfs k ops (runOps P (ntOf P fn) ops rest t h) = some s') :
    ∃ fr' cs' w', Steps P (lone ⟨fn, rt, .inRegion ops ((List.range ops.size).drop n) :: rk, rdefers, .run, kind, rro⟩ cs w) (lone fr' cs' w') ∧ SR P w0 base s' fr' cs' w' := by
  have hrun := runOps_sim (w0 := w0) (rk := rk) (rdefers := rdefers) (kind := kind) (rro := rro) (cs := cs) (fn := fn) rest n t h w φ rt hn H ht hsz
  unfold stepOps at e
  generalize runOps P (ntOf P fn) ops rest t h = r at hrun e
  cases r with
  | done t' h' =>
    simp only [Option.some.injEq] at e
    subst e
    obtain ⟨φ', rt', w', k1, k2, k3, k4, k5, k6⟩ := hrun
    exact ⟨_, cs, w', k1.trans (.one step_pop), SR.mk' (B1 := B1) k2 k6.keeps k3 (.run k4 k5 (hi.mono k2) (hd.mono k2) (hr.mono k2)) C hB hlow⟩
  | out rest' t' h' o =>
    simp only at e
    rcases hrun with rfl | ⟨n', op', φ', rt', w', j1, j2, j3, k2, k3, k4, k5, k6, j4, rfl⟩
    · cases e
    · have hd' : ∀ l c, rro = some l → op'.op ≠ .defer c := by
        intro l c hl hop
        cases hr with
        | none => cases hl
        | some _ =>
          rw [hop] at e
          simp only [exec] at e
          unfold xDefer at e
          repeat' split at e
          all_goals (simp only [applyD] at e; cases e)
      have hw := (wanted_rel (o := op') (ops := ops) (t := t') (rt := rt') (φ := φ') (P := P) fun k _ => k4 k).1 j4
      have hx := exec_sim (o := op') (tmps := t') (ρ := evalR rt') k3 fun x _ => eval_rel fun k _ => k4 k
      have hdr : (List.range ops.size).drop n' = n' :: (List.range ops.size).drop (n' + 1) := by
        rw [List.drop_eq_getElem_cons (by simpa using lt_of_some j2)]; simp
      have F : FR P φ' h' B1 true (.mk fn t' (.inReg ops rest' :: k) defers .run kind ro) ⟨fn, rt', .inRegion ops ((List.range ops.size).drop n') :: rk, rdefers, .run, kind, rro⟩ := by
        rw [j1]
        exact .run k4 k5 (.reg ops n' (hi.mono k2)) (hd.mono k2) (hr.mono k2)
      obtain ⟨fr', cs', w'', q1, q2⟩ := apply_sim (s := execOp (evalR rt') op') hI hN k3 F (C.under k2 k6.keeps) hB (fun b hb => Nat.lt_of_lt_of_le (hlow b hb) k6.1) (fun d re sa k' hh => by cases hh) (by rw [hdr]; exact stepG_at j2 hw hd') hx e
      exact ⟨fr', cs', w'', j3.trans q1, q2⟩

/-! ### drawn regions -/
theorem catch_steps {β : Nat → Option Nat} {p : List PItem} (hp : p = [] ∨ ∃ e p', p = .run e :: p' ∧ isEffect (opAt ops e) = true) : ∀ (r : List Nat) (φ : Emb) (w : World) (rt : Array Value), HR P w0 φ h w → DrawR P φ h β (ntOf P fn) ops p r t rt false →
    ∃ φ' w' rt' r', Steps P (lone ⟨fn, rt, .inRegion ops r :: rk, rdefers, .run, kind, rro⟩ cs w) (lone ⟨fn, rt', .inRegion ops r' :: rk, rdefers, .run, kind, rro⟩ cs w') ∧ φ.le φ' ∧ HR P w0 φ' h w' ∧
      DrawR P φ' h β (ntOf P fn) ops p r' t rt' false ∧ (∀ c, φ c = none → φ' c = none ∨ ∃ q, β q = some c) ∧ (p = [] → r' = []) ∧ ∀ e p', p = .run e :: p' → isEffect (opAt ops e) = true → ∃ r'', r' = e :: r'' := by
  have hch : chks p = [] := by
    rcases hp with rfl | ⟨e, p', rfl, _⟩ <;> rfl
  intro r
  induction r with
  | nil =>
    intro φ w rt H D
    refine ⟨φ, w, rt, [], .refl _ _, Emb.le_refl φ, H, D, fun c e => .inl e, fun _ => rfl, fun e p' he _ => ?_⟩
    have := D.all e (by rw [he, runs_cons]; simp)
    simp at this
  | cons x r0 ih =>
    intro φ w rt H D
    by_cases hx : x ∈ runs p
    · rcases hp with rfl | ⟨e, p', rfl, he⟩
      · simp [runs] at hx
      · rcases D.head rfl he with rfl | ⟨_, h2⟩
        · refine ⟨φ, w, rt, _, .refl _ _, Emb.le_refl φ, H, D, fun c e => .inl e, fun e => (by cases e), fun e2 p2 he2 _ => ?_⟩
          simp only [List.cons.injEq, PItem.run.injEq] at he2
          exact ⟨r0, by rw [he2.1]⟩
        · exact absurd hx h2
    · have hxl := D.lt (i := x) (by simp)
      have hox : ops[x]? = some ops[x] := Array.getElem?_eq_getElem hxl
      have hxe : isEffect ops[x].op = false := by
        cases he : isEffect ops[x].op with
        | false => rfl
        | true => exact absurd (D.eff x (by simp) (by rw [opAt_some hox]; exact he)) hx
      rcases D.catch H hch hx hox with ⟨k1, k2⟩ | ⟨k1, y, nx, φ', w', k2, k3, k4, k5, k6, k7⟩
      · obtain ⟨φ2, w2, rt2, r2, j1, j2, j3, j4, j5, j6⟩ := ih φ w _ H k2
        exact ⟨φ2, w2, rt2, r2, .head (step_unwanted hox k1) j1, j2, j3, j4, j5, j6⟩
      · obtain ⟨φ2, w2, rt2, r2, j1, j2, j3, j4, j5, j6⟩ := ih φ' w' _ k5 k6
        refine ⟨φ2, w2, rt2, r2, .head (step_value hox k1 (fun c hc => by rw [hc] at hxe; simp [isEffect] at hxe) k2 k3) j1, Emb.le_trans k4 j2, j3, j4, fun c e => ?_, j6⟩
        rcases k7 c e with h1 | h1
        · exact j5 c h1
        · exact .inr ⟨_, h1⟩
end Go.DM
set_option autoImplicit false
set_option linter.unusedVariables false
set_option linter.unusedSimpArgs false
namespace Go.DM
open Go.RowKit
variable {P : Program} {φ ψ φ' : Emb} {w0 w w' : World} {h h' : HS} {I : Intr} {base : List Frame}
variable {fn : FuncId} {t : T DV} {defers : List DDef} {kind : CallKind} {ro : Option Nat} {cs : List Frame} {dfs : List DF} {B B1 B2 : Nat → Prop} {s' : DS}
variable {rdefers : List Deferred} {rro : Option Nat} {ops : Array Oper} {rk : List Item} {k : List DItem} {rt : Array Value}

theorem SR.of {df : DF} {fr : Frame} (H' : HR P w0 φ' h' w') (F : FR P φ' h' B1 false df fr) (C : CR P φ' h' base B2 dfs cs) (hB : ∀ b, B1 b → ¬ B2 b) (hlow : ∀ b, B1 b ∨ B2 b → b < h'.next) : SR P w0 base (.mk (df :: dfs) h') fr cs w' :=
  ⟨df, dfs, h', φ', B1, B2, rfl, H', F, C, hB, hlow⟩
theorem stepDraw_sim {β : Nat → Option Nat} {p : List PItem} {r : List Nat} (hI : IntrOk P I) (hN : NoCount P) (H : HR P w0 φ h w) (hβ : ∀ q b, β q = some b → B1 b) (D : DrawR P φ h β (ntOf P fn) ops p r t rt false) (hi : ITR φ k rk) (hd : DefsR P φ defers rdefers) (hr : RoR φ ro rro)
    (C : CR P φ h base B2 dfs cs) (hB : ∀ b, B1 b → ¬ B2 b) (hlow : ∀ b, B1 b ∨ B2 b → b < h.next) (e : stepDraw P I fn t defers kind ro dfs h ops p k = some s') :
    ∃ fr' cs' w', Steps P (lone ⟨fn, rt, .inRegion ops r :: rk, rdefers, .run, kind, rro⟩ cs w) (lone fr' cs' w') ∧ SR P w0 base s' fr' cs' w' := by
  unfold stepDraw at e
  cases p with
  | nil =>
    simp only [Option.some.injEq] at e
    subst e
    obtain ⟨φ', w', rt', r', k1, k2, k3, k4, k5, k6, _⟩ := catch_steps (rk := rk) (rdefers := rdefers) (kind := kind) (rro := rro) (cs := cs) (.inl rfl) r φ w rt H D
    obtain rfl := k6 rfl
    refine ⟨_, cs, w', k1.trans (.one step_pop), SR.of (B1 := B1) k3 (.run k4.close k4.size (hi.mono k2) (hd.mono k2) (hr.mono k2)) (C.under k2 ⟨Nat.le_refl _, fun c hc _ hn => ⟨rfl, ?_⟩⟩) hB hlow⟩
    rcases k5 c hn with h1 | ⟨q, h1⟩
    · exact h1
    · exact absurd hc (hB c (hβ q c h1))
  | cons x p =>
    cases x with
    | chk i =>
      simp only at e
      split at e
      · rename_i o ho
        split at e
        · cases e
        · rename_i hwd
          split at e
          · rename_i v h2 d he hdst
            split at e
            · rename_i hbq
              simp only [Option.some.injEq] at e
              subst e
              exact ⟨_, cs, w, .refl _ _, SR.of H (.draw hβ (D.check ho (.inr ⟨v, h2, d, he, hdst, hbq⟩)) (fun e => by cases e) hi hd hr) C hB hlow⟩
            · cases e
          · cases e
        · rename_i hwd
          simp only [Option.some.injEq] at e
          subst e
          exact ⟨_, cs, w, .refl _ _, SR.of H (.draw hβ (D.check ho (.inl hwd)) (fun e => by cases e) hi hd hr) C hB hlow⟩
      · cases e
    | run i =>
      simp only at e
      split at e
      · rename_i o ho
        have hgd : (ops.getD i default).dst = o.dst := by rw [Array.getD_eq_getD_getElem?, ho]; rfl
        cases hq : isEffect o.op with
        | false =>
          split at e
          · cases e
          · rename_i hwd
            rcases quiet_plain (P := P) (h := h) (tmps := t) hq with ⟨v, h2, he⟩ | he
            · rw [he] at e
              simp only [applyD, Option.some.injEq] at e
              subst e
              obtain ⟨β', k1, k2, k3, k4, k5⟩ := D.run H ho hq hwd he
              refine ⟨_, cs, w, .refl _ _, SR.of (B1 := fun b => B1 b ∨ (h.next ≤ b ∧ b < h2.next)) k2 ?_ (C.under (Emb.le_refl φ) ⟨k3, fun c _ hc hn => ⟨k4 c hc, hn⟩⟩) ?_ ?_⟩
              · show FR P φ h2 _ false (.mk fn (putT (ntOf P fn) t ((ops.getD i default).dst) v) (.inDraw ops p :: k) defers .run kind ro) _
                rw [hgd]
                refine .draw (fun q b hb => ?_) k1 (fun e => by cases e) hi hd hr
                rcases k5 q b hb with h1 | h1
                · exact .inl (hβ q b h1)
                · exact .inr ⟨h1, k1.low q b hb⟩
              · rintro b (h1 | h1) h3
                · exact hB b h1 h3
                · have := hlow b (.inr h3); omega
              · rintro b ((h1 | h1) | h1)
                · exact Nat.lt_of_lt_of_le (hlow b (.inl h1)) k3
                · exact h1.2
                · exact Nat.lt_of_lt_of_le (hlow b (.inr h1)) k3
            · rw [he] at e; cases e
          · rename_i hwd
            simp only [Option.some.injEq] at e
            subst e
            exact ⟨_, cs, w, .refl _ _, SR.of H (.draw hβ (D.pass ho hq hwd) (fun e => by cases e) hi hd hr) C hB hlow⟩
        | true =>
          have heo : isEffect (opAt ops i) = true := by rw [opAt_some ho]; exact hq
          obtain ⟨φ', w', rt', r', k1, k2, k3, k4, k5, _, k6⟩ := catch_steps (rk := rk) (rdefers := rdefers) (kind := kind) (rro := rro) (cs := cs) (.inr ⟨i, p, rfl, heo⟩) r φ w rt H D
          obtain ⟨r'', rfl⟩ := k6 i p rfl heo
          have hC : CR P φ' h base B2 dfs cs := C.under k2 ⟨Nat.le_refl _, fun c hc _ hn => ⟨rfl, by
            rcases k5 c hn with h1 | ⟨q, h1⟩
            · exact h1
            · exact absurd hc (hB c (hβ q c h1))⟩⟩
          have hw := wanted_rel (o := o) (ops := ops) (t := t) (rt := rt') (φ := φ') (P := P) fun k hk => k4.names_rel rfl ho hk
          split at e
          · cases e
          · rename_i hwd
            have hd' : ∀ l c, rro = some l → o.op ≠ .defer c := by
              intro l c hl hop
              cases hr with
              | none => cases hl
              | some _ =>
                rw [hop] at e
                simp only [exec] at e
                unfold xDefer at e
                repeat' split at e
                all_goals (simp only [applyD] at e; cases e)
            have hx := exec_sim (o := o) (tmps := t) (ρ := evalR rt') k3 (k4.ops_rel rfl ho)
            have F : FR P φ' h B1 true (.mk fn t (.inDraw ops (.run i :: p) :: k) defers .run kind ro) ⟨fn, rt', .inRegion ops (i :: r'') :: rk, rdefers, .run, kind, rro⟩ :=
              .draw hβ (k4.under (Emb.le_refl _) (fun _ _ _ _ e => ⟨rfl, e⟩) (Nat.le_refl _)) (fun _ => ⟨i, p, r'', o, rfl, rfl, ho, hq⟩) (hi.mono k2) (hd.mono k2) (hr.mono k2)
            obtain ⟨fr', cs', w'', q1, q2⟩ := apply_sim (s := execOp (evalR rt') o) hI hN k3 F hC hB hlow (fun d re sa k' hh => by cases hh) (stepG_at ho (hw.1 hwd) hd') hx e
            exact ⟨fr', cs', w'', k1.trans q1, q2⟩
          · rename_i hwd
            simp only [Option.some.injEq] at e
            subst e
            refine ⟨_, cs, w', k1.trans (.one (step_unwanted ho (hw.2 hwd))), SR.of k3 (.draw hβ (k4.finish ho hq (Emb.le_refl _) (fun _ _ _ _ e => ⟨rfl, e⟩) (Nat.le_refl _) (v := undefD) (x := undef) ⟨#[], rfl, rfl⟩ rfl) (fun e => by cases e) (hi.mono k2) (hd.mono k2) (hr.mono k2)) hC hB hlow⟩
      · cases e

/-! ### code -/
theorem exitTo_sim (id : Nat) {k : List DItem} {rk : List Item} (hi : ITR φ k rk) : (∀ k', exitToD id k = some k' → ∃ rk', exitTo id rk = some rk' ∧ ITR φ k' rk') ∧ (exitToD id k = none → exitTo id rk = none) := by
  induction hi with
  | nil => exact ⟨fun k' e => by simp [exitToD] at e, fun _ => rfl⟩
  | inBlock id' t ih =>
    simp only [exitToD, exitTo]
    cases hb : Nat.beq id' id with
    | true =>
      have : id' = id := Nat.eq_of_beq_eq_true hb
      subst this
      simp only [beq_self_eq_true, if_true]
      exact ⟨fun k' e => by simp only [Option.some.injEq] at e; subst e; exact ⟨_, rfl, t⟩, fun e => by cases e⟩
    | false =>
      have : (id' == id) = false := by
        have := Nat.ne_of_beq_eq_false hb
        simpa using this
      simp only [this, Bool.false_eq_true, if_false]
      exact ih
  | _ => simpa only [exitToD, exitTo] using ‹_›
theorem stepCode_sim (hI : IntrOk P I) (hN : NoCount P) (hM : P.follows .mixedOrders = true) (H : HR P w0 φ h w) (ht : TR P φ t rt) (hsz : ntOf P fn ≤ rt.size) (hd : DefsR P φ defers rdefers) (hr : RoR φ ro rro)
    (C : CR P φ h base B2 dfs cs) (hB : ∀ b, B1 b → ¬ B2 b) (hlow : ∀ b, B1 b ∨ B2 b → b < h.next) : ∀ (c : Code) (k : List DItem) (rk : List Item), ITR φ k rk → stepCode P I fn t defers kind ro dfs h c k = some s' →
    ∃ fr' cs' w', Steps P (lone ⟨fn, rt, .code c :: rk, rdefers, .run, kind, rro⟩ cs w) (lone fr' cs' w') ∧ SR P w0 base s' fr' cs' w' := by
  intro c
  induction c with
  | skip =>
    intro k rk hi e
    simp only [stepCode, Option.some.injEq] at e
    subst e
    exact ⟨⟨fn, rt, rk, rdefers, .run, kind, rro⟩, cs, w, .one (step_lone_go (by simp [stepG, stepG.exec])), SR.of (B1 := B1) H (.run ht hsz hi hd hr) C hB hlow⟩
  | label l =>
    intro k rk hi e
    simp only [stepCode, Option.some.injEq] at e
    subst e
    exact ⟨⟨fn, rt, rk, rdefers, .run, kind, rro⟩, cs, w, .one (step_lone_go (by simp [stepG, stepG.exec])), SR.of (B1 := B1) H (.run ht hsz hi hd hr) C hB hlow⟩
  | refuse w => intro k rk hi e; simp [stepCode] at e
  | goto l => intro k rk hi e; simp [stepCode] at e
  | ret =>
    intro k rk hi e
    simp only [stepCode] at e
    exact leave_sim (B1 := B1) H (.run ht hsz (.code .ret hi) hd hr) (fun d wr re sa k' hh => by cases hh) ht C hB hlow rfl e
  | seq a b iha ihb =>
    intro k rk hi e
    simp only [stepCode] at e
    obtain ⟨fr', cs', w', k1, k2⟩ := iha (.code b :: k) (.code b :: rk) (.code b hi) e
    exact ⟨fr', cs', w', .head (step_lone_go (by simp [stepG, stepG.exec])) k1, k2⟩
  | cond c a b iha ihb =>
    intro k rk hi e
    simp only [stepCode] at e
    have hv : VR P φ (eval t c) (evalR rt c) := eval_rel fun k _ => ht k
    split at e
    · rename_i bb hb
      rw [hb] at hv
      simp only [VR] at hv
      have hstep : Go.step P (lone ⟨fn, rt, .code (.cond c a b) :: rk, rdefers, .run, kind, rro⟩ cs w) = .next (lone ⟨fn, rt, .code (if bb then a else b) :: rk, rdefers, .run, kind, rro⟩ cs w) :=
        step_lone_go (by simp [stepG, stepG.exec, evalR_frame, hv])
      split at e
      · obtain ⟨fr', cs', w', k1, k2⟩ := iha k rk hi e
        exact ⟨fr', cs', w', .head hstep k1, k2⟩
      · obtain ⟨fr', cs', w', k1, k2⟩ := ihb k rk hi e
        exact ⟨fr', cs', w', .head hstep k1, k2⟩
    · cases e
  | block id c ih =>
    intro k rk hi e
    simp only [stepCode] at e
    obtain ⟨fr', cs', w', k1, k2⟩ := ih _ _ (.inBlock id hi) e
    exact ⟨fr', cs', w', .head (step_lone_go (by simp [stepG, stepG.exec])) k1, k2⟩
  | loop c ih =>
    intro k rk hi e
    simp only [stepCode] at e
    obtain ⟨fr', cs', w', k1, k2⟩ := ih _ _ (.inLoop c hi) e
    exact ⟨fr', cs', w', .head (step_lone_go (by simp [stepG, stepG.exec])) k1, k2⟩
  | scope c ih =>
    intro k rk hi e
    simp only [stepCode] at e
    obtain ⟨fr', cs', w', k1, k2⟩ := ih _ _ (.inScope c hi) e
    exact ⟨fr', cs', w', .head (step_lone_go (by simp [stepG, stepG.exec])) k1, k2⟩
  | exit id =>
    intro k rk hi e
    simp only [stepCode] at e
    obtain ⟨x1, x2⟩ := exitTo_sim id hi
    split at e
    · rename_i k' hk
      simp only [Option.some.injEq] at e
      subst e
      obtain ⟨rk', y1, y2⟩ := x1 k' hk
      exact ⟨⟨fn, rt, rk', rdefers, .run, kind, rro⟩, cs, w, .one (step_lone_go (by simp [stepG, stepG.exec, y1])), SR.of (B1 := B1) H (.run ht hsz y2 hd hr) C hB hlow⟩
    · rename_i hk
      refine leave_sim (B1 := B1) H (.run ht hsz (.code (.exit id) hi) hd hr) (fun d wr re sa k' hh => by cases hh) ht C hB hlow ?_ e
      simp only [stepG, stepG.exec, x2 hk, Option.elim]
      rfl
  | region id ops draw =>
    intro k rk hi e
    cases draw with
    | false =>
      simp only [stepCode] at e
      obtain ⟨fr', cs', w', k1, k2⟩ := stepOps_sim (n := 0) (B1 := B1) hI hN (by simp) H ht hsz hi hd hr C hB hlow e
      exact ⟨fr', cs', w', .head (step_lone_go (by simp [stepG, stepG.exec])) k1, k2⟩
    | true =>
      simp only [stepCode] at e
      split at e
      · rename_i plan hp
        simp only [Option.some.injEq] at e
        subst e
        obtain ⟨hreg, _, _⟩ := planOf_spec hp
        have hstep : Go.step P (lone ⟨fn, rt, .code (.region id ops true) :: rk, rdefers, .run, kind, rro⟩ cs w) =
            .next (lone ⟨fn, rt, .inRegion ops (Region.linearise .any ops (w.tape w.drawn (.order fn id))) :: rk, rdefers, .run, kind, rro⟩ cs { w with drawn := w.drawn + 1 }) :=
          step_lone_go (by simp [stepG, stepG.exec, choose, Sem.run, Question.forced, Question.cut, Region.schedule, hM])
        exact ⟨_, cs, _, .one hstep, SR.of (B1 := B1) (H.drew _) (.draw (β := fun _ => none) (fun q b e => by cases e) (DrawR.init hp (linearise_lin hreg.edges _) ht hsz) (fun e => by cases e) hi hd hr) C hB hlow⟩
      · cases e
  | rangeFunc f params assign body iha ihb =>
    intro k rk hi e
    simp only [stepCode] at e
    have hv : VR P φ (eval t f) (evalR rt f) := eval_rel fun k _ => ht k
    split at e
    · rename_i g first cap hf
      rw [hf] at hv
      simp only [VR, FnR] at hv
      obtain ⟨fn', a', b', q1, q2, q3, q4⟩ := hv
      subst q2
      obtain ⟨heap, next, gs⟩ := h
      simp only at e
      cases ro with
      | none =>
        cases hr
        simp only at e
        obtain ⟨c, hb, rfl⟩ := enterF_some e
        obtain ⟨l1, H1⟩ := H.new (.deferred true) (by intro c n x e; cases e) (.deferred (some [])) (m := 0) ⟨rfl, heap_push_new _⟩
        obtain ⟨l2, H2⟩ := H1.new (.loop .ready none fn t params.toList assign body next) (by intro c n x e; cases e)
          (.loop { state := .ready, pending := none, fn, tmps := rt, params, assign, body, defers := w.heap.size }) (m := 0)
          ⟨rfl, _, heap_push_new _, rfl, rfl, rfl, (ht.mono (Emb.le_trans l1 (Emb.le_put H1.nextNone (H1.newSz 0)))), hsz, rfl, rfl, rfl, by
            rw [put_f, if_neg (Nat.ne_of_lt (Nat.lt_succ_self next)), put_self]⟩
        have l := Emb.le_trans l1 l2
        have hk : Kept φ ((φ.put next (w.heap.size, 0) 0).put (Nat.succ next) ((w.heap.push (.deferred (some []))).size, 0) 0) (.mk heap next gs)
            (.mk ((heap.set next (.deferred true)).set (Nat.succ next) (.loop .ready none fn t params.toList assign body next)) (Nat.succ (Nat.succ next)) gs) := Kept.trans (Kept.new _ _ _) (Kept.new _ _ _)
        have hfn2 : ((φ.put next (w.heap.size, 0) 0).put (Nat.succ next) ((w.heap.push (.deferred (some []))).size, 0) 0) (Nat.succ next) = some ((w.heap.push (.deferred (some []))).size, 0) := put_self
        have hfn1 : ((φ.put next (w.heap.size, 0) 0).put (Nat.succ next) ((w.heap.push (.deferred (some []))).size, 0) 0) next = some (w.heap.size, 0) := by
          rw [put_f, if_neg (Nat.ne_of_lt (Nat.lt_succ_self next)), put_self]
        have hargs : VRL P ((φ.put next (w.heap.size, 0) 0).put (Nat.succ next) ((w.heap.push (.deferred (some []))).size, 0) 0) (first ++ (.func (.yield (Nat.succ next)) [] [] :: cap))
            ((a' ++ #[Value.func (.yield (w.heap.push (.deferred (some []))).size) #[] #[]]) ++ b').toList := by
          simp only [Array.toList_append, List.append_assoc]
          exact (VRL.mono l _ _ q3).append (VRL.cons ⟨_, _, _, rfl, ⟨_, hfn2, rfl⟩, rfl, rfl⟩ (VRL.mono l _ _ q4))
        have S := SR.above (base := base) (cs := cs) (dfs := dfs) (B1 := B1) (B2 := B2) H2 (FR.run (kind := kind) (ht.mono l) hsz (.inRangeFunc _ _ hfn2 (hi.mono l)) (.cons (d := .collected next) (r := ⟨.collected w.heap.size, #[]⟩) ⟨_, hfn1, rfl⟩ (hd.mono l)) .none) (C.under l hk.keeps) hB (fun b hb => Nat.lt_of_lt_of_le (hlow b hb) hk.1) (FR.enter (kind := .normal) hargs hb _ _)
        refine ⟨_, _, _, .one (step_lone_go ?_), S⟩
        simp [stepG, stepG.exec, stepG.apply, Instr.enterLoop, newObj, Sem.run, resolve, evalR_frame, q1, Deferred.ofValue, invoke, callFunc_enter hN hb]
        exact ⟨rfl, rfl⟩
      | some l0 =>
        cases hr with
        | some hl0 =>
          rename_i rl0
          simp only at e
          split at e
          · rename_i st0 pend0 f0 lt0 lp0 la0 lb0 d0 hg0
            obtain ⟨c, hb, rfl⟩ := enterF_some e
            obtain ⟨L, k1, k2, k3, k4, k5, k6, k7, k8, k9, k10⟩ := H.loop hl0 (show getO (.mk heap next gs) l0 = _ from hg0)
            have hle := Emb.le_put (x := (w.heap.size, 0)) (m := 0) H.nextNone (H.newSz 0)
            obtain ⟨l, H2⟩ := H.new (.loop .ready none fn t params.toList assign body d0) (by intro c n x e; cases e)
              (.loop { state := .ready, pending := none, fn, tmps := rt, params, assign, body, defers := L.defers }) (m := 0)
              ⟨rfl, _, heap_push_new _, rfl, rfl, rfl, ht.mono hle, hsz, rfl, rfl, rfl, hle.1 _ _ k10⟩
            have hk : Kept φ (φ.put next (w.heap.size, 0) 0) (.mk heap next gs) (.mk (heap.set next (.loop .ready none fn t params.toList assign body d0)) (Nat.succ next) gs) := Kept.new _ _ _
            have hargs : VRL P (φ.put next (w.heap.size, 0) 0) (first ++ (.func (.yield next) [] [] :: cap)) ((a' ++ #[Value.func (.yield w.heap.size) #[] #[]]) ++ b').toList := by
              simp only [Array.toList_append, List.append_assoc]
              exact (VRL.mono l _ _ q3).append (VRL.cons ⟨_, _, _, rfl, ⟨_, put_self, rfl⟩, rfl, rfl⟩ (VRL.mono l _ _ q4))
            have S := SR.above (base := base) (cs := cs) (dfs := dfs) (B1 := B1) (B2 := B2) H2 (FR.run (kind := kind) (ht.mono l) hsz (.inRangeFunc _ _ put_self (hi.mono l)) (hd.mono l) (.some (l.1 _ _ hl0))) (C.under l hk.keeps) hB (fun b hb => Nat.lt_of_lt_of_le (hlow b hb) hk.1) (FR.enter (kind := .normal) hargs hb _ _)
            refine ⟨_, _, _, .one (step_lone_go ?_), S⟩
            simp [stepG, stepG.exec, stepG.apply, Instr.enterLoop, newObj, Sem.run, run_getLoop k1, resolve, evalR_frame, q1, Deferred.ofValue, invoke, callFunc_enter hN hb]
            first | done | exact ⟨rfl, rfl⟩ | rfl
          · cases e
    · cases e
end Go.DM
set_option autoImplicit false
set_option linter.unusedVariables false
set_option linter.unusedSimpArgs false
namespace Go.DM
open Go.RowKit
variable {P : Program} {φ ψ φ' : Emb} {w0 w w' : World} {h h' : HS} {I : Intr} {base : List Frame}
variable {fn : FuncId} {t : T DV} {defers : List DDef} {kind : CallKind} {ro : Option Nat} {cs : List Frame} {dfs : List DF} {B B1 B2 : Nat → Prop} {s' : DS}
variable {rdefers : List Deferred} {rro : Option Nat} {ops : Array Oper} {rk : List Item} {k : List DItem} {rt : Array Value}

def pendK (p : Option Code) (k : List DItem) : List DItem := match p with | some c => .code c :: k | none => k
theorem stepRun_sim (hI : IntrOk P I) (hN : NoCount P) (hM : P.follows .mixedOrders = true) {todo : List DItem} {fr : Frame} (H : HR P w0 φ h w) (F : FR P φ h B1 false (.mk fn t todo defers .run kind ro) fr)
    (C : CR P φ h base B2 dfs cs) (hB : ∀ b, B1 b → ¬ B2 b) (hlow : ∀ b, B1 b ∨ B2 b → b < h.next) (e : stepRun P I fn t todo defers kind ro dfs h = some s') :
    ∃ fr' cs' w', Steps P (lone fr cs w) (lone fr' cs' w') ∧ SR P w0 base s' fr' cs' w' := by
  cases F with
  | off ht hsz hm hc hd hr => cases hm
  | draw hβ D hsu hi hd hr =>
    simp only [stepRun] at e
    exact stepDraw_sim hI hN H hβ D hi hd hr C hB hlow e
  | run ht hsz hi hd hr =>
    rename_i rt rtodo rdefers rro
    have F0 : FR P φ h B1 false (.mk fn t todo defers .run kind ro) ⟨fn, rt, rtodo, rdefers, .run, kind, rro⟩ := .run ht hsz hi hd hr
    cases hi with
    | nil =>
      simp only [stepRun] at e
      exact leave_sim (B1 := B1) H F0 (fun d wr re sa k' hh => by cases hh) ht C hB hlow rfl e
    | code c hi =>
      simp only [stepRun] at e
      exact stepCode_sim hI hN hM H ht hsz hd hr C hB hlow c _ _ hi e
    | inBlock id hi =>
      simp only [stepRun, Option.some.injEq] at e
      subst e
      exact ⟨_, cs, w, .one (step_lone_go (by simp [stepG, stepG.exec])), SR.of (B1 := B1) H (.run ht hsz hi hd hr) C hB hlow⟩
    | inScope c hi =>
      simp only [stepRun, Option.some.injEq] at e
      subst e
      exact ⟨_, cs, w, .one (step_lone_go (by simp [stepG, stepG.exec])), SR.of (B1 := B1) H (.run ht hsz hi hd hr) C hB hlow⟩
    | inLoop c hi =>
      simp only [stepRun] at e
      obtain ⟨fr', cs', w', k1, k2⟩ := stepCode_sim hI hN hM H ht hsz hd hr C hB hlow c _ _ (.inLoop c hi) e
      exact ⟨fr', cs', w', .head (step_lone_go (by simp [stepG, stepG.exec])) k1, k2⟩
    | reg ops n hi =>
      simp only [stepRun] at e
      exact stepOps_sim (B1 := B1) hI hN rfl H ht hsz hi hd hr C hB hlow e
    | inRangeFunc l rl hl hi => simp [stepRun] at e
    | @endRangeFunc kk rkk l rl hl hi =>
      simp only [stepRun] at e
      split at e
      · rename_i st pend f lt lp la lb d hg
        obtain ⟨L, k1, k2, k3, k4, k5, k6, k7, k8, k9, k10⟩ := H.loop hl hg
        have hst : L.state ≠ .busy ∧ s' = .mk (.mk fn t (pendK pend kk) defers .run kind ro :: dfs) (setO h l (.loop .exhausted pend f lt lp la lb d)) := by
          rw [k2]
          split at e
          · cases e
          · rename_i hb
            simp only [Option.some.injEq] at e
            exact ⟨fun hh => hb hh, e.symm⟩
        obtain ⟨hst, rfl⟩ := hst
        obtain ⟨H', hk⟩ := H.setLoop (st' := .exhausted) (pend' := pend) (L' := { L with state := .exhausted }) hl hg k1 rfl k3 k4 k5 k6 k7 k8 k9 k10
        have hrun := run_endLoop (P := P) k1 hst
        refine ⟨⟨fn, rt, (pend.map Item.code).toList ++ rkk, rdefers, .run, kind, rro⟩, cs, _, .one (step_lone_go ?_), SR.of (B1 := B1) H' (.run ht hsz ?_ hd hr) (C.under (Emb.le_refl φ) hk.keeps) hB (fun b hb => Nat.lt_of_lt_of_le (hlow b hb) hk.1)⟩
        · simp only [stepG, stepG.exec, Sem.runT_eq, hrun, GStep.bare_after, k3]
          rfl
        · cases pend with
          | none => exact hi
          | some c => exact .code c hi
      · cases e
    | beginRound hi =>
      simp only [stepRun] at e
      cases hr with
      | none => cases e
      | some hl =>
        rename_i l rl
        simp only at e
        split at e
        · rename_i pend f lt lp la lb d hg
          simp only [Option.some.injEq] at e
          subst e
          obtain ⟨L, k1, k2, k3, k4, k5, k6, k7, k8, k9, k10⟩ := H.loop hl hg
          obtain ⟨H', hk⟩ := H.setLoop (st' := .busy) (pend' := pend) (L' := { L with state := .busy }) hl hg k1 rfl k3 k4 k5 k6 k7 k8 k9 k10
          have hrun := run_beginRound (P := P) k1 k2
          refine ⟨⟨fn, rt, _, rdefers, .run, kind, some rl⟩, cs, _, .one (step_lone_go ?_), SR.of (B1 := B1) H' (.run ht hsz hi hd (.some hl)) (C.under (Emb.le_refl φ) hk.keeps) hB (fun b hb => Nat.lt_of_lt_of_le (hlow b hb) hk.1)⟩
          simp [stepG, stepG.exec, stepG.apply, Option.elim, hrun, Frame.finish]
        · cases e
theorem step_sim (hI : IntrOk P I) (hN : NoCount P) (hM : P.follows .mixedOrders = true) {s : DS} {fr : Frame} (S : SR P w0 base s fr cs w) (e : DM.step P I s = some s') :
    ∃ fr' cs' w', Steps P (lone fr cs w) (lone fr' cs' w') ∧ SR P w0 base s' fr' cs' w' := by
  obtain ⟨df, dfs, h, φ, B1, B2, rfl, H, F, C, hB, hlow⟩ := S
  obtain ⟨fn, t, todo, defers, mode, kind, ro⟩ := df
  simp only [DM.step] at e
  cases mode with
  | run => exact stepRun_sim hI hN hM H F C hB hlow e
  | returning => exact unwind_sim hN (fun e => by cases e) H F C hB hlow e
  | panicking c => exact unwind_sim hN (fun e => by cases e) H F C hB hlow e
theorem run_sim (hI : IntrOk P I) (hN : NoCount P) (hM : P.follows .mixedOrders = true) : ∀ (n : Nat) (s s' : DS) (fr : Frame) (cs : List Frame) (w : World), SR P w0 base s fr cs w → DM.runN P I n s = some s' →
    ∃ fr' cs' w', Steps P (lone fr cs w) (lone fr' cs' w') ∧ SR P w0 base s' fr' cs' w' := by
  intro n
  induction n with
  | zero =>
    intro s s' fr cs w S e
    simp only [DM.runN, Option.some.injEq] at e
    subst e
    exact ⟨fr, cs, w, .refl _ _, S⟩
  | succ n ih =>
    intro s s' fr cs w S e
    simp only [DM.runN] at e
    split at e
    · rename_i s1 h1
      obtain ⟨fr1, cs1, w1, k1, k2⟩ := step_sim hI hN hM S h1
      obtain ⟨fr2, cs2, w2, j1, j2⟩ := ih s1 s' fr1 cs1 w1 k2 e
      exact ⟨fr2, cs2, w2, k1.trans j1, j2⟩
    · cases e
/-- the empty heap stands for whatever there is -/
def Emb.none : Emb := ⟨fun _ => Option.none, fun _ => 0⟩
theorem HR.empty (P : Program) (w : World) (n : Nat) : HR P w .none (.mk .nil n .nil) w := {
  below := Below.refl _ _
  dom b rb sh e := by cases e
  objs b rb sh o e := by cases e
  fresh b _ := T.get_nil b
  gfresh g _ := T.get_nil g
  kin b c n' g s e := by rw [show HS.heap (.mk .nil n .nil) = (.nil : T DObj) from rfl, T.get_nil] at e; cases e
  gmem g ms m e := by rw [show HS.groups (.mk .nil n .nil) = (.nil : T (List Nat)) from rfl, T.get_nil] at e; cases e
  apart b b' rb sh sh' o o' e := by cases e }
/-- a run of the abstract machine's, from the empty heap to a return, is a call of the machine's, whatever the world -/
theorem calls_of_run (hI : IntrOk P I) (hN : NoCount P) (hM : P.follows .mixedOrders = true) {f : FuncId} {m n : Nat} {c : Code} {fd : Func} {tmps : T DV} {todo : List DItem} {h : HS} {l : List DV} (hb : bodyOf P f = some c) (hf : P.funcs[f]? = some fd)
    (hrun : DM.runN P I n (.mk [.mk f .nil [.code c] [] .run .normal none] (.mk .nil m .nil)) = some (.mk [.mk f tmps todo [] .returning .normal none] h)) (hres : resultsD P h tmps fd.results.toList = some l) (w : World)
    (R : Ending → World → Prop) (hR : ∀ φ x w', HR P w φ h w' → VR P φ (one l) x → R (.returned x) w') : Calls P f #[] w R := by
  intro cs
  have S : SR P w cs (.mk [.mk f (argsT [] .nil 0) [.code c] [] .run .normal none] (.mk .nil m .nil)) (Frame.enter P f #[] .normal) cs w :=
    ⟨_, [], _, .none, fun _ => False, fun _ => False, rfl, HR.empty P w m, FR.enter VRL.nil hb _ _, .nil, fun _ e => e.elim, fun _ e => (e.elim id id).elim⟩
  obtain ⟨fr', cs', w', k1, k2⟩ := run_sim hI hN hM n _ _ _ _ _ S hrun
  obtain ⟨df, dfs, h1, φ, B1, B2, e, H, F, C, hB, hlow⟩ := k2
  cases e
  cases C
  cases F with
  | off ht hsz hm hc hd hr =>
    cases hm
    cases hd
    cases hr
    obtain ⟨x, hx, hv⟩ := run_results H ht hres
    exact ⟨.returned x, w', _, hR φ x w' H hv, k1, rfl, rfl, rfl, rfl, fd, hf, hx⟩
end Go.DM
set_option autoImplicit false
set_option linter.unusedVariables false
set_option linter.unusedSimpArgs false
namespace Go.DM
open Go.RowKit

/-! ### one trie within another -/
def subT {α : Type} (eq : α → α → Bool) (x y : T α) : Bool := match x with
  | .nil => true
  | .node v l r => match y with
    | .nil => (match v with | none => true | some _ => false) && (subT eq l .nil && subT eq r .nil)
    | .node v2 l2 r2 => (match v with
      | none => true
      | some a => match v2 with
        | some b => eq a b
        | none => false) && (subT eq l l2 && subT eq r r2)
theorem subT_spec {α : Type} {eq : α → α → Bool} : ∀ (x y : T α), subT eq x y = true → ∀ (bs : List Bool) (a : α), T.getB bs x = some a → ∃ b, T.getB bs y = some b ∧ eq a b = true := by
  intro x
  induction x with
  | nil => intro y _ bs a e; rw [T.getB_nil] at e; cases e
  | node v l r ihl ihr =>
    intro y hs bs a e
    cases y with
    | nil =>
      simp only [subT, Bool.and_eq_true] at hs
      cases bs with
      | nil =>
        rw [T.getB_node_nil] at e
        subst e
        simp at hs
      | cons b bs =>
        cases b with
        | false => rw [T.getB_node_f] at e; obtain ⟨z, h1, _⟩ := ihl .nil hs.2.1 bs a e; rw [T.getB_nil] at h1; cases h1
        | true => rw [T.getB_node_t] at e; obtain ⟨z, h1, _⟩ := ihr .nil hs.2.2 bs a e; rw [T.getB_nil] at h1; cases h1
    | node v2 l2 r2 =>
      simp only [subT, Bool.and_eq_true] at hs
      cases bs with
      | nil =>
        rw [T.getB_node_nil] at e
        subst e
        have h1 := hs.1
        simp only at h1
        cases v2 with
        | none => cases h1
        | some z => exact ⟨z, T.getB_node_nil _ _ _, h1⟩
      | cons b bs =>
        cases b with
        | false => rw [T.getB_node_f] at e ⊢; exact ihl l2 hs.2.1 bs a e
        | true => rw [T.getB_node_t] at e ⊢; exact ihr r2 hs.2.2 bs a e
theorem subT_get {α : Type} {eq : α → α → Bool} {x y : T α} (hs : subT eq x y = true) {k : Nat} {a : α} (e : x.get k = some a) : ∃ b, y.get k = some b ∧ eq a b = true := subT_spec x y hs _ a e
def allT {α : Type} (p : α → Bool) (x : T α) : Bool := match x with
  | .nil => true
  | .node v l r => (match v with | none => true | some a => p a) && (allT p l && allT p r)
theorem allT_spec {α : Type} {p : α → Bool} : ∀ (x : T α), allT p x = true → ∀ (bs : List Bool) (a : α), T.getB bs x = some a → p a = true := by
  intro x
  induction x with
  | nil => intro _ bs a e; rw [T.getB_nil] at e; cases e
  | node v l r ihl ihr =>
    intro hs bs a e
    simp only [allT, Bool.and_eq_true] at hs
    cases bs with
    | nil => rw [T.getB_node_nil] at e; subst e; exact hs.1
    | cons b bs =>
      cases b with
      | false => rw [T.getB_node_f] at e; exact ihl hs.2.1 bs a e
      | true => rw [T.getB_node_t] at e; exact ihr hs.2.2 bs a e
/-- values, numbers with a fraction too -/
def dvEq (a b : DV) : Bool := DV.beq a b
def kinEq : Option (Nat × Nat) → Option (Nat × Nat) → Bool
  | none, none => true
  | some (a, b), some (c, d) => Nat.beq a c && Nat.beq b d
  | _, _ => false
def entsEq : List (DV × DV) → List (DV × DV) → Bool
  | [], [] => true
  | (a, b) :: x, (c, d) :: y => DV.beq a c && DV.beq b d && entsEq x y
  | _, _ => false
def agree (o o2 : DObj) : Bool := match o with
  | .cells c n k => (match o2 with
    | .cells c2 n2 k2 => Nat.beq n n2 && kinEq k k2 && subT dvEq c c2
    | _ => false)
  | .map es => (match o2 with
    | .map es2 => entsEq es es2
    | _ => false)
  | _ => false
theorem kinEq_eq {a b : Option (Nat × Nat)} (e : kinEq a b = true) : a = b := by
  cases a <;> cases b <;> simp only [kinEq] at e <;> first | rfl | (cases e; done) | skip
  rename_i x y
  obtain ⟨a, b⟩ := x; obtain ⟨c, d⟩ := y
  simp only [Bool.and_eq_true] at e
  rw [Nat.eq_of_beq_eq_true e.1, Nat.eq_of_beq_eq_true e.2]
theorem entsEq_eq : ∀ {a b : List (DV × DV)}, entsEq a b = true → a = b
  | [], [], _ => rfl
  | [], _ :: _, e => by simp [entsEq] at e
  | _ :: _, [], e => by simp [entsEq] at e
  | (a, b) :: x, (c, d) :: y, e => by
    simp only [entsEq, Bool.and_eq_true] at e
    rw [beq_eq _ _ e.1.1, beq_eq _ _ e.1.2, entsEq_eq e.2]
theorem agree_le {o o2 : DObj} (e : agree o o2 = true) : ObjLe o o2 := by
  cases o with
  | cells c n k =>
    cases o2 with
    | cells c2 n2 k2 =>
      simp only [agree, Bool.and_eq_true] at e
      obtain ⟨⟨h1, h2⟩, h3⟩ := e
      rw [Nat.eq_of_beq_eq_true h1, kinEq_eq h2]
      exact .cells fun i d hd => by
        obtain ⟨d2, h4, h5⟩ := subT_get h3 hd
        rw [h4, beq_eq _ _ h5]
    | _ => simp [agree] at e
  | map es =>
    cases o2 with
    | map es2 => simp only [agree] at e; rw [entsEq_eq e]; exact .refl _
    | _ => simp [agree] at e
  | loop _ _ _ _ _ _ _ _ => simp [agree] at e
  | deferred _ => simp [agree] at e
  | shuf _ => simp [agree] at e

/-! ### a heap that tells less -/
structure HSub (h' h : HS) : Prop where
  next : h'.next = h.next
  objs : ∀ b o, h'.heap.get b = some o → ∃ o2, h.heap.get b = some o2 ∧ ObjLe o o2
  groups : ∀ g ms, h'.groups.get g = some ms → h.groups.get g = some ms
  kin : ∀ b c n g s, h'.heap.get b = some (.cells c n (some (g, s))) → ∃ ms, h'.groups.get g = some ms
variable {P : Program} {φ ψ φ' : Emb} {w0 w w' : World} {h h' : HS} {I : Intr} {base : List Frame}
theorem ObjLe.cells_of {o : DObj} {c2 : T DV} {n : Nat} {k : Option (Nat × Nat)} (l : ObjLe o (.cells c2 n k)) : ∃ c, o = .cells c n k := by
  cases l with
  | refl => exact ⟨_, rfl⟩
  | cells _ => exact ⟨_, rfl⟩
theorem ObjLe.of_cells {o2 : DObj} {c : T DV} {n : Nat} {k : Option (Nat × Nat)} (l : ObjLe (.cells c n k) o2) : ∃ c2, o2 = .cells c2 n k := by
  cases l with
  | refl => exact ⟨_, rfl⟩
  | cells _ => exact ⟨_, rfl⟩
theorem HR.weak (H : HR P w0 φ h w) (S : HSub h' h) : HR P w0 φ h' w := {
  below := H.below
  dom b rb sh e := by rw [S.next]; exact H.dom b rb sh e
  objs b rb sh o e ho := by
    obtain ⟨o2, h1, h2⟩ := S.objs b o ho
    exact h2.or (H.objs b rb sh o2 e h1)
  fresh b hb := by
    cases e : h'.heap.get b with
    | none => rfl
    | some o =>
      obtain ⟨o2, h1, _⟩ := S.objs b o e
      rw [H.fresh b (by rw [← S.next]; exact hb)] at h1
      cases h1
  gfresh g hg := by
    cases e : h'.groups.get g with
    | none => rfl
    | some ms =>
      have := S.groups g ms e
      rw [H.gfresh g (by rw [← S.next]; exact hg)] at this
      cases this
  kin b c n g s e := by
    obtain ⟨ms, h1⟩ := S.kin b c n g s e
    obtain ⟨o2, h2, h3⟩ := S.objs b _ e
    obtain ⟨c2, rfl⟩ := h3.of_cells
    obtain ⟨ms2, h4, h5⟩ := H.kin b c2 n g s h2
    have := S.groups g ms h1
    rw [h4] at this
    simp only [Option.some.injEq] at this
    exact ⟨ms, h1, this ▸ h5⟩
  gmem g ms m e hm := H.gmem g ms m (S.groups g ms e) hm
  apart b b' rb sh sh' o o' e1 e2 h1 h2 hne := by
    obtain ⟨p, h3, h4⟩ := S.objs b o h1
    obtain ⟨p', h5, h6⟩ := S.objs b' o' h2
    obtain ⟨c, n, c', n', g, s, s', rfl, rfl, h7⟩ := H.apart b b' rb sh sh' p p' e1 e2 h3 h5 hne
    obtain ⟨c1, rfl⟩ := h4.cells_of
    obtain ⟨c2, rfl⟩ := h6.cells_of
    exact ⟨c1, n, c2, n', g, s, s', rfl, rfl, h7⟩ }
theorem DrawR.weak {β : Nat → Option Nat} {nt : Nat} {ops : Array Oper} {p : List PItem} {r : List Nat} {t : T DV} {rt : Array Value} (D : DrawR P φ h β nt ops p r t rt true) (S : HSub h' h) : DrawR P φ h' β nt ops p r t rt true := {
  reg := D.reg
  plan := D.plan
  lin := D.lin
  all := D.all
  eff := D.eff
  done := D.done
  tmps := D.tmps
  size := D.size
  inj := D.inj
  low q b hb := by rw [S.next]; exact D.low q b hb
  pend q oq hqr hqn hoq := by
    rcases D.pend q oq hqr hqn hoq with h1 | ⟨h1, u, h2, h3⟩
    · exact .inl h1
    · refine .inr ⟨h1, u, h2, ?_⟩
      cases h3 with
      | still a => exact .still a
      | new obj v0 b i' a e hb hgb hn' hf =>
        exact .new obj v0 b i' a e hb (fun o ho => by
          obtain ⟨o2, k1, k2⟩ := S.objs b o ho
          exact k2.trans (hgb o2 k1)) (by rw [S.next]; exact hn') hf
      | read rr o' now => exact .read rr o' (.inl rfl) }
theorem FR.weak {B : Nat → Prop} {d : DF} {f : Frame} (F : FR P φ h B true d f) (S : HSub h' h) : FR P φ h' B true d f := by
  cases F with
  | run ht hs hi hd hr => exact .run ht hs hi hd hr
  | draw hβ D hsu hi hd hr => exact .draw hβ (D.weak S) hsu hi hd hr
  | off ht hs hm hc hd hr => exact .off ht hs hm hc hd hr
theorem CR.weak {B : Nat → Prop} {ds : List DF} {fs : List Frame} (C : CR P φ h base B ds fs) (S : HSub h' h) : CR P φ h' base B ds fs := by
  induction C with
  | nil => exact .nil
  | cons F C hB ih => exact .cons (F.weak S) ih hB
def undrawn : List DF → Bool
  | .mk _ _ (.inDraw _ _ :: _) _ _ _ _ :: _ => false
  | _ => true
theorem SR.weak {frs : List DF} {fr : Frame} {cs : List Frame} (hu : undrawn frs = true) (R : SR P w0 base (.mk frs h) fr cs w) (S : HSub h' h) : SR P w0 base (.mk frs h') fr cs w := by
  obtain ⟨df, dfs, h1, φ, B1, B2, e, H, F, C, hB, hlow⟩ := R
  cases e
  refine ⟨df, dfs, h', φ, B1, B2, rfl, H.weak S, ?_, C.weak S, hB, fun b hb => by rw [S.next]; exact hlow b hb⟩
  cases F with
  | run ht hs hi hd hr => exact .run ht hs hi hd hr
  | draw hβ D hsu hi hd hr => simp [undrawn] at hu
  | off ht hs hm hc hd hr => exact .off ht hs hm hc hd hr

/-! ### stretches of a run -/
def Leads (P : Program) (s s' : DS) : Prop := ∀ w0 base fr cs w, SR P w0 base s fr cs w → ∃ fr' cs' w', Steps P (lone fr cs w) (lone fr' cs' w') ∧ SR P w0 base s' fr' cs' w'
theorem Leads.trans {a b c : DS} (x : Leads P a b) (y : Leads P b c) : Leads P a c := by
  intro w0 base fr cs w S
  obtain ⟨fr1, cs1, w1, k1, k2⟩ := x w0 base fr cs w S
  obtain ⟨fr2, cs2, w2, j1, j2⟩ := y w0 base fr1 cs1 w1 k2
  exact ⟨fr2, cs2, w2, k1.trans j1, j2⟩
theorem Leads.run (hI : IntrOk P I) (hN : NoCount P) (hM : P.follows .mixedOrders = true) {n : Nat} {s s' : DS} (e : DM.runN P I n s = some s') : Leads P s s' :=
  fun w0 base fr cs w S => run_sim hI hN hM n s s' fr cs w S e
noncomputable def putAll : List (Nat × DObj) → T DObj → T DObj
  | [], t => t
  | (b, o) :: l, t => putAll l (t.set b o)
noncomputable def looksOf (heap : T DObj) : List (Nat × DObj) → List (Option DObj)
  | [] => []
  | (b, _) :: l => heap.get b :: looksOf heap l
def someAll : List (Nat × DObj) → List (Option DObj)
  | [] => []
  | (_, o) :: l => some o :: someAll l
def isCells : DObj → Bool
  | .cells _ _ _ => true
  | _ => false
def noCells : List (Nat × DObj) → Bool
  | [] => true
  | (_, o) :: l => !isCells o && noCells l
noncomputable def kinOk (G : T (List Nat)) : DObj → Bool
  | .cells _ _ (some (g, _)) => (match G.get g with | some _ => true | none => false)
  | _ => true
/-- what a stretch has come to, held against what is told of it -/
noncomputable def view (H : T DObj) (G : T (List Nat)) (L : List (Nat × DObj)) (r : Option DS) : Option (List DF × Nat × List (Option DObj) × Bool) := match r with
  | none => none
  | some (.mk frs (.mk heap next gs)) => some (frs, next, looksOf heap L, subT agree H heap && (subT strEq G gs && (allT (kinOk G) H && noCells L)))
theorem looks_spec {heap : T DObj} : ∀ {L : List (Nat × DObj)}, looksOf heap L = someAll L → ∀ x, x ∈ L → heap.get x.1 = some x.2
  | [], _, x, hx => by cases hx
  | (b, o) :: l, e, x, hx => by
    simp only [looksOf, someAll, List.cons.injEq] at e
    rcases List.mem_cons.1 hx with rfl | hx
    · exact e.1
    · exact looks_spec e.2 x hx
theorem putAll_get : ∀ (L : List (Nat × DObj)) (t : T DObj) (b : Nat) (o : DObj), (putAll L t).get b = some o → (b, o) ∈ L ∨ t.get b = some o
  | [], t, b, o, e => .inr e
  | (c, p) :: l, t, b, o, e => by
    simp only [putAll] at e
    rcases putAll_get l _ b o e with h1 | h1
    · exact .inl (by simp [h1])
    · rw [T.get_set] at h1
      by_cases hb : b = c
      · rw [if_pos hb] at h1
        simp only [Option.some.injEq] at h1
        exact .inl (by simp [hb, h1])
      · rw [if_neg hb] at h1
        exact .inr h1
theorem noCells_spec : ∀ {L : List (Nat × DObj)}, noCells L = true → ∀ x, x ∈ L → isCells x.2 = false
  | [], _, x, hx => by cases hx
  | (b, o) :: l, e, x, hx => by
    simp only [noCells, Bool.and_eq_true, Bool.not_eq_true'] at e
    rcases List.mem_cons.1 hx with rfl | hx
    · exact e.1
    · exact noCells_spec e.2 x hx
/-- a stretch, checked by the kernel: what is told of its end is what the next one begins with -/
theorem Leads.view (hI : IntrOk P I) (hN : NoCount P) (hM : P.follows .mixedOrders = true) {n next : Nat} {s : DS} {frs : List DF} {H : T DObj} {G : T (List Nat)} {L : List (Nat × DObj)} (hu : undrawn frs = true)
    (e : DM.view H G L (DM.runN P I n s) = some (frs, next, someAll L, true)) : Leads P s (.mk frs (.mk (putAll L H) next G)) := by
  cases hr : DM.runN P I n s with
  | none => rw [hr] at e; cases e
  | some s' =>
    obtain ⟨frs', heap, next', gs⟩ := s'
    rw [hr] at e
    simp only [DM.view, Option.some.injEq, Prod.mk.injEq, Bool.and_eq_true] at e
    obtain ⟨rfl, rfl, h3, h4, h5, h6, h7⟩ := e
    intro w0 base fr cs w S
    obtain ⟨fr', cs', w', k1, k2⟩ := Leads.run hI hN hM hr w0 base fr cs w S
    refine ⟨fr', cs', w', k1, SR.weak hu k2 { next := rfl, objs := fun b o ho => ?_, groups := fun g ms hg => ?_, kin := fun b c n g s hb => ?_ }⟩
    · rcases putAll_get L H b o ho with h1 | h1
      · exact ⟨o, looks_spec h3 _ h1, .refl o⟩
      · obtain ⟨o2, q1, q2⟩ := subT_get h4 h1
        exact ⟨o2, q1, agree_le q2⟩
    · obtain ⟨ms2, q1, q2⟩ := subT_get h5 hg
      rw [strB_eq q2]
      exact q1
    · rcases putAll_get L H b _ hb with h1 | h1
      · have := noCells_spec h7 _ h1
        simp [isCells] at this
      · have := allT_spec H h6 _ _ h1
        simp only [kinOk] at this
        split at this
        · rename_i ms hms; exact ⟨ms, hms⟩
        · cases this

/-! ### where code is found -/
def codeAt (c : Code) : List Nat → Code
  | [] => c
  | i :: p => match c with
    | .seq a b => (match i with | 0 => codeAt a p | _ => codeAt b p)
    | .cond _ a b => (match i with | 0 => codeAt a p | _ => codeAt b p)
    | .rangeFunc _ _ a b => (match i with | 0 => codeAt a p | _ => codeAt b p)
    | .block _ a => codeAt a p
    | .loop a => codeAt a p
    | .scope a => codeAt a p
    | _ => c
def bodyAt (P : Program) (f : FuncId) (p : List Nat) : Code := match bodyOf P f with
  | some c => codeAt c p
  | none => .skip
def opsAt (P : Program) (f : FuncId) (p : List Nat) : Array Oper := match bodyAt P f p with
  | .region _ ops _ => ops
  | _ => #[]
def restAt (P : Program) (f : FuncId) (p : List Nat) (n : Nat) : List Oper := (opsAt P f p).toList.drop n
noncomputable def startOf (P : Program) (f : FuncId) (args : List DV) (m : Nat) : DS := .mk [.mk f (argsT args .nil 0) [.code (bodyAt P f [])] [] .run .normal none] (.mk .nil m .nil)
theorem calls_of_leads {f : FuncId} {args : List DV} {rargs : Array Value} {m : Nat} {c : Code} {fd : Func} {tmps : T DV} {todo : List DItem} {h : HS} {l : List DV} (hb : bodyOf P f = some c) (hf : P.funcs[f]? = some fd)
    (hv : VRL P .none args rargs.toList) (hL : Leads P (startOf P f args m) (.mk [.mk f tmps todo [] .returning .normal none] h)) (hres : resultsD P h tmps fd.results.toList = some l) (w : World)
    (R : Ending → World → Prop) (hR : ∀ φ x w', HR P w φ h w' → VR P φ (one l) x → R (.returned x) w') : Calls P f rargs w R := by
  intro cs
  have hba : bodyAt P f [] = c := by unfold bodyAt; rw [hb]; simp [codeAt]
  have S : SR P w cs (startOf P f args m) (Frame.enter P f rargs .normal) cs w := by
    unfold startOf
    rw [hba]
    exact ⟨_, [], _, .none, fun _ => False, fun _ => False, rfl, HR.empty P w m, FR.enter hv hb _ _, .nil, fun _ e => e.elim, fun _ e => (e.elim id id).elim⟩
  obtain ⟨fr', cs', w', k1, k2⟩ := hL w cs _ cs w S
  obtain ⟨df, dfs, h1, φ, B1, B2, e, H, F, C, hB, hlow⟩ := k2
  cases e
  cases C
  cases F with
  | off ht hsz hm hc hd hr =>
    cases hm
    cases hd
    cases hr
    obtain ⟨x, hx, hv⟩ := run_results H ht hres
    exact ⟨.returned x, w', _, hR φ x w' H hv, k1, rfl, rfl, rfl, rfl, fd, hf, hx⟩
end Go.DM
set_option autoImplicit false
set_option linter.unusedVariables false
set_option linter.unusedSimpArgs false
namespace Go.DM
open Go.RowKit Go.Maps Go.Sort
open Go.WideElems (Fit rd rg pl)
variable {P : Program} {φ ψ φ' : Emb} {w0 w w' : World} {h h' : HS}

/-! ### functions without a body -/
structure Ext1 (P : Program) (f : FuncId) (e : Array Value → Sem Value) (fn : Func) : Prop where
  at_ : P.funcs[f]? = some fn
  name : (fn.name == "runtime.NumGoroutine") = false
  body : fn.body.isNone = true
  next : Extern.findNext fn = none
  find : Extern.find fn = some e
theorem Ext1.run {f : FuncId} {e : Array Value → Sem Value} {fn : Func} (E : Ext1 P f e fn) (args : Array Value) (w : World) : (callFunc f args).run P w = ((e args).run P w).andThen fun v w' => .ok (.value v) w' :=
  run_callFunc_extern E.at_ E.name E.body E.next E.find args w
theorem args_one {d : DV} {a : Array Value} (hv : VRL P φ [d] a.toList) : ∃ x, a = #[x] ∧ VR P φ d x := by
  simp only [VRL] at hv
  obtain ⟨x, xs, h1, h2, rfl⟩ := hv
  exact ⟨x, by rw [← Array.toArray_toList (xs := a), h1], h2⟩
theorem args_two {d e : DV} {a : Array Value} (hv : VRL P φ [d, e] a.toList) : ∃ x y, a = #[x, y] ∧ VR P φ d x ∧ VR P φ e y := by
  simp only [VRL] at hv
  obtain ⟨x, xs, h1, h2, y, ys, rfl, h3, rfl⟩ := hv
  exact ⟨x, y, by rw [← Array.toArray_toList (xs := a), h1], h2, h3⟩
theorem Answers.pure {f : FuncId} {args : List DV} {v : DV} (hx : ∀ (w : World) (φ : Emb) (rargs : Array Value), VRL P φ args rargs.toList → ∃ x, VR P φ v x ∧ (callFunc f rargs).run P w = .ok (.value x) w) : Answers P f args h v h := by
  intro w0 w φ rargs H hv
  obtain ⟨x, h1, h2⟩ := hx w φ rargs hv
  exact .inl ⟨φ, w, x, ⟨Emb.le_refl φ, H, h1, Kept.refl φ h⟩, h2⟩
theorem findByte_spec (c : Nat) : ∀ (l : List Nat) (i : Nat), findByte c l i = match (List.range l.length).find? (fun j => decide (l[j]? = some c)) with | some j => ((i + j : Nat) : Int) | none => -1
  | [], i => rfl
  | x :: xs, i => by
    simp only [findByte]
    rw [List.length_cons, List.range_succ_eq_map, List.find?_cons]
    cases hb : Nat.beq x c with
    | true =>
      have := Nat.eq_of_beq_eq_true hb
      subst this
      simp
    | false =>
      have hne := Nat.ne_of_beq_eq_false hb
      have h0 : decide ((x :: xs)[0]? = some c) = false := by simpa using hne
      rw [h0]
      simp only
      rw [findByte_spec c xs (Nat.succ i), List.find?_map]
      have hf : ((fun j => decide ((x :: xs)[j]? = some c)) ∘ Nat.succ) = fun j => decide (xs[j]? = some c) := by funext j; simp
      rw [hf]
      cases (List.range xs.length).find? (fun j => decide (xs[j]? = some c)) with
      | none => rfl
      | some j =>
        simp only [Option.map_some]
        rw [show Nat.succ i + j = i + Nat.succ j by omega]
theorem byteAt_eq (s : ByteArray) (j : Nat) (hj : j < s.size) (c : Nat) (hc : c < 256) : (s[j]! == c.toUInt8) = decide ((s.data.toList.map UInt8.toNat)[j]? = some c) := by
  have h1 : s[j]! = s.data[j]'(by exact hj) := by
    rw [getElem!_pos s j hj]; rfl
  have h2 : (s.data.toList.map UInt8.toNat)[j]? = some ((s.data[j]'(by exact hj)).toNat) := by
    rw [List.getElem?_map, List.getElem?_eq_getElem (by exact hj)]
    simp
  rw [h1, h2]
  rw [Bool.eq_iff_iff]
  simp only [beq_iff_eq, decide_eq_true_eq, Option.some.injEq]
  constructor
  · intro e; rw [e]; simp; try omega
  · intro e; apply UInt8.toNat_inj.1; rw [e]; simp; omega
theorem indexByte_answers {f : FuncId} {fn : Func} (E : Ext1 P f Extern.BytealgIndexByte.indexByte fn) {s : List Nat} {c : Nat} (hc : c < 256) : Answers P f [.str s, .int .u8 (.ofNat c)] h (.int .i64 (findByte c s 0)) h := by
  refine Answers.pure fun w φ rargs hv => ?_
  obtain ⟨x, y, rfl, h1, h2⟩ := args_two hv
  simp only [VR] at h1 h2
  obtain ⟨t, rfl, rfl⟩ := h1
  subst h2
  refine ⟨.int .i64 (firstIdx t c.toUInt8), ?_, ?_⟩
  · simp only [VR]
    congr 1
    rw [findByte_spec]
    unfold firstIdx
    have hlen : (t.data.toList.map UInt8.toNat).length = t.size := by simp
    rw [hlen]
    have hf : ((List.range t.size).find? fun i => t[i]! == c.toUInt8) = (List.range t.size).find? fun j => decide ((t.data.toList.map UInt8.toNat)[j]? = some c) := by
      have : ∀ (l : List Nat), (∀ i, i ∈ l → i < t.size) → (l.find? fun i => t[i]! == c.toUInt8) = l.find? fun j => decide ((t.data.toList.map UInt8.toNat)[j]? = some c) := by
        intro l
        induction l with
        | nil => intro _; rfl
        | cons i l ih =>
          intro hl
          rw [List.find?_cons, List.find?_cons, byteAt_eq t i (hl i (by simp)) c hc, ih fun j hj => hl j (by simp [hj])]
      exact this _ fun i hi => by simpa using hi
    rw [hf]
    cases (List.range t.size).find? fun j => decide ((t.data.toList.map UInt8.toNat)[j]? = some c) with
    | none => rfl
    | some j => simp
  · rw [E.run]
    have := run_indexByte_string (P := P) t (Int.ofNat c) w
    rw [this]
    rfl
theorem typeOf_answers {f : FuncId} {fn : Func} {e : Array Value → Sem Value} {rt t : TypeId} {d : DV} (E : Ext1 P f e fn) (hr : ∀ t y w, (e #[.iface t y]).run P w = .ok (.iface rt (.agg #[typeHandle P t])) w) : Answers P f [.iface t d] h (.iface rt (.agg [.hdl t])) h := by
  refine Answers.pure fun w φ rargs hv => ?_
  obtain ⟨x, rfl, h1⟩ := args_one hv
  simp only [VR] at h1
  obtain ⟨y, rfl, _⟩ := h1
  exact ⟨.iface rt (.agg #[typeHandle P t]), ⟨_, rfl, ⟨_, rfl, VRL.cons rfl VRL.nil⟩⟩, by rw [E.run, hr]; rfl⟩
theorem comparable_answers {f : FuncId} {fn : Func} {e : Array Value → Sem Value} {t : TypeId} {i : TypeInfo} (E : Ext1 P f e fn) (hr : ∀ w, (e #[.agg #[typeHandle P t]]).run P w = .ok (.bool i.comparable) w) : Answers P f [.agg [.hdl t]] h (.bool i.comparable) h := by
  refine Answers.pure fun w φ rargs hv => ?_
  obtain ⟨x, rfl, h1⟩ := args_one hv
  simp only [VR] at h1
  obtain ⟨cs, rfl, h2⟩ := h1
  obtain ⟨y, hcs, h3⟩ := args_one h2
  subst hcs
  simp only [VR] at h3
  subst h3
  exact ⟨_, rfl, by rw [E.run, hr]; rfl⟩
end Go.DM
set_option autoImplicit false
set_option linter.unusedVariables false
set_option linter.unusedSimpArgs false
namespace Go.DM
open Go.RowKit Go.Maps Go.Sort
variable {P : Program} {φ ψ φ' : Emb} {w0 w w' : World} {h h' : HS}

/-! ### a block that the machine has made by itself -/
theorem HR.bindAt (H : HR P w0 φ h w) {b m rb : Nat} (hb : φ b = none) (hn : b < h.next) (hu : ∀ c y, φ c = some y → y.1 ≠ rb) (hlo : w0.heap.size ≤ rb) (hhi : rb < w.heap.size)
    (hx : ∀ o, h.heap.get b = some o → OR P (φ.put b (rb, 0) m) w o rb 0) : φ.le (φ.put b (rb, 0) m) ∧ HR P w0 (φ.put b (rb, 0) m) h w := by
  have hle : φ.le (φ.put b (rb, 0) m) := Emb.le_put hb fun c y e hy => absurd hy (hu c y e)
  refine ⟨hle, { below := H.below, dom := fun c r s e => ?_, objs := fun c r s o' e ho' => ?_, fresh := H.fresh, gfresh := H.gfresh, kin := H.kin, gmem := fun g ms x e hx' => ?_, apart := fun c c' r s s' o1 o2 e1 e2 h1 h2 hne => ?_ }⟩
  · rw [put_f] at e
    by_cases hc : c = b
    · rw [if_pos hc] at e
      simp only [Option.some.injEq, Prod.mk.injEq] at e
      exact ⟨hc ▸ hn, by omega, by omega⟩
    · rw [if_neg hc] at e
      exact H.dom c r s e
  · by_cases hc : c = b
    · subst hc
      simp only [put_f, if_true, Option.some.injEq, Prod.mk.injEq] at e
      obtain ⟨rfl, rfl⟩ := e
      exact hx _ ho'
    · have e' : φ c = some (r, s) := by simpa only [put_f, if_neg hc] using e
      exact (H.objs c r s o' e' ho').mono hle (by rw [put_sz, if_neg (by have := hu c _ e'; simpa using this)]) rfl
  · obtain ⟨y, hy⟩ := H.gmem g ms x e hx'
    exact ⟨y, hle.1 _ _ hy⟩
  · by_cases hc : c = b
    · by_cases hc' : c' = b
      · exact absurd (hc.trans hc'.symm) hne
      · simp only [put_f, if_pos hc, Option.some.injEq, Prod.mk.injEq] at e1
        simp only [put_f, if_neg hc'] at e2
        exact absurd e1.1.symm (hu c' _ e2)
    · simp only [put_f, if_neg hc] at e1
      by_cases hc' : c' = b
      · simp only [put_f, if_pos hc', Option.some.injEq, Prod.mk.injEq] at e2
        exact absurd e2.1.symm (hu c _ e1)
      · simp only [put_f, if_neg hc'] at e2
        exact H.apart c c' r s s' o1 o2 e1 e2 h1 h2 hne
theorem HR.later (H : HR P w0 φ h w) (hb : Below w.heap.size w w') : HR P w0 φ h w' :=
  H.world (hb.mono H.below.size) fun b rb sh e => hb.block rb (H.dom b rb sh e).2.2
/-- both have a new one; the machine's lies beyond all that there was -/
theorem HR.newAt {heap : T DObj} {next : Nat} {g : T (List Nat)} (H : HR P w0 φ (.mk heap next g) w) (hb : Below w.heap.size w w') {rb m : Nat} (hr : w.heap.size ≤ rb) (hlt : rb < w'.heap.size) (o : DObj) (ho : ∀ c n x, o ≠ .cells c n (some x))
    (hx : OR P (φ.put next (rb, 0) m) w' o rb 0) : φ.le (φ.put next (rb, 0) m) ∧ HR P w0 (φ.put next (rb, 0) m) (.mk (heap.set next o) (Nat.succ next) g) w' := by
  have hfree : ∀ c y, φ c = some y → y.1 ≠ rb := by
    intro c y e
    have := (H.dom c y.1 y.2 e).2.2
    omega
  exact ((H.later hb).newD o ho).bindAt H.nextNone (by simp [HS.next]) hfree (Nat.le_trans H.below.size hr) hlt fun o' e => by
    simp only [HS.heap, T.get_set, if_true, Option.some.injEq] at e
    exact e ▸ hx

/-! ### slices.Sorted(maps.Keys(m)) -/
/-- what is known of slices.Sorted at an iterator of maps.Keys -/
def SortSpec (P : Program) (f k : FuncId) (kt : TypeId) : Prop := ∀ (W : World) (blk b : Nat) (es : Array MapEntry) (clock : Nat) (ks : List (List UInt8)), W.cell? ⟨blk, 0, none⟩ = some (.map (some b)) → W.heap[b]? = some (.map es clock) →
  Born es.toList clock → es.toList.map (·.key) = ks.map (fun s => Value.string ⟨s.toArray⟩) → ks.Nodup → (∀ s, s ∈ ks → s.length ≤ 1000000) → ks.length ≤ 1000000 →
  Calls P f #[.func (.func k) #[] #[.pointer (some ⟨blk, 0, none⟩)]] W fun e w' => ∃ v, e = .returned v ∧ w'.ownsRow W.heap.size kt 1 v ks.length ((ks.mergeSort leB).map (fun s => Value.string ⟨s.toArray⟩)) ∧ (v = .slice none 0 0 ↔ ks = []) ∧ Below W.heap.size W w'
/-- what is known of maps.Keys -/
def KeysSpec (P : Program) (f k : FuncId) (bt : TypeId) : Prop := ∀ (mb : Option Nat) (W : World),
  Calls P f #[.map mb] W fun e w' => e = .returned (.func (.func k) #[] #[.pointer (some ⟨W.heap.size, 0, none⟩)]) ∧ w' = W.alloc (.cells #[.map mb] bt)
theorem steps_of_calls {f : FuncId} {args : Array Value} {R : Ending → World → Prop} (hc : Calls P f args w R) (hR : ∀ e w', R e w' → ∃ v, e = .returned v) :
    ∀ c cs, ∃ v w', R (.returned v) w' ∧ Steps P (lone (Frame.enter P f args .normal) (c :: cs) w) (lone (c.finish v) cs w') := by
  intro c cs
  obtain ⟨e, w', fr, h1, h2, h3, h4⟩ := hc (c :: cs)
  obtain ⟨v, rfl⟩ := hR e w' h1
  exact ⟨v, w', h1, Steps.trans h2 (.one (step_leave_returned h4))⟩
/-! sorted keys: lists of bytes, and of numbers -/
theorem strLt_iff : ∀ (a b : List UInt8), strLt (a.map UInt8.toNat) (b.map UInt8.toNat) = decide (a < b)
  | _, [] => by cases ‹List UInt8› <;> simp [strLt]
  | [], y :: ys => by simp [strLt]
  | x :: xs, y :: ys => by
    simp only [List.map_cons, strLt]
    cases h1 : Nat.blt x.toNat y.toNat with
    | true =>
      have : x < y := by simpa [UInt8.lt_iff_toNat_lt] using h1
      simp [List.cons_lt_cons_iff, this]
    | false =>
      have hn : ¬ x < y := by
        intro hh
        have : Nat.blt x.toNat y.toNat = true := by simpa [UInt8.lt_iff_toNat_lt] using hh
        rw [h1] at this; cases this
      simp only
      cases h2 : Nat.beq x.toNat y.toNat with
      | true =>
        have hxy : x = y := UInt8.toNat_inj.1 (Nat.eq_of_beq_eq_true h2)
        subst hxy
        simp only
        rw [strLt_iff xs ys]
        simp [List.cons_lt_cons_iff]
      | false =>
        have hxy : x ≠ y := fun e => Nat.ne_of_beq_eq_false h2 (by rw [e])
        simp [List.cons_lt_cons_iff, hn, hxy]
theorem insKey_perm (k : List Nat) : ∀ (l : List (List Nat)), (insKey k l).Perm (k :: l)
  | [] => List.Perm.refl _
  | a :: l => by
    simp only [insKey]
    split
    · exact ((insKey_perm k l).cons a).trans (List.Perm.swap k a l)
    · exact List.Perm.refl _
theorem keysOf_perm : ∀ (es : List (DV × DV)) (l : List (List Nat)), keysOf es = some l → ∃ ks, es.map (·.1) = ks.map DV.str ∧ l.Perm ks
  | [], l, e => by simp only [keysOf, Option.some.injEq] at e; subst e; exact ⟨[], rfl, List.Perm.refl _⟩
  | (k, v) :: es, l, e => by
    simp only [keysOf] at e
    split at e
    · rename_i s
      split at e
      · rename_i l' hl
        simp only [Option.some.injEq] at e
        subst e
        obtain ⟨ks, h1, h2⟩ := keysOf_perm es l' hl
        exact ⟨s :: ks, by simp [h1], (insKey_perm s l').trans (h2.cons s)⟩
      · cases e
    · cases e
theorem strLt_trans : ∀ (a b c : List Nat), strLt a b = true → strLt b c = true → strLt a c = true
  | _, _, [], _, h => by cases ‹List Nat› <;> simp [strLt] at h
  | [], _, z :: zs, _, _ => by simp [strLt]
  | x :: xs, [], z :: zs, h, _ => by simp [strLt] at h
  | x :: xs, y :: ys, z :: zs, h1, h2 => by
    simp only [strLt] at h1 h2 ⊢
    cases a1 : Nat.blt x y <;> rw [a1] at h1 <;> simp only at h1
    · cases b1 : Nat.beq x y <;> rw [b1] at h1 <;> simp only at h1
      · cases h1
      · have := Nat.eq_of_beq_eq_true b1
        subst this
        cases a2 : Nat.blt x z <;> rw [a2] at h2 <;> simp only at h2 ⊢
        · cases b2 : Nat.beq x z <;> rw [b2] at h2 <;> simp only at h2 ⊢
          · cases h2
          · exact strLt_trans xs ys zs h1 h2
    · have l1 : x < y := by simpa using a1
      cases a2 : Nat.blt y z <;> rw [a2] at h2 <;> simp only at h2
      · cases b2 : Nat.beq y z <;> rw [b2] at h2 <;> simp only at h2
        · cases h2
        · have := Nat.eq_of_beq_eq_true b2
          subst this
          rw [a1]
      · have l2 : y < z := by simpa using a2
        have : Nat.blt x z = true := by simp; omega
        rw [this]
theorem rising_pair : ∀ (l : List (List Nat)), rising l = true → l.Pairwise fun a b => strLt a b = true
  | [], _ => List.Pairwise.nil
  | [a], _ => List.pairwise_singleton _ _
  | a :: b :: l, h => by
    simp only [rising, Bool.and_eq_true] at h
    have ih := rising_pair (b :: l) h.2
    refine List.pairwise_cons.2 ⟨fun c hc => ?_, ih⟩
    rcases List.mem_cons.1 hc with rfl | hc
    · exact h.1
    · exact strLt_trans _ _ _ h.1 ((List.pairwise_cons.1 ih).1 c hc)
theorem shortAll_spec : ∀ (l : List (List Nat)), shortAll l = true → ∀ k, k ∈ l → k.length ≤ 1000000
  | [], _, k, hk => by cases hk
  | a :: l, h, k, hk => by
    simp only [shortAll, Bool.and_eq_true] at h
    rcases List.mem_cons.1 hk with rfl | hk
    · exact Nat.le_of_ble_eq_true h.1
    · exact shortAll_spec l h.2 k hk
theorem toNat_inj_list : ∀ {a b : List UInt8}, a.map UInt8.toNat = b.map UInt8.toNat → a = b
  | [], [], _ => rfl
  | [], _ :: _, e => by simp at e
  | _ :: _, [], e => by simp at e
  | x :: a, y :: b, e => by
    simp only [List.map_cons, List.cons.injEq] at e
    rw [UInt8.toNat_inj.1 e.1, toNat_inj_list e.2]
theorem strLt_irrefl : ∀ (a : List Nat), strLt a a = false
  | [] => rfl
  | x :: xs => by
    have h1 : Nat.blt x x = false := by
      cases e : Nat.blt x x with
      | false => rfl
      | true => simp at e
    have h2 : Nat.beq x x = true := by simp
    simp only [strLt, h1, h2]
    exact strLt_irrefl xs
theorem ents_keys : ∀ {es : List (DV × DV)} {res : List MapEntry} {kn : List (List Nat)}, EntR P φ es res → es.map (·.1) = kn.map DV.str →
    ∃ ks : List (List UInt8), kn = ks.map (·.map UInt8.toNat) ∧ res.map (·.key) = ks.map (fun s => Value.string ⟨s.toArray⟩)
  | [], res, kn, he, hk => by
    simp only [EntR] at he
    subst he
    cases kn with
    | nil => exact ⟨[], rfl, rfl⟩
    | cons _ _ => simp at hk
  | x :: es, res, kn, he, hk => by
    simp only [EntR] at he
    obtain ⟨e, res', rfl, h1, h2, h3⟩ := he
    cases kn with
    | nil => simp at hk
    | cons k kn =>
      simp only [List.map_cons, List.cons.injEq] at hk
      obtain ⟨ks, h4, h5⟩ := ents_keys h3 hk.2
      rw [hk.1] at h1
      simp only [VR] at h1
      obtain ⟨s, hs1, hs2⟩ := h1
      refine ⟨s.data.toList :: ks, by simp [hs2, ← h4], ?_⟩
      simp [hs1, h5]
theorem sorted_same {ks : List (List UInt8)} {l : List (List Nat)} (hp : l.Perm (ks.map (·.map UInt8.toNat))) (hr : l.Pairwise fun a b => strLt a b = true) : (ks.mergeSort leB).map (·.map UInt8.toNat) = l := by
  have tr : ∀ a b c : List UInt8, leB a b = true → leB b c = true → leB a c = true := by
    intro a b c h1 h2
    simp only [leB, decide_eq_true_eq] at h1 h2 ⊢
    exact List.le_trans h1 h2
  have to : ∀ a b : List UInt8, (leB a b || leB b a) = true := by
    intro a b
    simp only [leB, Bool.or_eq_true, decide_eq_true_eq]
    exact List.le_total a b
  refine List.Perm.eq_of_pairwise (le := fun a b => strLt a b = true ∨ a = b) (fun a b _ _ h1 h2 => ?_) ?_ (hr.imp fun h => .inl h) (((List.mergeSort_perm ks leB).map _).trans hp.symm)
  · rcases h1 with h1 | h1
    · rcases h2 with h2 | h2
      · have := strLt_trans a b a h1 h2
        rw [strLt_irrefl] at this; cases this
      · exact h2.symm
    · exact h1
  · rw [List.pairwise_map]
    refine (List.pairwise_mergeSort tr to ks).imp fun {a b} h => ?_
    simp only [leB, decide_eq_true_eq] at h
    rw [strLt_iff]
    by_cases hab : a = b
    · exact .inr (by rw [hab])
    · refine .inl ?_
      simp only [decide_eq_true_eq]
      rcases List.le_iff_lt_or_eq.1 h with h | h
      · exact h
      · exact absurd h hab
theorem sorted_answers {f k : FuncId} {kt : TypeId} {c : Code} {b0 r : Nat} {v : DV} (hS : SortSpec P f k kt) (hN : NoCount P) (hb : bodyOf P f = some c) (hl : load1 h b0 0 = some (.map r)) (hs : sortedKeys h r = some (v, h')) : Answers P f [.fbox k b0] h v h' := by
  intro w0 w φ rargs H hv
  obtain ⟨x, rfl, h1⟩ := args_one hv
  simp only [VR] at h1
  obtain ⟨rb, rfl, hφ⟩ := h1
  obtain ⟨y, hy, hvy⟩ := H.load hφ hl
  simp only [VR] at hvy
  obtain ⟨rr, hφr, rfl⟩ := hvy
  unfold sortedKeys at hs
  split at hs
  case h_2 => cases hs
  rename_i es hg
  obtain ⟨_, res, clock, q1, q2, q3⟩ := H.objs r rr 0 _ hφr (getO_heap hg)
  split at hs
  case h_2 => cases hs
  rename_i l hk
  split at hs
  case h_2 => cases hs
  rename_i hcond
  simp only [Bool.and_eq_true] at hcond
  obtain ⟨hris, hsh, hlen⟩ := hcond
  have hlen : l.length ≤ 1000000 := Nat.le_of_ble_eq_true hlen
  obtain ⟨kn, hkn, hperm⟩ := keysOf_perm es l hk
  obtain ⟨ks, rfl, hkeys⟩ := ents_keys q2 hkn
  have hpair := rising_pair l hris
  have hnd : ks.Nodup := by
    have h1 : l.Nodup := hpair.imp fun {a b} h e => by rw [e, strLt_irrefl] at h; cases h
    have h2 := hperm.nodup_iff.1 h1
    exact (List.pairwise_map.1 h2).imp fun {a b} h e => h (by rw [e])
  have hkl : ∀ s, s ∈ ks → s.length ≤ 1000000 := by
    intro s hs'
    have : s.map UInt8.toNat ∈ l := hperm.mem_iff.2 (List.mem_map.2 ⟨s, hs', rfl⟩)
    have := shortAll_spec l hsh _ this
    simpa using this
  have hll : l.length = ks.length := by have := hperm.length_eq; simpa using this
  have hcall := hS w rb rr res clock ks (by simpa using hy) q1 q3 hkeys hnd hkl (by omega)
  have hsteps := steps_of_calls hcall (fun e w' ⟨v, hv, _⟩ => ⟨v, hv⟩)
  have hsame := sorted_same hperm hpair
  refine .inr ⟨callFunc_enter hN hb, fun c cs => ?_⟩
  obtain ⟨x, w', ⟨v', hv', hrow, hnil, hbel⟩, hst⟩ := hsteps c cs
  simp only [Ending.returned.injEq] at hv'
  subst hv'
  cases l with
  | nil =>
    simp only [Option.some.injEq, Prod.mk.injEq] at hs
    obtain ⟨rfl, rfl⟩ := hs
    have hks : ks = [] := List.eq_nil_of_length_eq_zero (by simpa using hll.symm)
    have hx := hnil.2 hks
    exact ⟨φ, w', _, ⟨Emb.le_refl φ, H.later hbel, hx, Kept.refl φ h⟩, hst⟩
  | cons k0 l0 =>
    simp only at hs
    obtain ⟨heap, next, g⟩ := h
    simp only [newSl, newObj, Option.some.injEq, Prod.mk.injEq] at hs
    obtain ⟨rfl, rfl⟩ := hs
    obtain ⟨hlen2, hrow⟩ := hrow
    rcases hrow with ⟨hx, hz⟩ | ⟨gb, cap, cur, hx, hge, hgb, hnc, hcm, hcs, htake⟩
    · rw [← hll] at hz; simp at hz
    · have hvl : VRL P (φ.put next (gb, 0) cur.size) ((k0 :: l0).map DV.str) ((ks.mergeSort leB).map (fun s => Value.string ⟨s.toArray⟩)) := by
        rw [← hsame, VRL_iff]
        refine ⟨by simp, fun i d v hd hv => ?_⟩
        rw [List.getElem?_map, List.getElem?_map] at hd
        rw [List.getElem?_map] at hv
        cases e : (ks.mergeSort leB)[i]? with
        | none => rw [e] at hv; simp at hv
        | some s =>
          rw [e] at hd hv
          simp only [Option.map_some, Option.some.injEq] at hd hv
          subst hd; subst hv
          exact ⟨_, rfl, by simp⟩
      have hsz : (k0 :: l0).length ≤ cur.size := by rw [hll, hcs]; omega
      have hrc : ∀ i, i < ((k0 :: l0).map DV.str).length → cur[i]? = ((ks.mergeSort leB).map (fun s => Value.string ⟨s.toArray⟩))[i]? := by
        intro i hi
        rw [← htake, List.getElem?_take, if_pos (by simp at hi hll ⊢; omega)]
        simp
      obtain ⟨r1, r2⟩ := H.newAt (m := cur.size) hbel hge (Array.getElem?_eq_some_iff.1 hgb).1 (cellsOf ((k0 :: l0).map DV.str)) (by intro c n x e; simp [cellsOf] at e)
        (OR_row hvl gb cur kt (0, 0) hgb (.inl rfl) hrc (by simpa using hsz) (by rw [put_sz, if_pos rfl]) none)
      refine ⟨φ.put next (gb, 0) cur.size, w', _, ⟨r1, r2, ?_, Kept.new _ _ _⟩, hst⟩
      refine ⟨gb, 0, cap, by rw [hx, ← hll], Nat.le_refl _, by rw [hll]; exact hnc, (by intro e; cases e), .inr ⟨0, put_self, rfl, ?_⟩⟩
      rw [put_sz, if_pos rfl]
      omega
theorem keys_answers {f k : FuncId} {bt : TypeId} {c : Code} {r : Nat} {v : DV} (hS : KeysSpec P f k bt) (hN : NoCount P) (hb : bodyOf P f = some c) (hs : newObj h (cellsOf [.map r]) (.fbox k) = .val v h') : Answers P f [.map r] h v h' := by
  intro w0 w φ rargs H hv
  obtain ⟨x, rfl, h1⟩ := args_one hv
  have h1' := h1
  simp only [VR] at h1
  obtain ⟨rr, hφ, rfl⟩ := h1
  have hsteps := steps_of_calls (hS (some rr) w) (fun e w' h => ⟨_, h.1⟩)
  refine .inr ⟨callFunc_enter hN hb, fun c cs => ?_⟩
  obtain ⟨x, w', ⟨hx, rfl⟩, hst⟩ := hsteps c cs
  simp only [Ending.returned.injEq] at hx
  subst hx
  obtain ⟨heap, next, g⟩ := h
  simp only [newObj, Out.val.injEq] at hs
  obtain ⟨rfl, rfl⟩ := hs
  have hle : φ.le (φ.put next (w.heap.size, 0) 1) := Emb.le_put H.nextNone (H.newSz 1)
  obtain ⟨r1, r2⟩ := H.new (cellsOf [.map r]) (by intro c n x e; simp [cellsOf] at e) (.cells #[.map (some rr)] bt) (m := 1)
    (OR_row (vs := [.map (some rr)]) (VRL.cons (VR.mono hle _ _ h1') VRL.nil) _ #[.map (some rr)] bt (0, 0) (heap_push_new _) (.inl rfl) (fun i _ => by simp) (by simp) (by rw [put_sz, if_pos rfl]; rfl) none)
  exact ⟨_, _, _, ⟨r1, r2, ⟨_, rfl, put_self⟩, Kept.new _ _ _⟩, hst⟩
end Go.DM
set_option autoImplicit false
set_option linter.unusedVariables false
set_option linter.unusedSimpArgs false
namespace Go.DM
open Go.RowKit Go.Maps Go.Sort
variable {P : Program} {φ ψ φ' : Emb} {w0 w w' : World} {h h' : HS}

/-- what is known of slices.Collect at an iterator of maps.Keys -/
def CollectSpec (P : Program) (f k : FuncId) (kt : TypeId) : Prop := ∀ (W : World) (blk b : Nat) (es : Array MapEntry) (clock : Nat) (ks : List (List UInt8)), W.cell? ⟨blk, 0, none⟩ = some (.map (some b)) → W.heap[b]? = some (.map es clock) →
  Born es.toList clock → es.toList.map (·.key) = ks.map (fun s => Value.string ⟨s.toArray⟩) → ks.Nodup → (∀ s, s ∈ ks → s.length ≤ 1000000) → ks.length ≤ 1000000 →
  Calls P f #[.func (.func k) #[] #[.pointer (some ⟨blk, 0, none⟩)]] W fun e w' => ∃ v, e = .returned v ∧ ∃ ss : List (List UInt8), ss.Perm ks ∧ w'.ownsRow W.heap.size kt 1 v ss.length (ss.map (fun s => Value.string ⟨s.toArray⟩)) ∧ (v = .slice none 0 0 ↔ ss = []) ∧ Below W.heap.size W w'
/-- what is known of a set: the texts in order, each once -/
def SetSpec (P : Program) (f : FuncId) (kt : TypeId) : Prop := ∀ (W : World) (a o cap : Nat) (ss : List (List UInt8)), (∀ j s, ss[j]? = some s → W.cell? ⟨a, o + j, none⟩ = some (.string ⟨s.toArray⟩)) →
  ss.Nodup → ss.length ≤ 1000000 → ss.length ≤ cap →
  Calls P f #[.slice (some ⟨a, o, none⟩) ss.length cap] W fun e w' => ∃ v, e = .returned v ∧ w'.ownsRow W.heap.size kt 1 v ss.length ((ss.mergeSort leB).map (fun s => Value.string ⟨s.toArray⟩)) ∧ v ≠ .slice none 0 0 ∧ Below W.heap.size W w'

/-- the keys of a map, as texts -/
theorem keys_texts (H : HR P w0 φ h w) {r rr : Nat} {es : List (DV × DV)} {l : List (List Nat)} (hφr : φ r = some (rr, 0)) (hg : getO h r = some (.map es)) (hk : keysOf es = some l) (hcond : (rising l && (shortAll l && Nat.ble l.length 1000000)) = true) :
    ∃ (res : Array MapEntry) (clock : Nat) (ks : List (List UInt8)), w.heap[rr]? = some (.map res clock) ∧ Born res.toList clock ∧ res.toList.map (·.key) = ks.map (fun s => Value.string ⟨s.toArray⟩) ∧ ks.Nodup ∧ (∀ s, s ∈ ks → s.length ≤ 1000000) ∧ ks.length ≤ 1000000 ∧
      l.length = ks.length ∧ l.Perm (ks.map (·.map UInt8.toNat)) := by
  obtain ⟨_, res, clock, q1, q2, q3⟩ := H.objs r rr 0 _ hφr (getO_heap hg)
  simp only [Bool.and_eq_true] at hcond
  obtain ⟨hris, hsh, hlen⟩ := hcond
  have hlen : l.length ≤ 1000000 := Nat.le_of_ble_eq_true hlen
  obtain ⟨kn, hkn, hperm⟩ := keysOf_perm es l hk
  obtain ⟨ks, rfl, hkeys⟩ := ents_keys q2 hkn
  have hpair := rising_pair l hris
  have hnd : ks.Nodup := by
    have h1 : l.Nodup := hpair.imp fun {a b} h e => by rw [e, strLt_irrefl] at h; cases h
    have h2 := hperm.nodup_iff.1 h1
    exact (List.pairwise_map.1 h2).imp fun {a b} h e => h (by rw [e])
  have hkl : ∀ s, s ∈ ks → s.length ≤ 1000000 := by
    intro s hs'
    have : s.map UInt8.toNat ∈ l := hperm.mem_iff.2 (List.mem_map.2 ⟨s, hs', rfl⟩)
    have := shortAll_spec l hsh _ this
    simpa using this
  have hll : l.length = ks.length := by have := hperm.length_eq; simpa using this
  exact ⟨res, clock, ks, q1, q3, hkeys, hnd, hkl, by omega, hll, hperm⟩

theorem collect_answers {f k : FuncId} {kt : TypeId} {c : Code} {b0 r : Nat} {v : DV} (hS : CollectSpec P f k kt) (hN : NoCount P) (hb : bodyOf P f = some c) (hl : load1 h b0 0 = some (.map r)) (hs : shuffled h r = some (v, h')) : Answers P f [.fbox k b0] h v h' := by
  intro w0 w φ rargs H hv
  obtain ⟨x, rfl, h1⟩ := args_one hv
  simp only [VR] at h1
  obtain ⟨rb, rfl, hφ⟩ := h1
  obtain ⟨y, hy, hvy⟩ := H.load hφ hl
  simp only [VR] at hvy
  obtain ⟨rr, hφr, rfl⟩ := hvy
  unfold shuffled at hs
  split at hs
  case h_2 => cases hs
  rename_i es hg
  split at hs
  case h_2 => cases hs
  rename_i l hk
  split at hs
  case h_2 => cases hs
  rename_i hcond
  obtain ⟨res, clock, ks, q1, q3, hkeys, hnd, hkl, hlen, hll, hperm⟩ := keys_texts H hφr hg hk hcond
  have hcall := hS w rb rr res clock ks (by simpa using hy) q1 q3 hkeys hnd hkl hlen
  have hsteps := steps_of_calls hcall (fun e w' ⟨v, hv, _⟩ => ⟨v, hv⟩)
  refine .inr ⟨callFunc_enter hN hb, fun c cs => ?_⟩
  obtain ⟨x, w', ⟨v', hv', ss, hpk, hrow, hnil, hbel⟩, hst⟩ := hsteps c cs
  simp only [Ending.returned.injEq] at hv'
  subst hv'
  have hsl : ss.length = l.length := by rw [hll, hpk.length_eq]
  cases l with
  | nil =>
    simp only [Option.some.injEq, Prod.mk.injEq] at hs
    obtain ⟨rfl, rfl⟩ := hs
    have hks : ss = [] := List.eq_nil_of_length_eq_zero (by simpa using hsl)
    have hx := hnil.2 hks
    exact ⟨φ, w', _, ⟨Emb.le_refl φ, H.later hbel, hx, Kept.refl φ h⟩, hst⟩
  | cons k0 l0 =>
    simp only at hs
    obtain ⟨heap, next, g⟩ := h
    simp only [newObj, Option.some.injEq, Prod.mk.injEq] at hs
    obtain ⟨rfl, rfl⟩ := hs
    obtain ⟨hlen2, hrow⟩ := hrow
    rcases hrow with ⟨hx, hz⟩ | ⟨gb, cap, cur, hx, hge, hgb, hnc, hcm, hcs, htake⟩
    · rw [hsl] at hz; simp at hz
    · have hsz : (k0 :: l0).length ≤ cur.size := by rw [← hsl, hcs]; omega
      have htk : cur.toList.take (k0 :: l0).length = ss.map (fun s => Value.string ⟨s.toArray⟩) := by rw [← hsl, ← htake, Nat.mul_one]
      obtain ⟨r1, r2⟩ := H.newAt (m := cur.size) hbel hge (Array.getElem?_eq_some_iff.1 hgb).1 (.shuf (k0 :: l0)) (by intro c n x e; cases e)
        (by
          refine ⟨rfl, cur, kt, (0, 0), hgb, ⟨hsz, ?_⟩, ss, htk, ?_⟩
          · rw [put_sz, if_pos rfl]
          · exact (hpk.map _).trans hperm.symm)
      refine ⟨φ.put next (gb, 0) cur.size, w', _, ⟨r1, r2, ?_, Kept.new _ _ _⟩, hst⟩
      refine ⟨gb, 0, cap, by rw [hx, hsl], Nat.le_refl _, by rw [← hsl]; exact hnc, (by intro e; cases e), .inr ⟨0, put_self, rfl, ?_⟩⟩
      rw [put_sz, if_pos rfl]
      omega
theorem setOf_answers {f : FuncId} {kt : TypeId} {c : Code} {b n cp : Nat} {ex : Bool} {v : DV} (hS : SetSpec P f kt) (hN : NoCount P) (hb : bodyOf P f = some c) (hs : setOf h b n = some (v, h')) : Answers P f [.slice b 0 n cp 1 ex] h v h' := by
  intro w0 w φ rargs H hv
  obtain ⟨x, rfl, h1⟩ := args_one hv
  simp only [VR] at h1
  obtain ⟨rb, ro, rcap, rfl, hcp1, hcp2, _, hor⟩ := h1
  unfold setOf at hs
  split at hs
  case h_2 => cases hs
  rename_i l hg
  split at hs
  case h_2 => cases hs
  rename_i hcond
  simp only [Bool.and_eq_true] at hcond
  obtain ⟨hris, hsh, hlen, hnl⟩ := hcond
  have hnl : n = l.length := Nat.eq_of_beq_eq_true hnl
  have hlen : l.length ≤ 1000000 := Nat.le_of_ble_eq_true hlen
  have hpair := rising_pair l hris
  have hex : ∃ ss : List (List UInt8), (∀ j s, ss[j]? = some s → w.cell? ⟨rb, ro + j, none⟩ = some (.string ⟨s.toArray⟩)) ∧ (ss.map (·.map UInt8.toNat)).Perm l := by
    rcases hor with hz | ⟨sh, hφ, hro, _⟩
    · have : l = [] := List.eq_nil_of_length_eq_zero (by omega)
      subst this
      exact ⟨[], by intro j s e; simp at e, List.Perm.refl _⟩
    · obtain ⟨hsh0, rc, elem, fz, hblk, ⟨hsz, _⟩, ss, htk, hp⟩ := H.objs b rb sh _ hφ (getO_heap hg)
      refine ⟨ss, fun j s e => ?_, hp⟩
      have hj : j < l.length := by
        have h1 := (List.getElem?_eq_some_iff.1 e).1
        have h2 := hp.length_eq
        simp at h2; omega
      have h3 : (rc.toList.take l.length)[j]? = some (.string ⟨s.toArray⟩) := by rw [htk, List.getElem?_map, e]; rfl
      rw [List.getElem?_take, if_pos hj] at h3
      subst hsh0
      simp only [World.cell?, hblk, hro, Nat.zero_add]
      simpa using h3
  obtain ⟨ss, hcell, hp⟩ := hex
  have hsl : ss.length = l.length := by have := hp.length_eq; simpa using this
  have hnd : ss.Nodup := by
    have h1 : l.Nodup := hpair.imp fun {a b} h e => by rw [e, strLt_irrefl] at h; cases h
    have h2 := hp.nodup_iff.2 h1
    exact (List.pairwise_map.1 h2).imp fun {a b} h e => h (by rw [e])
  have hcall := hS w rb ro rcap ss hcell hnd (by omega) (by omega)
  have hsteps := steps_of_calls hcall (fun e w' ⟨v, hv, _⟩ => ⟨v, hv⟩)
  have hsame := sorted_same (l := l) hp.symm hpair
  refine .inr ⟨callFunc_enter hN hb, fun c cs => ?_⟩
  obtain ⟨x, w', ⟨v', hv', hrow, hnil, hbel⟩, hst⟩ := hsteps c cs
  simp only [Ending.returned.injEq] at hv'
  subst hv'
  rw [hsl, ← hnl] at hst
  obtain ⟨heap, next, g⟩ := h
  simp only [newSl, newObj] at hs
  simp only [Option.some.injEq, Prod.mk.injEq] at hs
  obtain ⟨rfl, rfl⟩ := hs
  obtain ⟨hlen2, hrow⟩ := hrow
  rcases hrow with ⟨hx, hz⟩ | ⟨gb, cap, cur, hx, hge, hgb, hnc, hcm, hcs, htake⟩
  · exact absurd hx hnil
  · have hvl : VRL P (φ.put next (gb, 0) cur.size) (l.map DV.str) ((ss.mergeSort leB).map (fun s => Value.string ⟨s.toArray⟩)) := by
      rw [← hsame, VRL_iff]
      refine ⟨by simp, fun i d v hd hv => ?_⟩
      rw [List.getElem?_map, List.getElem?_map] at hd
      rw [List.getElem?_map] at hv
      cases e : (ss.mergeSort leB)[i]? with
      | none => rw [e] at hv; simp at hv
      | some s =>
        rw [e] at hd hv
        simp only [Option.map_some, Option.some.injEq] at hd hv
        subst hd; subst hv
        exact ⟨_, rfl, by simp⟩
    have hsz : l.length ≤ cur.size := by rw [← hsl, hcs]; omega
    have hrc : ∀ i, i < (l.map DV.str).length → cur[i]? = ((ss.mergeSort leB).map (fun s => Value.string ⟨s.toArray⟩))[i]? := by
      intro i hi
      rw [← htake, List.getElem?_take, if_pos (by simp at hi; omega)]
      simp
    obtain ⟨r1, r2⟩ := H.newAt (m := cur.size) hbel hge (Array.getElem?_eq_some_iff.1 hgb).1 (cellsOf (l.map DV.str)) (by intro c n x e; simp [cellsOf] at e)
      (OR_row hvl gb cur kt (0, 0) hgb (.inl rfl) hrc (by simpa using hsz) (by rw [put_sz, if_pos rfl]) none)
    refine ⟨φ.put next (gb, 0) cur.size, w', _, ⟨r1, r2, ?_, Kept.new _ _ _⟩, hst⟩
    refine ⟨gb, 0, cap, by rw [hx, hsl], Nat.le_refl _, by rw [← hsl]; exact hnc, (by intro e; cases e), .inr ⟨0, put_self, rfl, ?_⟩⟩
    rw [put_sz, if_pos rfl]
    omega
end Go.DM
set_option autoImplicit false
set_option linter.unusedVariables false
set_option linter.unusedSimpArgs false
namespace Go.DM
open Go.RowKit Go.Maps Go.Sort
variable {P : Program} {N : Nums}

theorem memB_mem : ∀ {l : List Nat} {t : Nat}, memB t l = true → t ∈ l
  | [], _, e => by cases e
  | x :: xs, t, e => by
    simp only [memB] at e
    split at e
    · rename_i h; simp [Nat.eq_of_beq_eq_true h]
    · simp [memB_mem e]
theorem findK_mem : ∀ {l : List (Nat × Nat)} {f k : Nat}, findK f l = some k → (f, k) ∈ l
  | [], f, k, e => by cases e
  | (a, b) :: l, f, k, e => by
    simp only [findK] at e
    split at e
    · rename_i h
      simp only [Option.some.injEq] at e
      simp [Nat.eq_of_beq_eq_true h, e]
    · simp [findK_mem e]
theorem iterB_mem : ∀ {l : List (Nat × Nat)} {k : Nat}, iterB k l = true → ∃ f, (f, k) ∈ l
  | [], k, e => by cases e
  | (a, b) :: l, k, e => by
    simp only [iterB] at e
    split at e
    · rename_i h
      exact ⟨a, by simp [Nat.eq_of_beq_eq_true h]⟩
    · obtain ⟨f, hf⟩ := iterB_mem e
      exact ⟨f, by simp [hf]⟩
theorem intr_ok {fi ft fc : Func} {et ec : Array Value → Sem Value} {cs cl cz : Code} (hN : NoCount P) (hK : ∀ f k, (f, k) ∈ N.ks → (∃ bt ck, KeysSpec P f k bt ∧ bodyOf P f = some ck) ∧ (∃ kt, SortSpec P N.sorted k kt) ∧ ∃ kt, CollectSpec P N.collect k kt) (hSb : bodyOf P N.sorted = some cs) (hCb : bodyOf P N.collect = some cl) (hS : ∃ kt, SetSpec P N.setS kt) (hSSb : bodyOf P N.setS = some cz)
    (hi : Ext1 P N.indexByte Extern.BytealgIndexByte.indexByte fi) (ht : Ext1 P N.typeOf et ft) (htr : ∀ t y w, (et #[.iface t y]).run P w = .ok (.iface N.rtype (.agg #[typeHandle P t])) w)
    (hc : Ext1 P N.comparable ec fc) (hcr : ∀ t i, t ∈ N.cmp → P.types[t]? = some i → ∀ w, (ec #[.agg #[typeHandle P t]]).run P w = .ok (.bool i.comparable) w) : IntrOk P (intr P N) := by
  intro f args h v h' e
  unfold intr at e
  simp only at e
  split at e
  · rename_i k hf
    obtain ⟨⟨bt, ck, hK1, hKb⟩, _⟩ := hK f k (findK_mem hf)
    split at e
    · rename_i r
      split at e
      · rename_i v2 h2 hs
        simp only [Option.some.injEq, Prod.mk.injEq] at e
        obtain ⟨rfl, rfl⟩ := e
        exact keys_answers hK1 hN hKb hs
      · cases e
    · cases e
  · split at e
    · rename_i hf
      have := Nat.eq_of_beq_eq_true hf
      subst this
      split at e
      · rename_i s c
        split at e
        · rename_i hlt
          simp only [Option.some.injEq, Prod.mk.injEq] at e
          obtain ⟨rfl, rfl⟩ := e
          exact indexByte_answers hi (by simpa using hlt)
        · cases e
      · cases e
    · split at e
      · rename_i hf
        have := Nat.eq_of_beq_eq_true hf
        subst this
        split at e
        · rename_i k b
          split at e
          · rename_i r hk hl
            obtain ⟨g, hg⟩ := iterB_mem hk
            obtain ⟨_, ⟨kt, hS⟩, _⟩ := hK g _ hg
            exact sorted_answers hS hN hSb hl e
          · cases e
        · cases e
      · split at e
        · rename_i hf
          have := Nat.eq_of_beq_eq_true hf
          subst this
          split at e
          · rename_i k b
            split at e
            · rename_i r hk hl
              obtain ⟨g, hg⟩ := iterB_mem hk
              obtain ⟨_, _, kt, hS⟩ := hK g _ hg
              exact collect_answers hS hN hCb hl e
            · cases e
          · cases e
        · split at e
          · rename_i hf
            have := Nat.eq_of_beq_eq_true hf
            subst this
            obtain ⟨kt, hS⟩ := hS
            split at e
            · rename_i b o n cp z ex
              split at e
              · rename_i hz
                have := Nat.eq_of_beq_eq_true hz
                subst this
                exact setOf_answers hS hN hSSb e
              · cases e
            · cases e
          · split at e
            · rename_i hf
              have := Nat.eq_of_beq_eq_true hf
              subst this
              split at e
              · simp only [Option.some.injEq, Prod.mk.injEq] at e
                obtain ⟨rfl, rfl⟩ := e
                exact typeOf_answers ht htr
              · cases e
            · split at e
              · rename_i hf
                have := Nat.eq_of_beq_eq_true hf
                subst this
                split at e
                · split at e
                  · rename_i i hm hti
                    simp only [Option.some.injEq, Prod.mk.injEq] at e
                    obtain ⟨rfl, rfl⟩ := e
                    exact comparable_answers hc (hcr _ i (memB_mem hm) hti)
                  · cases e
                · cases e
              · cases e
end Go.DM
