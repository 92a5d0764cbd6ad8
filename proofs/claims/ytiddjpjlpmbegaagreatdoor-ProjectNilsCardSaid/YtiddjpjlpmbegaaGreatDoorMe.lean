import Derived.Test.YtiddjpjlpmbegaaGreatDoorMd
import Derived.Calls
set_option linter.unusedVariables false
set_option linter.unusedSimpArgs false
set_option linter.unnecessarySimpa false
set_option autoImplicit false
set_option linter.unusedVariables false
set_option linter.unusedSimpArgs false
namespace Go.DM
open Go.RowKit
variable {P : Program} {φ ψ : Emb} {w0 w w' : World} {h h' : HS}

/-! ### temporaries -/
theorem getT_putB {t : T DV} {x : Option DV} {d k : Nat} : getT (T.putB x (bits d) t) (bits k) = if k = d then x.getD .bad else getT t (bits k) := by
  unfold getT
  rw [T.getB_putB]
  by_cases h : k = d
  · subst h; simp; cases x <;> rfl
  · rw [if_neg (fun e => h (bits_inj e)), if_neg h]
theorem getT_putT {nt : Nat} {t : T DV} {d k : Nat} {v : DV} : getT (putT nt t (some d) v) (bits k) = if k = d then (if d < nt then v else .bad) else getT t (bits k) := by
  unfold putT
  simp only
  rw [getT_putB]
  by_cases h : k = d
  · rw [if_pos h, if_pos h]
    by_cases hd : d < nt
    · have : Nat.blt d nt = true := by simpa using hd
      rw [this, if_pos hd]; rfl
    · have : Nat.blt d nt = false := by
        cases e : Nat.blt d nt with
        | false => rfl
        | true => simp at e; exact absurd e hd
      rw [this, if_neg hd]; rfl
  · rw [if_neg h, if_neg h]
theorem getT_putT_ne {nt : Nat} {t : T DV} {d : Option Tmp} {k : Nat} {v : DV} (hk : d ≠ some k) : getT (putT nt t d v) (bits k) = getT t (bits k) := by
  cases d with
  | none => rfl
  | some d => rw [getT_putT, if_neg (fun e => hk (by rw [e]))]

/-! ### the same temporaries, the same outcome -/
def Same (t t' : T DV) (l : List Tmp) : Prop := ∀ k, k ∈ l → getT t' (bits k) = getT t (bits k)
def xNames (x : Operand) : List Tmp := match x with | .tmp t => [t] | _ => []
theorem eval_same {t t' : T DV} {x : Operand} (hs : ∀ k, x = .tmp k → getT t' (bits k) = getT t (bits k)) : eval t' x = eval t x := by
  cases x with
  | tmp k => exact hs k rfl
  | _ => rfl
theorem evalL_same {t t' : T DV} : ∀ (l : List Operand), (∀ x, x ∈ l → eval t' x = eval t x) → evalL t' l = evalL t l
  | [], _ => rfl
  | x :: xs, hs => by
    simp only [evalL]
    rw [hs x (by simp), evalL_same xs fun y hy => hs y (by simp [hy])]
theorem evalParts_same {t t' : T DV} : ∀ (l : List (Nat × Operand)), (∀ i x, (i, x) ∈ l → eval t' x = eval t x) → evalParts t' l = evalParts t l
  | [], _ => rfl
  | (i, x) :: xs, hs => by
    simp only [evalParts]
    rw [hs i x (by simp), evalParts_same xs fun j y hy => hs j y (by simp [hy])]
theorem evalO_same {t t' : T DV} (x : Option Operand) (hs : ∀ y, x = some y → eval t' y = eval t y) : evalO t' x = evalO t x := by
  cases x with
  | none => rfl
  | some y => simp only [evalO]; rw [hs y rfl]
theorem exec_same {t t' : T DV} {op : Op} (hq : ∀ x, x ∈ op.operands.toList → eval t' x = eval t x) (h : HS) : exec P t' h op = exec P t h op := by
  cases op <;> simp only [Op.operands, Array.toList_append, List.mem_append] at hq <;> simp only [exec]
  case move x => rw [hq x (by simp)]
  case assign x => rw [hq x (by simp)]
  case pick c a b => unfold xPick; rw [hq c (by simp), hq a (by simp), hq b (by simp)]
  case box e x => rw [hq x (by simp)]
  case build t ps =>
    unfold xBuild
    rw [evalParts_same ps.toList fun i x hx => hq x (by simp; exact ⟨i, by simpa using hx⟩)]
  case buildSlice t n ps =>
    unfold xBuildSlice
    rw [evalParts_same ps.toList fun i x hx => hq x (by simp; exact ⟨i, by simpa using hx⟩)]
  case load t a => rw [hq a (by simp)]
  case store t a v => rw [hq a (by simp), hq v (by simp)]
  case nilCheck x => rw [hq x (by simp)]
  case binOp op t x y yt => rw [hq x (by simp), hq y (by simp)]
  case unOp op t x => rw [hq x (by simp)]
  case convert s d x => rw [hq x (by simp)]
  case makeInterface t x => rw [hq x (by simp)]
  case makeFunc fn first cap => rw [evalL_same first.toList fun x hx => hq x (.inl hx), evalL_same cap.toList fun x hx => hq x (.inr hx)]
  case makeMap t r =>
    unfold xMakeMap
    cases r with
    | none => rfl
    | some x => simp only [hq x (by simp [Option.toArray])]
  case makeSlice t l c => rw [hq l (by simp), hq c (by simp)]
  case slice t x lo hi mx =>
    rw [hq x (by simp), evalO_same lo fun y e => hq y (by subst e; simp [Option.toArray]), evalO_same hi fun y e => hq y (by subst e; simp [Option.toArray]),
      evalO_same mx fun y e => hq y (by subst e; simp [Option.toArray])]
  case fieldAddr t x f => rw [hq x (by simp)]
  case field t x f => rw [hq x (by simp)]
  case indexAddr t x i => rw [hq x (by simp), hq i (by simp)]
  case index t x i => rw [hq x (by simp), hq i (by simp)]
  case sliceToArrayPointer a x => rw [hq x (by simp)]
  case lookup t x i ok => rw [hq x (by simp), hq i (by simp)]
  case mapUpdate t m k x => rw [hq m (by simp), hq k (by simp), hq x (by simp)]
  case typeAssert x xt a ok => rw [hq x (by simp)]
  case extract x i => rw [hq x (by simp)]
  case call c =>
    have ha : ∀ x, x ∈ c.args.toList → eval t' x = eval t x := by
      intro x hx
      refine hq x ?_
      simp only [Call.operands]
      cases c.callee <;> simp_all
    unfold xCall
    split
    · rename_i f hc
      rw [hq f (by simp [Call.operands, hc]), evalL_same _ ha]
    · rename_i b hc
      have h1 : ∀ x, c.args.toList = [x] → eval t' x = eval t x := fun x e => ha x (by rw [e]; simp)
      have h2 : ∀ x y, c.args.toList = [x, y] → eval t' x = eval t x ∧ eval t' y = eval t y := fun x y e => ⟨ha x (by rw [e]; simp), ha y (by rw [e]; simp)⟩
      unfold xBuiltin
      rcases e : c.args.toList with _ | ⟨x, _ | ⟨y, _ | ⟨z, l⟩⟩⟩
      · cases b <;> rfl
      · cases b <;> simp only [h1 x e]
      · cases b <;> simp only [(h2 x y e).1, (h2 x y e).2]
      · cases b <;> rfl
    · rename_i r name hc
      rw [hq r (by simp [Call.operands, hc]), evalL_same _ ha]
  case defer c =>
    have ha : ∀ x, x ∈ c.args.toList → eval t' x = eval t x := by
      intro x hx
      refine hq x ?_
      simp only [Call.operands]
      cases c.callee <;> simp_all
    unfold xDefer
    split
    · rename_i f hc
      rw [hq f (by simp [Call.operands, hc]), evalL_same _ ha]
    · rfl
  case panic x => rw [hq x (by simp)]
theorem mem_opNames {op : Op} {k : Tmp} (hx : Operand.tmp k ∈ op.operands.toList) : k ∈ opNames op := by
  unfold opNames
  rw [List.mem_filterMap]
  exact ⟨_, hx, rfl⟩
theorem exec_names {t t' : T DV} {op : Op} (hs : ∀ k, k ∈ opNames op → getT t' (bits k) = getT t (bits k)) (h : HS) : exec P t' h op = exec P t h op :=
  exec_same (fun x hx => eval_same fun k e => hs k (mem_opNames (e ▸ hx))) h
theorem opNames_sub {ops : Array Oper} {o : Oper} {k : Tmp} (hk : k ∈ opNames o.op) : k ∈ namesOf ops o := by
  unfold namesOf
  split
  · exact hk
  · split
    · simp [hk]
    · exact hk
theorem guard_sub {ops : Array Oper} {o : Oper} {j : Nat} {b : Bool} {k : Tmp} (hg : o.guard = some (j, b)) (hk : guardTmp ops j = some k) : k ∈ namesOf ops o := by
  unfold namesOf
  rw [hg]
  simp only
  rw [hk]
  simp
theorem wanted_same {ops : Array Oper} {o : Oper} {t t' : T DV} (hs : ∀ k, k ∈ namesOf ops o → getT t' (bits k) = getT t (bits k)) : wantedD o.guard ops t' = wantedD o.guard ops t := by
  unfold wantedD
  cases hg : o.guard with
  | none => rfl
  | some x =>
    obtain ⟨j, b⟩ := x
    simp only
    cases hk : guardTmp ops j with
    | none => rfl
    | some d => simp only; rw [hs d (guard_sub hg hk)]
end Go.DM
set_option autoImplicit false
set_option linter.unusedVariables false
set_option linter.unusedSimpArgs false
namespace Go.DM
open Go.RowKit
variable {P : Program} {φ ψ : Emb} {w0 w w' : World} {h h' : HS}

/-! ### more heap, the same reading -/
def Ext (h h' : HS) : Prop := ∀ b o, getO h b = some o → getO h' b = some o
theorem Ext.load1 (E : Ext h h') {b o : Nat} {v : DV} (e : DM.load1 h b o = some v) : DM.load1 h' b o = some v := by
  unfold DM.load1 at e ⊢
  split at e
  · rename_i c n k hg
    rw [E _ _ hg]; exact e
  · cases e
theorem Ext.loadN (E : Ext h h') {b o n : Nat} {l : List DV} (e : DM.loadN h b o n = some l) : DM.loadN h' b o n = some l := by
  unfold DM.loadN at e ⊢
  split at e
  · rename_i c m k hg
    rw [E _ _ hg]; exact e
  · cases e
theorem Ext.loadV (E : Ext h h') {t : TypeId} {b o : Nat} {v : DV} (e : DM.loadV P h t b o = some v) : DM.loadV P h' t b o = some v := by
  unfold DM.loadV at e ⊢
  split at e
  · exact E.load1 e
  · split at e
    · rename_i l hl
      rw [E.loadN hl]; exact e
    · cases e
  · cases e
theorem Ext.entries (E : Ext h h') {m : DV} {es : List (DV × DV)} (e : entriesD h m = some es) : entriesD h' m = some es := by
  unfold entriesD at e ⊢
  split at e
  · exact e
  · split at e
    · rename_i hg
      rw [E _ _ hg]; exact e
    · cases e
  · cases e
theorem outO_h {v : Option DV} {x : DV} (e : outO v h = .val x h') : outO v h = .val x h := by
  rw [e, (Still.outO v h h).2 x h' e]
theorem outI_h {k : IntKind} {n : Int} {x : DV} {h2 : HS} (e : outI k n h = .val x h') : outI k n h2 = .val x h2 := by
  rw [(Still.outI k n h h2).1, e]; rfl
theorem outN_h {n : Nat} {x : DV} {h2 : HS} (e : outN n h = .val x h') : outN n h2 = .val x h2 := by
  have s : Still (outN n) := fun h h2 => Still.forceN (k := fun m h => .val (.int .i64 (.ofNat m)) h) (fun m => Still.val _) h h2
  rw [(s h h2).1, e]; rfl
theorem read_load (E : Ext h h') {t : TypeId} {a v : DV} (e : xLoad P h t a = .val v h) : xLoad P h' t a = .val v h' := by
  unfold xLoad at e ⊢
  split at e
  · unfold outO at e ⊢
    split at e
    · rename_i x hl
      cases e
      rw [E.loadV hl]
    · cases e
  · cases e
theorem read_lookup (E : Ext h h') {t : TypeId} {m k v : DV} {ok : Bool} (e : xLookup P h t m k ok = .val v h) : xLookup P h' t m k ok = .val v h' := by
  unfold xLookup at e ⊢
  split at e
  · split at e
    · rename_i hk he
      rw [hk, E.entries he]
      simp only
      split at e
      · cases e; rfl
      · split at e
        · cases e; rfl
        · cases e
      · cases e
    · cases e
  · cases e
theorem read_sliceOf {b o size cap : Nat} {ex : Bool} {l hi : Nat} {hs : Bool} {mx : Option DV} {v : DV} (e : sliceOf h b o size cap ex l hi hs mx = .val v h) : sliceOf h' b o size cap ex l hi hs mx = .val v h' := by
  unfold sliceOf at e ⊢
  repeat' split at e
  all_goals first
    | (cases e; done)
    | (cases e; simp_all)
theorem read_slice (E : Ext h h') {t : TypeId} {x v : DV} {lo hi mx : Option DV} (e : sliceD P h t x lo hi mx = .val v h) : sliceD P h' t x lo hi mx = .val v h' := by
  unfold sliceD at e ⊢
  split at e
  · split at e
    · split at e
      · rename_i hh; cases e; simp only [hh]
      · cases e
    · cases e
  · split at e
    · split at e
      · cases e; rfl
      · split at e
        · cases e; simp only
        · cases e
    · cases e
  · split at e
    · split at e
      · split at e
        · split at e
          · rename_i hg
            have hg' := E _ _ hg
            clear hg
            split at e
            · cases e
              simp only [*]
            · cases e
          · cases e
        · cases e
      · cases e
    · cases e
  · split at e
    · split at e
      · exact read_sliceOf e
      · cases e
    · cases e
  · cases e
theorem read_conv (E : Ext h h') {s d : TypeId} {x v : DV} (e : convD P h s d x = .val v h) : convD P h' s d x = .val v h' := by
  unfold convD at e ⊢
  split at e
  · cases e
  rename_i us hus
  split at e
  · split at e
    · exact outI_h e
    · cases e
  · split at e
    · cases e; rfl
    · split at e
      · exfalso
        obtain ⟨heap, next, g⟩ := h
        simp [newSl, newObj] at e
      · cases e
    · cases e
  · split at e
    · split at e
      · cases e; rfl
      · cases e
    · cases e
  · split at e
    · rename_i h1 h2
      split at e
      · rename_i h3
        split at e
        · rename_i hl
          split at e
          · rename_i hb
            cases e
            simp only [E.loadN hl, hb]
          · cases e
        · cases e
      · cases e
    · split at e
      · cases e; rfl
      · cases e
    · cases e
  · cases e
theorem read_len (E : Ext h h') {ts : Array TypeId} {x v : DV} (e : xLen P h ts x = .val v h) : xLen P h' ts x = .val v h' := by
  unfold xLen at e ⊢
  split at e
  · split at e
    · exact outN_h e
    · exact outN_h e
    · exact outN_h e
    · exact outN_h e
    · split at e
      · rename_i hg
        rw [E _ _ hg]
        exact outN_h e
      · cases e
    · cases e
  · cases e
theorem read_cap {ts : Array TypeId} {x v : DV} (e : xCap P h ts x = .val v h) : xCap P h' ts x = .val v h' := by
  unfold xCap at e ⊢
  split at e
  · split at e
    · exact outN_h e
    · exact outN_h e
    · cases e
  · cases e
theorem read_max {x y v : DV} (e : xMax h x y = .val v h) : xMax h' x y = .val v h' := by
  unfold xMax at e ⊢
  split at e
  · exact outI_h e
  · cases e
theorem read_min {x y v : DV} (e : xMin h x y = .val v h) : xMin h' x y = .val v h' := by
  unfold xMin at e ⊢
  split at e
  · exact outI_h e
  · cases e
theorem read_call (E : Ext h h') {tmps : T DV} {c : Call} {v : DV} (hq : isEffect (.call c) = false) (e : xCall P tmps h c = .val v h) : xCall P tmps h' c = .val v h' := by
  simp only [isEffect] at hq
  unfold xCall at e ⊢
  split at hq <;> try (cases hq; done)
  all_goals
    rename_i hc
    rw [hc] at e
    simp only [hc] at e ⊢
    unfold xBuiltin at e ⊢
    simp only at e ⊢
    split at e
    · first | exact read_len E e | exact read_cap e | exact read_max e | exact read_min e
    · cases e
theorem read_ext (E : Ext h h') {tmps : T DV} {op : Op} {v : DV} (hq : isEffect op = false) (hr : isRead op = true) (e : exec P tmps h op = .val v h) : exec P tmps h' op = .val v h' := by
  cases op <;> simp only [isRead] at hr <;> try (cases hr; done)
  case load t a => exact read_load E e
  case convert s d x => exact read_conv E e
  case slice t x l hh m => exact read_slice E e
  case lookup t x i ok => exact read_lookup E e
  case call c => exact read_call E hq e
theorem new_ne {obj : DObj} {f : Nat → DV} {v : DV} (e : newObj h obj f = .val v h) : False := by
  obtain ⟨heap, next, g⟩ := h
  simp [newObj] at e

/-! ### a quiet operation comes to a value or to nothing -/
def Plain (o : Out) : Prop := (∃ v h', o = .val v h') ∨ o = .fail
theorem Plain.val (v : DV) (h : HS) : Plain (.val v h) := .inl ⟨_, _, rfl⟩
theorem Plain.fail : Plain .fail := .inr rfl
theorem Plain.forceN {n : Nat} {k : Nat → Out} (hk : ∀ m, Plain (k m)) : Plain (forceN n k) := by
  cases n with
  | zero => exact hk 0
  | succ m => exact hk (m + 1)
theorem Plain.outI (k : IntKind) (n : Int) (h : HS) : Plain (outI k n h) := by
  unfold DM.outI; cases n <;> exact Plain.forceN fun m => Plain.val _ _
theorem Plain.outN (n : Nat) (h : HS) : Plain (outN n h) := Plain.forceN fun m => Plain.val _ _
theorem Plain.outB (b : Bool) (h : HS) : Plain (outB b h) := by unfold DM.outB; cases b <;> exact Plain.val _ _
theorem Plain.outO (v : Option DV) (h : HS) : Plain (outO v h) := by unfold DM.outO; cases v; exact .fail; exact .val _ _
theorem Plain.newObj (h : HS) (o : DObj) (v : Nat → DV) : Plain (newObj h o v) := by obtain ⟨heap, next, g⟩ := h; exact .val _ _
theorem Plain.newPtr (h : HS) (l : List DV) : Plain (newPtr h l) := Plain.newObj _ _ _
theorem Plain.newSl (h : HS) (l : List DV) (a b c : Nat) (e : Bool) : Plain (newSl h l a b c e) := Plain.newObj _ _ _
theorem Plain.arith (op : BinOp) (k : IntKind) (a b : Int) : Plain (arith op k a b h) := by
  unfold DM.arith
  repeat' split
  all_goals first | exact Plain.outI _ _ _ | exact Plain.outB _ _ | exact Plain.fail
theorem Plain.shiftD (op : BinOp) (k : IntKind) (a b : Int) : Plain (shiftD op k a b h) := by
  unfold DM.shiftD
  repeat' split
  all_goals first | exact Plain.outI _ _ _ | exact Plain.fail
theorem Plain.binStr (op : BinOp) (a b : List Nat) : Plain (binStr op a b h) := by
  unfold DM.binStr
  repeat' split
  all_goals first | exact Plain.outB _ _ | exact Plain.val _ _ | exact Plain.fail
theorem Plain.binEq (op : BinOp) (t : TypeId) (c : Bool) (x y : DV) : Plain (binEq P op t c x y h) := by
  unfold DM.binEq
  repeat' split
  all_goals first | exact Plain.outB _ _ | exact Plain.fail
theorem Plain.binD (op : BinOp) (t : TypeId) (c : Bool) (x y : DV) : Plain (binD P op t c x y h) := by
  unfold DM.binD
  repeat' split
  all_goals first | exact Plain.shiftD _ _ _ _ | exact Plain.arith _ _ _ _ | exact Plain.binStr _ _ _ | exact Plain.binEq _ _ _ _ _ | exact Plain.fail
theorem quiet_plain {tmps : T DV} {op : Op} (hq : isEffect op = false) : Plain (exec P tmps h op) := by
  cases op <;> simp only [exec] <;> try exact Plain.fail
  case move x => exact Plain.val _ _
  case assign x => exact Plain.val _ _
  case pick c a b => unfold xPick; repeat' split
                     all_goals first | exact Plain.val _ _ | exact Plain.fail
  case alloc e => unfold xAlloc; split; exact Plain.newPtr _ _; exact Plain.fail
  case box e x => unfold xBox; split; exact Plain.newPtr _ _; exact Plain.fail
  case build t ps => unfold xBuild; repeat' split
                     all_goals first | exact Plain.val _ _ | exact Plain.fail
  case buildSlice t n ps => unfold xBuildSlice; repeat' split
                            all_goals first | exact Plain.newSl _ _ _ _ _ _ | exact Plain.fail
  case load t a => unfold xLoad; split; exact Plain.outO _ _; exact Plain.fail
  case store t a v => simp [isEffect] at hq
  case nilCheck x => unfold xNilCheck; split <;> first | exact Plain.val _ _ | exact Plain.fail
  case binOp o t x y yt => exact Plain.binD _ _ _ _ _
  case unOp o t x => unfold xUn; split <;> first | exact Plain.outB _ _ | exact Plain.outI _ _ _ | exact Plain.fail
  case convert s d x =>
    unfold convD; repeat' split
    all_goals first | exact Plain.outI _ _ _ | exact Plain.val _ _ | exact Plain.newSl _ _ _ _ _ _ | exact Plain.fail
  case makeInterface t x => unfold xIface; split <;> first | exact Plain.val _ _ | exact Plain.fail
  case makeFunc fn a b => unfold xMakeFunc; split <;> first | exact Plain.val _ _ | exact Plain.fail
  case makeMap t r => unfold xMakeMap; repeat' split
                      all_goals first | exact Plain.newObj _ _ _ | exact Plain.fail
  case makeSlice t l c => unfold xMakeSlice; repeat' split
                          all_goals first | exact Plain.newSl _ _ _ _ _ _ | exact Plain.fail
  case slice t x l hh m =>
    unfold sliceD
    repeat' split
    all_goals first
      | exact Plain.val _ _
      | exact Plain.fail
      | (unfold sliceOf; repeat' split
         all_goals first | exact Plain.val _ _ | exact Plain.fail)
  case fieldAddr t x f => unfold xFieldAddr; repeat' split
                          all_goals first | exact Plain.forceN fun m => Plain.val _ _ | exact Plain.fail
  case field t x f => unfold xField; repeat' split
                      all_goals first | exact Plain.outO _ _ | exact Plain.fail
  case indexAddr t x i =>
    unfold xIndexAddr ixAddr; repeat' split
    all_goals first | exact Plain.forceN fun m => Plain.val _ _ | exact Plain.fail
  case index t x i => unfold xIndex; repeat' split
                      all_goals first | exact Plain.val _ _ | exact Plain.outO _ _ | exact Plain.fail
  case sliceToArrayPointer a x => unfold xArrPtr; repeat' split
                                  all_goals first | exact Plain.val _ _ | exact Plain.fail
  case lookup t x i ok => unfold xLookup; repeat' split
                          all_goals first | exact Plain.val _ _ | exact Plain.fail
  case mapUpdate t m k x => simp [isEffect] at hq
  case extract t i => unfold xExtract; split; exact Plain.outO _ _; exact Plain.fail
  case typeAssert x t a ok => unfold xTypeAssert; repeat' split
                              all_goals first | exact Plain.val _ _ | exact Plain.fail
  case call c =>
    simp only [isEffect] at hq
    unfold xCall
    split at hq <;> try (cases hq; done)
    all_goals
      rename_i hc
      rw [hc]
      simp only
      unfold xBuiltin
      simp only
      split
      · first
          | (unfold xLen; repeat' split
             all_goals first | exact Plain.outN _ _ | exact Plain.fail)
          | (unfold xCap; repeat' split
             all_goals first | exact Plain.outN _ _ | exact Plain.fail)
          | (unfold xMax; split; exact Plain.outI _ _ _; exact Plain.fail)
          | (unfold xMin; split; exact Plain.outI _ _ _; exact Plain.fail)
      · exact Plain.fail
  case defer c => simp [isEffect] at hq
  case panic x => simp [isEffect] at hq
end Go.DM
set_option autoImplicit false
set_option linter.unusedVariables false
set_option linter.unusedSimpArgs false
namespace Go.DM
open Go.RowKit
variable {P : Program} {φ ψ : Emb} {w0 w w' : World} {h h' : HS}

/-! ### equality of values -/
theorem kindB_eq {a b : IntKind} (e : kindEq a b = true) : a = b := by cases a <;> cases b <;> first | rfl | (exact absurd e (by decide))
theorem intB_eq {a b : Int} (e : intEq a b = true) : a = b := by
  cases a <;> cases b <;> simp only [intEq] at e <;> first | (cases e; done) | (rw [Nat.eq_of_beq_eq_true e])
theorem strB_eq : ∀ {a b : List Nat}, strEq a b = true → a = b
  | [], [], _ => rfl
  | [], _ :: _, e => by simp [strEq] at e
  | _ :: _, [], e => by simp [strEq] at e
  | a :: x, b :: y, e => by
    simp only [strEq] at e
    split at e
    · rename_i hh; rw [Nat.eq_of_beq_eq_true hh, strB_eq e]
    · cases e
theorem fnB_eq {a b : Fn} (e : fnEq a b = true) : a = b := by
  cases a <;> cases b <;> simp only [fnEq] at e <;> first | (cases e; done) | (rw [Nat.eq_of_beq_eq_true e])
mutual
theorem beq_eq (x y : DV) (e : DV.beq x y = true) : x = y := by
  cases x with
  | bad => simp [DV.beq] at e
  | bool a => cases y <;> simp only [DV.beq] at e <;> try (cases e; done)
              rename_i b
              cases a <;> cases b <;> first | rfl | (cases e; done)
  | int k n =>
    cases y <;> simp only [DV.beq] at e <;> try (cases e; done)
    simp only [Bool.and_eq_true] at e
    rw [kindB_eq e.1, intB_eq e.2]
  | float k n => simp [DV.beq] at e
  | str s =>
    cases y <;> simp only [DV.beq] at e <;> try (cases e; done)
    rw [strB_eq e]
  | ptr a b =>
    cases y <;> simp only [DV.beq] at e <;> try (cases e; done)
    simp only [Bool.and_eq_true] at e
    rw [Nat.eq_of_beq_eq_true e.1, Nat.eq_of_beq_eq_true e.2]
  | nilp => cases y <;> simp only [DV.beq] at e <;> first | rfl | (cases e; done)
  | hdl t =>
    cases y <;> simp only [DV.beq] at e <;> try (cases e; done)
    rw [Nat.eq_of_beq_eq_true e]
  | slice b o l c z ex =>
    cases y <;> simp only [DV.beq] at e <;> try (cases e; done)
    rename_i b' o' l' c' z' ex'
    simp only [Bool.and_eq_true] at e
    obtain ⟨⟨⟨⟨⟨h1, h2⟩, h3⟩, h4⟩, h5⟩, h6⟩ := e
    rw [Nat.eq_of_beq_eq_true h1, Nat.eq_of_beq_eq_true h2, Nat.eq_of_beq_eq_true h3, Nat.eq_of_beq_eq_true h4, Nat.eq_of_beq_eq_true h5]
    cases ex <;> cases ex' <;> first | rfl | (cases h6; done)
  | nils => cases y <;> simp only [DV.beq] at e <;> first | rfl | (cases e; done)
  | map r =>
    cases y <;> simp only [DV.beq] at e <;> try (cases e; done)
    rw [Nat.eq_of_beq_eq_true e]
  | nilm => cases y <;> simp only [DV.beq] at e <;> first | rfl | (cases e; done)
  | func f a b =>
    cases y <;> simp only [DV.beq] at e <;> try (cases e; done)
    simp only [Bool.and_eq_true] at e
    rw [fnB_eq e.1.1, beqL_eq a _ e.1.2, beqL_eq b _ e.2]
  | fbox f b =>
    cases y <;> simp only [DV.beq] at e <;> try (cases e; done)
    simp only [Bool.and_eq_true] at e
    rw [Nat.eq_of_beq_eq_true e.1, Nat.eq_of_beq_eq_true e.2]
  | nilf => cases y <;> simp only [DV.beq] at e <;> first | rfl | (cases e; done)
  | iface t v =>
    cases y <;> simp only [DV.beq] at e <;> try (cases e; done)
    simp only [Bool.and_eq_true] at e
    rw [Nat.eq_of_beq_eq_true e.1, beq_eq v _ e.2]
  | nili => cases y <;> simp only [DV.beq] at e <;> first | rfl | (cases e; done)
  | agg l =>
    cases y <;> simp only [DV.beq] at e <;> try (cases e; done)
    rw [beqL_eq l _ e]
  | tuple l =>
    cases y <;> simp only [DV.beq] at e <;> try (cases e; done)
    rw [beqL_eq l _ e]
theorem beqL_eq (x y : List DV) (e : DV.beqL x y = true) : x = y := by
  cases x with
  | nil => cases y <;> simp only [DV.beqL] at e <;> first | rfl | (cases e; done)
  | cons a x =>
    cases y with
    | nil => simp [DV.beqL] at e
    | cons b y =>
      simp only [DV.beqL, Bool.and_eq_true] at e
      rw [beq_eq a b e.1, beqL_eq x y e.2]
end

/-! ### a quiet operation in the machine -/
def evalR (rt : Array Value) : Operand → Value
  | .tmp t => rt.getD t undef
  | .const v => v
  | .global g => .pointer (some ⟨g, 0, none⟩)
  | .func f => .func (.func f) #[] #[]
theorem evalR_frame (fr : Frame) : fr.eval = evalR fr.tmps := by funext x; cases x <;> rfl
theorem eval_rel {t : T DV} {rt : Array Value} {x : Operand} (hx : ∀ k, x = .tmp k → VR P φ (getT t (bits k)) (rt.getD k undef)) : VR P φ (eval t x) (evalR rt x) := by
  cases x with
  | tmp k => exact hx k rfl
  | const v => exact VR_ofValue v
  | global g => trivial
  | func f => exact ⟨_, _, _, rfl, rfl, rfl, rfl⟩
theorem same_q {t : T DV} {rt : Array Value} {o : Oper} (H : HR P w0 φ h w) (hq : ∀ x, x ∈ o.op.operands.toList → VR P φ (eval t x) (evalR rt x)) (hp : Plain (exec P t h o.op))
    (hs : ∀ v h', exec P t h o.op = .val v h' → h' = h) : QR P w0 φ h w (exec P t h o.op) ((execOp (evalR rt) o).run P w) := by
  have hx := exec_sim (o := o) H hq
  rcases hp with ⟨v, h', e⟩ | e
  · have := hs v h' e
    subst this
    rw [e] at hx ⊢
    exact .inr (.inr ⟨⟨v, rfl⟩, hx⟩)
  · rw [e]; trivial
theorem Still.same {f : HS → Out} (s : Still f) : ∀ v h', f h = .val v h' → h' = h := fun v h' e => (s h h).2 v h' e
theorem exec_q {t : T DV} {rt : Array Value} {o : Oper} (H : HR P w0 φ h w) (hq : ∀ x, x ∈ o.op.operands.toList → VR P φ (eval t x) (evalR rt x)) (hn : isEffect o.op = false) :
    QR P w0 φ h w (exec P t h o.op) ((execOp (evalR rt) o).run P w) := by
  have hq0 := hq
  have hp : Plain (exec P t h o.op) := quiet_plain hn
  have key := same_q (w0 := w0) (w := w) H hq0 hp
  generalize hop : o.op = op at hq hn key ⊢
  cases op <;> simp only [Op.operands, Array.toList_append, List.mem_append] at hq
  case alloc e => exact alloc_q hop
  case box e x => exact box_q hop (hq x (by simp))
  case buildSlice t n ps => exact buildSlice_q hop (fun i x hx => hq x (by simp; exact ⟨i, by simpa using hx⟩))
  case makeMap t r => exact makeMap_q hop (fun x hx => hq x (by subst hx; simp [Option.toArray]))
  case makeSlice t l c => exact makeSlice_q hop (hq l (by simp)) (hq c (by simp))
  case convert s d x => exact conv_q H hop (hq x (by simp))
  case move x => exact key (Still.same (f := fun h => .val (eval t x) h) (Still.val _))
  case pick c a b => exact key (Still.xPick t c a b).same
  case build tt ps => exact key (Still.xBuild t tt ps.toList).same
  case load t a => exact key fun v h' e => load_val e
  case nilCheck x => exact key (Still.xNilCheck _).same
  case binOp o t x y yt => exact key (Still.binD _ _ _ _ _).same
  case unOp o t x => exact key (Still.xUn _ _).same
  case makeInterface t x => exact key (Still.xIface _ _).same
  case makeFunc fn a b => exact key (Still.xMakeFunc _ _ _).same
  case slice t x l hh m => exact key fun v h' e => slice_val e
  case fieldAddr t x f => exact key (Still.xFieldAddr _ _ _).same
  case field t x f => exact key (Still.xField _ _ _).same
  case indexAddr t x i => exact key (Still.xIndexAddr _ _ _).same
  case index t x i => exact key (Still.xIndex _ _ _).same
  case sliceToArrayPointer a x => exact key (Still.xArrPtr _ _).same
  case lookup t x i ok => exact key fun v h' e => lookup_val e
  case extract t i => exact key (Still.xExtract _ _).same
  case typeAssert x t a ok => exact key (Still.xTypeAssert _ _ _).same
  case call c => exact key fun v h' e => quietCall_val hn e
  all_goals first | (simp [isEffect] at hn; done) | trivial
/-- no more than the other tells -/
inductive ObjLe : DObj → DObj → Prop
  | refl (o : DObj) : ObjLe o o
  | cells {c c2 : T DV} {n : Nat} {k : Option (Nat × Nat)} (e : ∀ i d, c.get i = some d → c2.get i = some d) : ObjLe (.cells c n k) (.cells c2 n k)
theorem ObjLe.or {o o2 : DObj} {rb sh : Nat} (l : ObjLe o o2) (k : OR P φ w o2 rb sh) : OR P φ w o rb sh := by
  cases l with
  | refl => exact k
  | cells e =>
    obtain ⟨rc, elem, fz, h1, h2, h3, h4⟩ := k
    exact ⟨rc, elem, fz, h1, h2, h3, fun i d hd => h4 i d (e i d hd)⟩
theorem ObjLe.trans {a b c : DObj} (l : ObjLe a b) (m : ObjLe b c) : ObjLe a c := by
  cases l with
  | refl => exact m
  | cells e =>
    cases m with
    | refl => exact .cells e
    | cells e2 => exact .cells fun i d hd => e2 i d (e i d hd)
/-- the machine makes now what stands in the abstract heap already -/
theorem exec_bind {t : T DV} {rt : Array Value} {o : Oper} {obj : DObj} {v0 : DV} {b : Nat} (H : HR P w0 φ h w) (hq : ∀ x, x ∈ o.op.operands.toList → VR P φ (eval t x) (evalR rt x)) (hn : isEffect o.op = false)
    (hi : ∀ b c, reloc b (reloc c v0) = reloc b v0) (ha : ∀ h2, exec P t h2 o.op = newObj h2 obj fun b => reloc b v0) (hg : ∀ o, h.heap.get b = some o → ObjLe o obj) (hb : b < h.next) (hf : φ b = none) :
    ∃ φ' w' x, (execOp (evalR rt) o).run P w = .ok (.value x) w' ∧ φ.le φ' ∧ HR P w0 φ' h w' ∧ VR P φ' (reloc b v0) x ∧ ∀ c, φ c = none → c ≠ b → φ' c = none := by
  have q := exec_q (o := o) H hq hn
  rw [ha h] at q
  have q' : (∃ v x, newObj h obj (fun b => reloc b v0) = .val v h ∧ VR P φ v x ∧ (execOp (evalR rt) o).run P w = .ok (.value x) w) ∨
    (∃ obj' v, (∀ b, reloc b v = reloc b (reloc h.next v)) ∧ newObj h obj (fun b => reloc b v0) = newObj h obj' (fun b => reloc b v) ∧ NewR P φ w obj' v ((execOp (evalR rt) o).run P w)) ∨
    ((∃ v, newObj h obj (fun b => reloc b v0) = .val v h) ∧ OutR P w0 φ h w (newObj h obj (fun b => reloc b v0)) ((execOp (evalR rt) o).run P w)) := by
    obtain ⟨heap, next, g⟩ := h
    exact q
  rcases q' with ⟨v, x, e, _⟩ | ⟨obj', v, hv, e, hk, x, o', m, d, hr, hh⟩ | ⟨⟨v, e⟩, _⟩
  · exact (new_ne e).elim
  · have hobj : obj = obj' ∧ reloc h.next v0 = reloc h.next v := by
      obtain ⟨heap, next, g⟩ := h
      simp only [newObj, Out.val.injEq, HS.mk.injEq] at e
      refine ⟨?_, e.1⟩
      have := congrArg (fun t => T.get t next) e.2.1
      simpa [T.get_set] using this
    obtain ⟨rfl, hv2⟩ := hobj
    have hbv : reloc b v0 = reloc b v := by rw [← hi b h.next, hv2, ← hv b]
    have Hd := H.drew d
    have hle : φ.le (φ.put b (w.heap.size, 0) m) := Emb.le_put hf (H.newSz m)
    obtain ⟨h1, h2⟩ := hh φ b hle
    refine ⟨_, _, x, hr, hle, Hd.bind hf hb o' (fun o e => (hg o e).or h1), hbv ▸ h2, fun c hc hcb => ?_⟩
    rw [put_f, if_neg hcb]; exact hc
  · exact (new_ne e).elim
end Go.DM
set_option autoImplicit false
set_option linter.unusedVariables false
set_option linter.unusedSimpArgs false
namespace Go.DM
open Go.RowKit
variable {P : Program} {φ ψ φ' : Emb} {w0 w w' : World} {h h' : HS}

def dstOf (ops : Array Oper) (i : Nat) : Option Tmp := (ops[i]?).bind (·.dst)
def Stands (nt : Nat) (t : T DV) (d : Option Tmp) (v : DV) : Prop := ∀ k, d = some k → getT t (bits k) = if k < nt then v else .bad
def setR (rt : Array Value) (d : Option Tmp) (x : Value) : Array Value := match d with
  | some d => rt.setIfInBounds d x
  | none => rt
/-- what a value that the machine has not reckoned yet is worth -/
inductive PVal (P : Program) (φ : Emb) (h : HS) (t : T DV) (p : List PItem) (susp : Bool) (q : Nat) (blk : Option Nat) (op : Op) (v : DV) : Prop
  | still (a : ∀ h2, exec P t h2 op = .val v h2)
  | new (obj : DObj) (v0 : DV) (b : Nat) (i : ∀ b c, reloc b (reloc c v0) = reloc b v0) (a : ∀ h2, exec P t h2 op = newObj h2 obj fun b => reloc b v0) (e : v = reloc b v0)
      (hb : blk = some b) (hg : ∀ o, h.heap.get b = some o → ObjLe o obj) (hn : b < h.next) (hf : φ b = none)
  | read (r : isRead op = true) (o : ∃ h1, exec P t h1 op = .val v h1) (now : susp = true ∨ q ∈ chks p ∨ exec P t h op = .val v h)
def Pend (P : Program) (φ : Emb) (h : HS) (nt : Nat) (ops : Array Oper) (p : List PItem) (t : T DV) (susp : Bool) (q : Nat) (blk : Option Nat) (o : Oper) : Prop :=
  (wantedD o.guard ops t = .no ∧ Stands nt t o.dst undefD) ∨ (wantedD o.guard ops t = .yes ∧ ∃ v, Stands nt t o.dst v ∧ PVal P φ h t p susp q blk o.op v)
/-- a drawn region: p: what the abstract machine has still to do; r: what the machine has -/
structure DrawR (P : Program) (φ : Emb) (h : HS) (β : Nat → Option Nat) (nt : Nat) (ops : Array Oper) (p : List PItem) (r : List Nat) (t : T DV) (rt : Array Value) (susp : Bool) : Prop where
  reg : RegOk ops
  plan : PlanOk ops p
  lin : ∃ a, Lin ops (a ++ r)
  all : ∀ i, i ∈ runs p → i ∈ r
  eff : ∀ e, e ∈ r → isEffect (opAt ops e) = true → e ∈ runs p
  done : ∀ q, q < ops.size → q ∉ runs p → ∀ j, bit (Region.before ops) q j = true → j ∉ runs p
  tmps : ∀ k, (∀ i, i ∈ r → i ∉ runs p → dstOf ops i ≠ some k) → VR P φ (getT t (bits k)) (rt.getD k undef)
  size : nt ≤ rt.size
  inj : ∀ q q' b, β q = some b → β q' = some b → q = q'
  low : ∀ q b, β q = some b → b < h.next
  pend : ∀ q o, q ∈ r → q ∉ runs p → ops[q]? = some o → Pend P φ h nt ops p t susp q (β q) o

theorem opAt_some {ops : Array Oper} {i : Nat} {o : Oper} (ho : ops[i]? = some o) : opAt ops i = o.op := by
  unfold opAt
  rw [Array.getD_eq_getD_getElem?, ho]; rfl
theorem dstOf_some {ops : Array Oper} {i : Nat} {o : Oper} (ho : ops[i]? = some o) : dstOf ops i = o.dst := by
  unfold dstOf; rw [ho]; rfl
theorem lt_of_some {ops : Array Oper} {i : Nat} {o : Oper} (ho : ops[i]? = some o) : i < ops.size := (Array.getElem?_eq_some_iff.1 ho).1
theorem setR_getD {rt : Array Value} {d : Option Tmp} {k : Nat} {x : Value} (hk : d ≠ some k) : (setR rt d x).getD k undef = rt.getD k undef := by
  cases d with
  | none => rfl
  | some d =>
    simp only [setR]
    rw [Array.getD_eq_getD_getElem?, Array.getD_eq_getD_getElem?, Array.getElem?_setIfInBounds, if_neg (fun e => hk (by rw [e]))]
theorem setR_at {rt : Array Value} {k : Nat} {x : Value} (hk : k < rt.size) : (setR rt (some k) x).getD k undef = x := by
  simp only [setR]
  rw [Array.getD_eq_getD_getElem?, Array.getElem?_setIfInBounds, if_pos rfl, if_pos hk]; rfl
theorem setR_size {rt : Array Value} {d : Option Tmp} {x : Value} : (setR rt d x).size = rt.size := by
  cases d <;> simp [setR]
theorem Stands.putT {nt : Nat} {t : T DV} {d : Option Tmp} {v : DV} : Stands nt (DM.putT nt t d v) d v := by
  intro k e; subst e; rw [getT_putT, if_pos rfl]
theorem Stands.other {nt : Nat} {t : T DV} {d d' : Option Tmp} {v u : DV} (hd : ∀ k, d = some k → d' ≠ some k) (s : Stands nt t d v) : Stands nt (DM.putT nt t d' u) d v := by
  intro k e; rw [getT_putT_ne (hd k e)]; exact s k e
theorem Stands.rel {nt : Nat} {t : T DV} {rt : Array Value} {d : Option Tmp} {v : DV} {x : Value} {k : Nat} (s : Stands nt t d v) (hs : nt ≤ rt.size) (hv : VR P φ v x) (hk : d = some k) : VR P φ (getT t (bits k)) ((setR rt d x).getD k undef) := by
  subst hk
  rw [s k rfl]
  by_cases h : k < nt
  · rw [if_pos h, setR_at (by omega)]; exact hv
  · rw [if_neg h]; trivial

variable {β : Nat → Option Nat} {nt : Nat} {ops : Array Oper} {p : List PItem} {r : List Nat} {t : T DV} {rt : Array Value} {susp : Bool}
theorem DrawR.nodup (D : DrawR P φ h β nt ops p r t rt susp) : r.Nodup := by
  obtain ⟨a, L⟩ := D.lin
  exact (List.nodup_append.1 L.nodup).2.1
theorem DrawR.lt (D : DrawR P φ h β nt ops p r t rt susp) {i : Nat} (hi : i ∈ r) : i < ops.size := by
  obtain ⟨a, L⟩ := D.lin
  exact (L.all i).1 (by simp [hi])
/-- what an operation hangs on is no more among what is left -/
theorem DrawR.gone (D : DrawR P φ h β nt ops p r t rt susp) {b c : List Nat} {x : Nat} (hr : r = b ++ x :: c) {j : Nat} (hj : bit (Region.before ops) x j = true) : j ∉ x :: c := by
  obtain ⟨a, L⟩ := D.lin
  intro hm
  have h1 := L.pre (a ++ b) x c (by rw [hr]; simp) j hj
  have h2 := L.nodup
  rw [hr, ← List.append_assoc] at h2
  exact (List.nodup_append.1 h2).2.2 j h1 j hm rfl
/-- the names of what is done already are not written any more -/
theorem DrawR.apart (D : DrawR P φ h β nt ops p r t rt susp) {i q : Nat} {oi oq : Oper} (hi : ops[i]? = some oi) (hq : ops[q]? = some oq) (hir : i ∈ runs p) (hqr : q ∉ runs p)
    (hb : isEffect oi.op = true → isEffect oq.op = false ∧ bit (Region.before ops) i q = false) : ∀ k, k ∈ namesOf ops oq → oi.dst ≠ some k := by
  intro k hk hd
  obtain ⟨n1, n2⟩ := D.reg.names i q oi oq k hi hq hd hk
  rw [opAt_some hi, opAt_some hq] at n2
  rw [opAt_some hi] at n1
  cases he : isEffect oi.op with
  | false => exact D.done q (lt_of_some hq) hqr i (n1 he) hir
  | true =>
    rcases n2 he with hh | hh | hh
    · rw [(hb he).1] at hh; cases hh
    · exact D.done q (lt_of_some hq) hqr i hh hir
    · rw [(hb he).2] at hh; cases hh
theorem DrawR.dsts (D : DrawR P φ h β nt ops p r t rt susp) {i q : Nat} {oi oq : Oper} (hi : ops[i]? = some oi) (hq : ops[q]? = some oq) (hne : q ≠ i) : ∀ k, oq.dst = some k → oi.dst ≠ some k := by
  intro k h1 h2
  exact hne (D.reg.prod q i oq oi k hq hi h1 h2)
/-- the names of the machine's next operation mean the same in both -/
theorem DrawR.names_rel (D : DrawR P φ h β nt ops p (r) t rt susp) {q : Nat} {r' : List Nat} (hr : r = q :: r') {o : Oper} (ho : ops[q]? = some o) {k : Tmp} (hk : k ∈ namesOf ops o) : VR P φ (getT t (bits k)) (rt.getD k undef) := by
  refine D.tmps k fun i hi hn hd => ?_
  have hil := D.lt hi
  have hoi : ops[i]? = some ops[i] := Array.getElem?_eq_getElem hil
  rw [dstOf_some hoi] at hd
  have hq : isEffect (opAt ops i) = false := by
    cases he : isEffect (opAt ops i) with
    | false => rfl
    | true => exact absurd (D.eff i hi he) hn
  have := (D.reg.names i q _ o k hoi ho hd hk).1 hq
  exact D.gone (b := []) (c := r') hr this (hr ▸ hi)
theorem DrawR.ops_rel (D : DrawR P φ h β nt ops p r t rt susp) {q : Nat} {r' : List Nat} (hr : r = q :: r') {o : Oper} (ho : ops[q]? = some o) : ∀ x, x ∈ o.op.operands.toList → VR P φ (eval t x) (evalR rt x) :=
  fun x hx => eval_rel fun k e => D.names_rel hr ho (opNames_sub (mem_opNames (e ▸ hx)))
theorem wanted_rel {ops : Array Oper} {o : Oper} (hn : ∀ k, k ∈ namesOf ops o → VR P φ (getT t (bits k)) (rt.getD k undef)) :
    (wantedD o.guard ops t = .yes → Region.wanted o (yielded ops rt) = true) ∧ (wantedD o.guard ops t = .no → Region.wanted o (yielded ops rt) = false) := by
  unfold wantedD Region.wanted
  cases hg : o.guard with
  | none => exact ⟨fun _ => rfl, fun e => (by cases e)⟩
  | some x =>
    obtain ⟨j, b⟩ := x
    simp only
    have hy : yielded ops rt j = match (guardTmp ops j).bind (rt[·]?) with | some (.bool b) => some b | _ => none := by
      unfold yielded guardTmp
      cases ops[j]? <;> rfl
    cases hk : guardTmp ops j with
    | none =>
      rw [hk] at hy
      simp only [Option.bind_none] at hy
      rw [hy]
      exact ⟨fun e => (by cases e), fun _ => rfl⟩
    | some d =>
      rw [hk] at hy
      simp only [Option.bind_some] at hy
      have hv := hn d (guard_sub hg hk)
      rw [Array.getD_eq_getD_getElem?] at hv
      simp only
      cases hd : getT t (bits d) with
      | bad => exact ⟨fun e => (by cases e), fun e => (by cases e)⟩
      | bool c =>
        rw [hd] at hv
        simp only [VR] at hv
        have : rt[d]? = some (.bool c) := by
          cases hr : rt[d]? with
          | none => rw [hr] at hv; simp [undef] at hv
          | some y => rw [hr] at hv; simp at hv; rw [hv]
        rw [this] at hy
        rw [hy]
        cases c <;> cases b <;> exact ⟨fun e => (by cases e <;> rfl), fun e => (by cases e <;> rfl)⟩
      | _ =>
        refine ⟨fun e => (by cases e), fun _ => ?_⟩
        rw [hd] at hv
        have hnb : ∀ c, rt[d]? ≠ some (.bool c) := by
          intro c hc
          rw [hc] at hv
          simp only [VR, Option.getD_some] at hv
          first
            | (cases hv; done)
            | (obtain ⟨_, h1, _⟩ := hv; cases h1; done) | (obtain ⟨_, _, h1⟩ := hv; cases h1; done) | (obtain ⟨_, _, _, h1⟩ := hv; cases h1; done)
            | (obtain ⟨_, _, _, h1, _⟩ := hv; cases h1; done) | (obtain ⟨_, _, h1, _⟩ := hv; cases h1; done)
            | (simp [typeHandle] at hv; done)
        have hyn : yielded ops rt j = none := by
          rw [hy]
          split
          · rename_i c hc; exact absurd hc (hnb c)
          · rfl
        rw [hyn]; rfl
end Go.DM
set_option autoImplicit false
set_option linter.unusedVariables false
set_option linter.unusedSimpArgs false
namespace Go.DM
open Go.RowKit
variable {P : Program} {φ ψ φ' : Emb} {w0 w w' : World} {h h' : HS}
variable {β : Nat → Option Nat} {nt : Nat} {ops : Array Oper} {p : List PItem} {r : List Nat} {t : T DV} {rt : Array Value} {susp : Bool}

theorem runs_cons {i : Nat} : runs (.run i :: p) = i :: runs p := rfl
theorem runs_cons_chk {i : Nat} : runs (.chk i :: p) = runs p := rfl
theorem done_tail {i : Nat} (K : PlanOk ops (.run i :: p)) (hd : ∀ q, q < ops.size → q ∉ runs (.run i :: p) → ∀ j, bit (Region.before ops) q j = true → j ∉ runs (.run i :: p)) :
    ∀ q, q < ops.size → q ∉ runs p → ∀ j, bit (Region.before ops) q j = true → j ∉ runs p := by
  intro q hq hn j hj hm
  by_cases hqi : q = i
  · subst hqi
    exact K.pre [] q p rfl j hj hm
  · exact hd q hq (by rw [runs_cons]; simp [hqi, hn]) j hj (by rw [runs_cons]; simp [hm])
/-- the abstract machine does a quiet operation: what comes of it stands already -/
theorem DrawR.quietly {i : Nat} {o : Oper} {v : DV} {β' : Nat → Option Nat} (D : DrawR P φ h β nt ops (.run i :: p) r t rt susp) (ho : ops[i]? = some o) (hq : isEffect o.op = false)
    (hE : Ext h h') (hnx : h.next ≤ h'.next) (hg : ∀ c, c < h.next → h'.heap.get c = h.heap.get c)
    (hβ : ∀ q, q ≠ i → β' q = β q) (hinj : ∀ q q' b, β' q = some b → β' q' = some b → q = q') (hlow : ∀ q b, β' q = some b → b < h'.next)
    (hi : Pend P φ h' nt ops p (putT nt t o.dst v) susp i (β' i) o) : DrawR P φ h' β' nt ops p r (putT nt t o.dst v) rt susp := {
  reg := D.reg
  plan := D.plan.tail
  lin := D.lin
  all j hj := D.all j (by rw [runs_cons]; simp [hj])
  eff e he hee := by
    have := D.eff e he hee
    rw [runs_cons] at this
    rcases List.mem_cons.1 this with rfl | h1
    · rw [opAt_some ho, hq] at hee; cases hee
    · exact h1
  done := done_tail D.plan D.done
  tmps k hk := by
    have hir : i ∈ r := D.all i (by rw [runs_cons]; simp)
    have hin : i ∉ runs p := by
      have := D.plan.nodup
      rw [runs_cons, List.nodup_cons] at this
      exact this.1
    have hne : o.dst ≠ some k := fun e => hk i hir hin (by rw [dstOf_some ho, e])
    rw [getT_putT_ne hne]
    exact D.tmps k fun j hj hn => hk j hj fun hm => hn (by rw [runs_cons]; simp [hm])
  size := D.size
  inj := hinj
  low := hlow
  pend q oq hqr hqn hoq := by
    by_cases hqi : q = i
    · subst hqi
      rw [ho] at hoq
      simp only [Option.some.injEq] at hoq
      subst hoq
      exact hi
    · have hqn' : q ∉ runs (.run i :: p) := by rw [runs_cons]; simp [hqi, hqn]
      have hap := D.apart ho hoq (by rw [runs_cons]; simp) hqn' (fun e => by rw [hq] at e; cases e)
      have hds := D.dsts ho hoq hqi
      have hsame : ∀ k, k ∈ namesOf ops oq → getT (putT nt t o.dst v) (bits k) = getT t (bits k) := fun k hk => getT_putT_ne (hap k hk)
      have hex : ∀ h2, exec P (putT nt t o.dst v) h2 oq.op = exec P t h2 oq.op := fun h2 => exec_names (fun k hk => hsame k (opNames_sub hk)) h2
      have hqq : isEffect oq.op = false := by
        cases he : isEffect oq.op with
        | false => rfl
        | true => exact absurd (D.eff q hqr (by rw [opAt_some hoq]; exact he)) hqn'
      rcases D.pend q oq hqr hqn' hoq with ⟨h1, h2⟩ | ⟨h1, u, h2, h3⟩
      · exact .inl ⟨by rw [wanted_same hsame]; exact h1, h2.other hds⟩
      · refine .inr ⟨by rw [wanted_same hsame]; exact h1, u, h2.other hds, ?_⟩
        cases h3 with
        | still a => exact .still fun h2 => by rw [hex]; exact a h2
        | new obj v0 b i' a e hb hgb hn hf =>
          exact .new obj v0 b i' (fun h2 => by rw [hex]; exact a h2) e (by rw [hβ q hqi]; exact hb) (by rw [hg b hn]; exact hgb) (by omega) hf
        | read rr o' now =>
          refine .read rr (by obtain ⟨h1', e⟩ := o'; exact ⟨h1', by rw [hex]; exact e⟩) ?_
          rcases now with hs | hc | hx
          · exact .inl hs
          · simp [chks] at hc
          · exact .inr (.inr (by rw [hex]; exact read_ext hE hqq rr hx)) }
theorem Ext.refl (h : HS) : Ext h h := fun _ _ e => e
/-- the abstract machine passes by an operation that is not wanted -/
theorem DrawR.pass {i : Nat} {o : Oper} (D : DrawR P φ h β nt ops (.run i :: p) r t rt susp) (ho : ops[i]? = some o) (hq : isEffect o.op = false) (hw : wantedD o.guard ops t = .no) :
    DrawR P φ h β nt ops p r (putT nt t o.dst undefD) rt susp := by
  have hself : ∀ k, k ∈ namesOf ops o → o.dst ≠ some k := by
    intro k hk hd
    have := (D.reg.names i i o o k ho ho hd hk).1 (by rw [opAt_some ho]; exact hq)
    exact absurd (bit_lt D.reg.edges i this) (by omega)
  exact D.quietly ho hq (Ext.refl h) (Nat.le_refl _) (fun _ _ => rfl) (fun _ _ => rfl) D.inj D.low (.inl ⟨by rw [wanted_same fun k hk => getT_putT_ne (hself k hk)]; exact hw, Stands.putT⟩)
theorem getO_get (h : HS) (b : Nat) : getO h b = h.heap.get b := by cases h; rfl
/-- the abstract machine does a quiet operation -/
theorem DrawR.run {i : Nat} {o : Oper} {v : DV} (H : HR P w0 φ h w) (D : DrawR P φ h β nt ops (.run i :: p) r t rt susp) (ho : ops[i]? = some o) (hq : isEffect o.op = false) (hw : wantedD o.guard ops t = .yes)
    (he : exec P t h o.op = .val v h') : ∃ β', DrawR P φ h' β' nt ops p r (putT nt t o.dst v) rt susp ∧ HR P w0 φ h' w ∧ h.next ≤ h'.next ∧ (∀ c, c < h.next → h'.heap.get c = h.heap.get c) ∧
      ∀ q b, β' q = some b → β q = some b ∨ h.next ≤ b := by
  have hself : ∀ k, k ∈ namesOf ops o → o.dst ≠ some k := by
    intro k hk hd
    have := (D.reg.names i i o o k ho ho hd hk).1 (by rw [opAt_some ho]; exact hq)
    exact absurd (bit_lt D.reg.edges i this) (by omega)
  have hsame : ∀ k, k ∈ namesOf ops o → getT (putT nt t o.dst v) (bits k) = getT t (bits k) := fun k hk => getT_putT_ne (hself k hk)
  have hex : ∀ h2, exec P (putT nt t o.dst v) h2 o.op = exec P t h2 o.op := fun h2 => exec_names (fun k hk => hsame k (opNames_sub hk)) h2
  have hw' : wantedD o.guard ops (putT nt t o.dst v) = .yes := by rw [wanted_same hsame]; exact hw
  cases exec_class hq he with
  | still e a =>
    subst e
    exact ⟨β, D.quietly ho hq (Ext.refl _) (Nat.le_refl _) (fun _ _ => rfl) (fun _ _ => rfl) D.inj D.low (.inr ⟨hw', v, Stands.putT, .still fun h2 => by rw [hex]; exact a h2⟩), H, Nat.le_refl _, fun _ _ => rfl, fun q b e => .inl e⟩
  | read rr e =>
    subst e
    exact ⟨β, D.quietly ho hq (Ext.refl _) (Nat.le_refl _) (fun _ _ => rfl) (fun _ _ => rfl) D.inj D.low (.inr ⟨hw', v, Stands.putT, .read rr ⟨_, by rw [hex]; exact he⟩ (.inr (.inr (by rw [hex]; exact he)))⟩), H, Nat.le_refl _, fun _ _ => rfl, fun q b e => .inl e⟩
  | new obj v0 k i0 a =>
    have hnew := (a h).symm.trans he
    obtain ⟨heap, next, g⟩ := h
    simp only [newObj, Out.val.injEq] at hnew
    obtain ⟨rfl, rfl⟩ := hnew
    have hfr : heap.get next = none := H.fresh next (Nat.le_refl _)
    have hget : ∀ c, c < next → (heap.set next obj).get c = heap.get c := fun c hc => by rw [T.get_set, if_neg (by omega)]
    refine ⟨fun q => if q = i then some next else β q, D.quietly ho hq (fun b o e => ?_) (by simp [HS.next]) hget (fun q hqi => by simp [hqi]) (fun q q' b e1 e2 => ?_) (fun q b e => ?_) (.inr ⟨hw', _, Stands.putT, .new obj v0 next i0 (fun h2 => by rw [hex]; exact a h2) rfl (by simp) (fun o e => by simp only [HS.heap, T.get_set, if_true, Option.some.injEq] at e; exact e ▸ .refl _) (by simp [HS.next]) H.nextNone⟩),
      H.newD obj k, by simp [HS.next], hget, fun q b e => ?_⟩
    · rw [getO_get] at e ⊢
      simp only [HS.heap] at e ⊢
      rw [T.get_set, if_neg (fun hb => by rw [hb, hfr] at e; cases e)]
      exact e
    · by_cases h1 : q = i
      · by_cases h2 : q' = i
        · rw [h1, h2]
        · rw [if_pos h1] at e1; rw [if_neg h2] at e2
          simp only [Option.some.injEq] at e1
          have := D.low q' b e2
          simp only [HS.next] at this
          omega
      · rw [if_neg h1] at e1
        by_cases h2 : q' = i
        · rw [if_pos h2] at e2
          simp only [Option.some.injEq] at e2
          have := D.low q b e1
          simp only [HS.next] at this
          omega
        · rw [if_neg h2] at e2
          exact D.inj q q' b e1 e2
    · simp only [HS.next]
      by_cases h1 : q = i
      · rw [if_pos h1] at e; simp only [Option.some.injEq] at e; omega
      · rw [if_neg h1] at e
        have := D.low q b e
        simp only [HS.next] at this
        omega
    · simp only at e
      by_cases h1 : q = i
      · rw [if_pos h1] at e; simp only [Option.some.injEq] at e; exact .inr (by simp [HS.next]; omega)
      · rw [if_neg h1] at e; exact .inl e
/-- a reading is held against what stands -/
theorem DrawR.check {i : Nat} {o : Oper} (D : DrawR P φ h β nt ops (.chk i :: p) r t rt susp) (ho : ops[i]? = some o)
    (hw : wantedD o.guard ops t = .no ∨ ∃ v h' d, exec P t h o.op = .val v h' ∧ o.dst = some d ∧ DV.beq v (getT t (bits d)) = true) : DrawR P φ h β nt ops p r t rt susp := {
  reg := D.reg
  plan := D.plan.tail
  lin := D.lin
  all := D.all
  eff := D.eff
  done := D.done
  tmps := D.tmps
  size := D.size
  inj := D.inj
  low := D.low
  pend q oq hqr hqn hoq := by
    rcases D.pend q oq hqr hqn hoq with h1 | ⟨h1, u, h2, h3⟩
    · exact .inl h1
    · refine .inr ⟨h1, u, h2, ?_⟩
      cases h3 with
      | still a => exact .still a
      | new obj v0 b i' a e hb hgb hn hf => exact .new obj v0 b i' a e hb hgb hn hf
      | read rr o' now =>
        refine .read rr o' ?_
        rcases now with hs | hc | hx
        · exact .inl hs
        · simp only [chks, List.mem_cons] at hc
          rcases hc with hqi | hc
          · subst hqi
            rw [ho] at hoq
            simp only [Option.some.injEq] at hoq
            subst hoq
            rcases hw with hw | ⟨v, h', d, e1, e2, e3⟩
            · rw [h1] at hw; cases hw
            · have hu := h2 d e2
              have hd : d < nt := by
                by_cases hd : d < nt
                · exact hd
                · rw [if_neg hd] at hu
                  rw [hu] at e3
                  cases v <;> simp [DV.beq] at e3
              rw [if_pos hd] at hu
              have hvu := beq_eq _ _ e3
              rw [hu] at hvu
              subst hvu
              have hq : isEffect o.op = false := by
                cases he : isEffect o.op with
                | false => rfl
                | true => exact absurd (D.eff q hqr (by rw [opAt_some ho]; exact he)) hqn
              cases exec_class hq e1 with
              | still e a => exact .inr (.inr (a h))
              | new obj v0 k i0 a =>
                obtain ⟨h2', e⟩ := o'
                rw [a h2'] at e
                exact (new_ne e).elim
              | read _ e => subst e; exact .inr (.inr e1)
          · exact .inr (.inl hc)
        · exact .inr (.inr hx) }
/-- where the abstract machine has come to an effect, the machine has that effect ahead, or something that stands already -/
theorem DrawR.head {e x : Nat} {r' : List Nat} (D : DrawR P φ h β nt ops (.run e :: p) r t rt susp) (hr : r = x :: r') (he : isEffect (opAt ops e) = true) : x = e ∨ (isEffect (opAt ops x) = false ∧ x ∉ runs (.run e :: p)) := by
  have hxl := D.lt (i := x) (by rw [hr]; simp)
  have her : e ∈ r := D.all e (by rw [runs_cons]; simp)
  have hel := D.lt her
  by_cases hxe : x = e
  · exact .inl hxe
  refine .inr ?_
  cases hx : isEffect (opAt ops x) with
  | true =>
    exfalso
    have hxp := D.eff x (by rw [hr]; simp) hx
    rcases Nat.lt_trichotomy x e with hlt | heq | hlt
    · have hb := D.reg.chain x e hxl hel hx he hlt
      rw [runs_cons] at hxp
      rcases List.mem_cons.1 hxp with h1 | h1
      · exact hxe h1
      · exact D.plan.pre [] e p rfl x hb h1
    · exact hxe heq
    · have hb := D.reg.chain e x hel hxl he hx hlt
      exact D.gone (b := []) (c := r') hr hb (hr ▸ her)
  | false =>
    refine ⟨rfl, fun hm => ?_⟩
    rw [runs_cons] at hm
    rcases List.mem_cons.1 hm with h1 | h1
    · exact hxe h1
    · obtain ⟨e', h2, h3, h4⟩ := D.plan.quiet [] e p rfl he x h1 hx
      have : e' ∈ runs (.run e :: p) := by
        rw [runs_cons]
        rcases h3 with rfl | h3
        · simp
        · simp [h3]
      exact D.gone (b := []) (c := r') hr h4 (hr ▸ D.all e' this)
theorem Lin.shift {a : List Nat} {x : Nat} {r' : List Nat} (L : Lin ops (a ++ x :: r')) : ∃ a', Lin ops (a' ++ r') := ⟨a ++ [x], by simpa using L⟩
/-- the machine does what stands already -/
theorem DrawR.catch {q : Nat} {r' : List Nat} {o : Oper} (H : HR P w0 φ h w) (D : DrawR P φ h β nt ops p (q :: r') t rt false) (hc : chks p = []) (hqp : q ∉ runs p) (ho : ops[q]? = some o) :
    (Region.wanted o (yielded ops rt) = false ∧ DrawR P φ h β nt ops p r' t (setR rt o.dst undef) false) ∨
    (Region.wanted o (yielded ops rt) = true ∧ ∃ x nx φ' w', (execOp (evalR rt) o).run P w = .ok nx w' ∧ (nx = .value x ∨ (nx = .skip ∧ x = undef)) ∧ φ.le φ' ∧ HR P w0 φ' h w' ∧
      DrawR P φ' h β nt ops p r' t (setR rt o.dst x) false ∧ ∀ c, φ c = none → φ' c = none ∨ β q = some c) := by
  have hqq : isEffect o.op = false := by
    cases he : isEffect o.op with
    | false => rfl
    | true => exact absurd (D.eff q (by simp) (by rw [opAt_some ho]; exact he)) hqp
  have hrel := D.ops_rel rfl ho
  have hwr := wanted_rel (o := o) (ops := ops) (t := t) (rt := rt) (φ := φ) (P := P) fun k hk => D.names_rel rfl ho hk
  have hnd := D.nodup
  have hqr : q ∉ r' := (List.nodup_cons.1 hnd).1
  have main : ∀ (φ' : Emb) (v : DV) (x : Value), φ.le φ' → (∀ q' b, q' ∈ r' → β q' = some b → φ b = none → φ' b = none) → Stands nt t o.dst v → VR P φ' v x → DrawR P φ' h β nt ops p r' t (setR rt o.dst x) false := by
    intro φ' v x hle hb hs hv
    refine { reg := D.reg, plan := D.plan, lin := D.lin.elim fun a L => L.shift, all := fun i hi => ?_, eff := fun e he => D.eff e (by simp [he]), done := D.done, tmps := fun k hk => ?_, size := by rw [setR_size]; exact D.size, inj := D.inj, low := D.low, pend := fun q' oq hqr' hqn hoq => ?_ }
    · rcases List.mem_cons.1 (D.all i hi) with rfl | h1
      · exact absurd hi hqp
      · exact h1
    · by_cases hd : o.dst = some k
      · exact hs.rel D.size hv hd
      · rw [setR_getD hd]
        refine VR.mono hle _ _ (D.tmps k fun i hi hn => ?_)
        rcases List.mem_cons.1 hi with rfl | h1
        · rw [dstOf_some ho]; exact hd
        · exact hk i h1 hn
    · rcases D.pend q' oq (by simp [hqr']) hqn hoq with h1 | ⟨h1, u, h2, h3⟩
      · exact .inl h1
      · refine .inr ⟨h1, u, h2, ?_⟩
        cases h3 with
        | still a => exact .still a
        | new obj v0 b i' a e hb' hgb hn hf => exact .new obj v0 b i' a e hb' hgb hn (hb q' b hqr' hb' hf)
        | read rr o' now => exact .read rr o' now
  rcases D.pend q o (by simp) hqp ho with ⟨h1, h2⟩ | ⟨h1, v, h2, h3⟩
  · exact .inl ⟨hwr.2 h1, main φ undefD undef (Emb.le_refl φ) (fun _ _ _ _ e => e) h2 ⟨#[], rfl, rfl⟩⟩
  · refine .inr ⟨hwr.1 h1, ?_⟩
    have hval : ∀ v', exec P t h o.op = .val v' h → v' = v → ∃ x nx φ' w', (execOp (evalR rt) o).run P w = .ok nx w' ∧ (nx = .value x ∨ (nx = .skip ∧ x = undef)) ∧ φ.le φ' ∧ HR P w0 φ' h w' ∧
        DrawR P φ' h β nt ops p r' t (setR rt o.dst x) false ∧ ∀ c, φ c = none → φ' c = none ∨ β q = some c := by
      rintro v' e rfl
      have hx := exec_sim (o := o) H hrel
      rw [e] at hx
      obtain ⟨φ', w', nx, x, k1, k2, k3, k4, k5, k6⟩ := hx
      have hnone : ∀ c, φ c = none → φ' c = none := by
        intro c hcn
        by_cases hlt : c < h.next
        · exact (k6.2 c hlt hcn).2
        · cases hh : φ' c with
          | none => rfl
          | some y => exact absurd (k4.dom c y.1 y.2 hh).1 hlt
      exact ⟨x, nx, φ', w', k1, k2, k3, k4, main φ' v' x k3 (fun _ b _ _ e => hnone b e) h2 k5, fun c e => .inl (hnone c e)⟩
    cases h3 with
    | still a => exact hval v (a h) rfl
    | new obj v0 b i' a e hb hgb hn hf =>
      subst e
      obtain ⟨φ', w', x, k1, k2, k3, k4, k5⟩ := exec_bind H hrel hqq i' a hgb hn hf
      refine ⟨x, _, φ', w', k1, .inl rfl, k2, k3, main φ' _ x k2 (fun q' b' hq' hb' hf' => k5 b' hf' fun e => ?_) h2 k4, fun c e => ?_⟩
      · subst e
        exact hqr (D.inj q' q _ hb' hb ▸ hq')
      · by_cases hcb : c = b
        · subst hcb; exact .inr hb
        · exact .inl (k5 c e hcb)
    | read rr o' now =>
      rcases now with hs | hcc | hx
      · cases hs
      · rw [hc] at hcc; simp at hcc
      · exact hval v hx rfl
/-- both have done an effect -/
theorem DrawR.finish {e : Nat} {r' : List Nat} {o : Oper} {v : DV} {x : Value} (D : DrawR P φ h β nt ops (.run e :: p) (e :: r') t rt susp) (ho : ops[e]? = some o) (he : isEffect o.op = true) (hl : φ.le φ')
    (hk : ∀ q b, β q = some b → b < h.next → φ b = none → h'.heap.get b = h.heap.get b ∧ φ' b = none) (hn : h.next ≤ h'.next) (hv : VR P φ' v x) (hsz : rt.size = rt.size) :
    DrawR P φ' h' β nt ops p r' (putT nt t o.dst v) (setR rt o.dst x) false := by
  have hnd := D.nodup
  have her : e ∉ r' := (List.nodup_cons.1 hnd).1
  have heo : isEffect (opAt ops e) = true := by rw [opAt_some ho]; exact he
  refine { reg := D.reg, plan := D.plan.tail, lin := D.lin.elim fun a L => L.shift, all := fun i hi => ?_, eff := fun e' he' hee => ?_, done := done_tail D.plan D.done, tmps := fun k hk' => ?_, size := by rw [setR_size]; exact D.size, inj := D.inj, low := fun q b hb => Nat.lt_of_lt_of_le (D.low q b hb) hn, pend := fun q oq hqr hqn hoq => ?_ }
  · rcases List.mem_cons.1 (D.all i (by rw [runs_cons]; simp [hi])) with rfl | h1
    · have := D.plan.nodup
      rw [runs_cons, List.nodup_cons] at this
      exact absurd hi this.1
    · exact h1
  · have := D.eff e' (by simp [he']) hee
    rw [runs_cons] at this
    rcases List.mem_cons.1 this with rfl | h1
    · exact absurd he' her
    · exact h1
  · by_cases hd : o.dst = some k
    · exact Stands.putT.rel D.size hv hd
    · rw [setR_getD hd, getT_putT_ne hd]
      refine VR.mono hl _ _ (D.tmps k fun i hi hn' => ?_)
      rcases List.mem_cons.1 hi with rfl | h1
      · exact absurd (by rw [runs_cons]; simp) hn'
      · exact hk' i h1 fun hm => hn' (by rw [runs_cons]; simp [hm])
  · have hqe : q ≠ e := fun hh => her (hh ▸ hqr)
    have hqn' : q ∉ runs (.run e :: p) := by rw [runs_cons]; simp [hqe, hqn]
    have hqq : isEffect oq.op = false := by
      cases hh : isEffect oq.op with
      | false => rfl
      | true => exact absurd (D.eff q (by simp [hqr]) (by rw [opAt_some hoq]; exact hh)) hqn'
    have hbit : bit (Region.before ops) e q = false := by
      cases hh : bit (Region.before ops) e q with
      | false => rfl
      | true => exact absurd (by simp [hqr]) (D.gone (b := []) (c := r') rfl hh)
    have hap := D.apart ho hoq (by rw [runs_cons]; simp) hqn' fun _ => ⟨hqq, hbit⟩
    have hds := D.dsts ho hoq hqe
    have hsame : ∀ k, k ∈ namesOf ops oq → getT (putT nt t o.dst v) (bits k) = getT t (bits k) := fun k hk => getT_putT_ne (hap k hk)
    have hex : ∀ h2, exec P (putT nt t o.dst v) h2 oq.op = exec P t h2 oq.op := fun h2 => exec_names (fun k hk => hsame k (opNames_sub hk)) h2
    rcases D.pend q oq (by simp [hqr]) hqn' hoq with ⟨h1, h2⟩ | ⟨h1, u, h2, h3⟩
    · exact .inl ⟨by rw [wanted_same hsame]; exact h1, h2.other hds⟩
    · refine .inr ⟨by rw [wanted_same hsame]; exact h1, u, h2.other hds, ?_⟩
      cases h3 with
      | still a => exact .still fun h2 => by rw [hex]; exact a h2
      | new obj v0 b i' a e' hb hgb hn' hf =>
        obtain ⟨g1, g2⟩ := hk q b hb hn' hf
        exact .new obj v0 b i' (fun h2 => by rw [hex]; exact a h2) e' hb (by rw [g1]; exact hgb) (by omega) g2
      | read rr o' now =>
        refine .read rr (by obtain ⟨h1', e⟩ := o'; exact ⟨h1', by rw [hex]; exact e⟩) (.inr (.inl ?_))
        exact D.plan.chk [] e p rfl heo q (D.lt (by simp [hqr])) (by rw [opAt_some hoq]; exact hqq) hqn (by rw [opAt_some hoq]; exact rr) hbit
/-- a suspended region, under whatever goes on above it -/
theorem DrawR.under (D : DrawR P φ h β nt ops p r t rt susp) (hl : φ.le φ') (hk : ∀ q b, β q = some b → b < h.next → φ b = none → h'.heap.get b = h.heap.get b ∧ φ' b = none) (hn : h.next ≤ h'.next) :
    DrawR P φ' h' β nt ops p r t rt true := {
  reg := D.reg
  plan := D.plan
  lin := D.lin
  all := D.all
  eff := D.eff
  done := D.done
  tmps k hk' := VR.mono hl _ _ (D.tmps k hk')
  size := D.size
  inj := D.inj
  low q b hb := Nat.lt_of_lt_of_le (D.low q b hb) hn
  pend q oq hqr hqn hoq := by
    rcases D.pend q oq hqr hqn hoq with h1 | ⟨h1, u, h2, h3⟩
    · exact .inl h1
    · refine .inr ⟨h1, u, h2, ?_⟩
      cases h3 with
      | still a => exact .still a
      | new obj v0 b i' a e hb hgb hn' hf =>
        obtain ⟨g1, g2⟩ := hk q b hb hn' hf
        exact .new obj v0 b i' a e hb (by rw [g1]; exact hgb) (by omega) g2
      | read rr o' now => exact .read rr o' (.inl rfl) }
theorem DrawR.init (hp : planOf ops = some p) (L : Lin ops r) (ht : TR P φ t rt) (hs : nt ≤ rt.size) : DrawR P φ h (fun _ => none) nt ops p r t rt false := by
  obtain ⟨h1, h2, h3⟩ := planOf_spec hp
  exact { reg := h1, plan := h2, lin := ⟨[], L⟩, all := fun i hi => (L.all i).2 (h2.size i hi), eff := fun e he _ => h3 e ((L.all e).1 he), done := fun q hq hn => absurd (h3 q hq) hn,
          tmps := fun k _ => ht k, size := hs, inj := fun q q' b e => (by cases e), low := fun q b e => (by cases e), pend := fun q o hq hn ho => absurd (h3 q ((L.all q).1 hq)) hn }
theorem DrawR.close (D : DrawR P φ h β nt ops p [] t rt susp) : TR P φ t rt := fun k => D.tmps k fun i hi => by simp at hi
end Go.DM
set_option autoImplicit false
set_option linter.unusedVariables false
set_option linter.unusedSimpArgs false
namespace Go.DM
open Go.RowKit
variable {P : Program} {φ ψ φ' : Emb} {w0 w w' : World} {h h' : HS}

/-! ### frames -/
inductive ITR (φ : Emb) : List DItem → List Item → Prop
  | nil : ITR φ [] []
  | code {k rk} (c : Code) (t : ITR φ k rk) : ITR φ (.code c :: k) (.code c :: rk)
  | inBlock {k rk} (id : Nat) (t : ITR φ k rk) : ITR φ (.inBlock id :: k) (.inBlock id :: rk)
  | inLoop {k rk} (c : Code) (t : ITR φ k rk) : ITR φ (.inLoop c :: k) (.inLoop c :: rk)
  | inScope {k rk} (c : Code) (t : ITR φ k rk) : ITR φ (.inScope c :: k) (.inScope c :: rk)
  | reg {k rk} (ops : Array Oper) (n : Nat) (t : ITR φ k rk) : ITR φ (.inReg ops (ops.toList.drop n) :: k) (.inRegion ops ((List.range ops.size).drop n) :: rk)
  | inRangeFunc {k rk} (l rl : Nat) (e : φ l = some (rl, 0)) (t : ITR φ k rk) : ITR φ (.inRangeFunc l :: k) (.inRangeFunc rl :: rk)
  | endRangeFunc {k rk} (l rl : Nat) (e : φ l = some (rl, 0)) (t : ITR φ k rk) : ITR φ (.endRangeFunc l :: k) (.endRangeFunc rl :: rk)
  | beginRound {k rk} (t : ITR φ k rk) : ITR φ (.beginRound :: k) (.beginRound :: rk)
inductive DefsR (P : Program) (φ : Emb) : List DDef → List Deferred → Prop
  | nil : DefsR P φ [] []
  | cons {d r ds rs} (e : DefR P φ d r) (t : DefsR P φ ds rs) : DefsR P φ (d :: ds) (r :: rs)
inductive ChainR (P : Program) (φ : Emb) : List (DV × Bool) → List PanicEntry → Prop
  | nil : ChainR P φ [] []
  | cons {v x b c rc} (e : VR P φ v x) (t : ChainR P φ c rc) : ChainR P φ ((v, b) :: c) ({ v := x, recovered := b } :: rc)
inductive RoR (φ : Emb) : Option Nat → Option Nat → Prop
  | none : RoR φ none none
  | some {l rl} (e : φ l = some (rl, 0)) : RoR φ (some l) (some rl)
inductive ModeR (P : Program) (φ : Emb) : DMode → FrameMode → Prop
  | returning : ModeR P φ .returning .returning
  | panicking {c rc} (e : ChainR P φ c rc) : ModeR P φ (.panicking c) (.panicking rc)
def NoCall (k : List Item) : Prop := ∀ d wr re sa k', k ≠ .call d wr re sa :: k'
/-- a frame; susp: an operation of its is under way -/
inductive FR (P : Program) (φ : Emb) (h : HS) (B : Nat → Prop) (susp : Bool) : DF → Frame → Prop
  | run {fn t todo defers kind ro rt rtodo rdefers rro} (ht : TR P φ t rt) (hs : ntOf P fn ≤ rt.size) (hi : ITR φ todo rtodo) (hd : DefsR P φ defers rdefers) (hr : RoR φ ro rro) :
      FR P φ h B susp (.mk fn t todo defers .run kind ro) ⟨fn, rt, rtodo, rdefers, .run, kind, rro⟩
  | draw {fn t ops p k defers kind ro rt r rk rdefers rro β} (hβ : ∀ q b, β q = some b → B b) (D : DrawR P φ h β (ntOf P fn) ops p r t rt susp)
      (hsu : susp = true → ∃ e p' r' o, p = .run e :: p' ∧ r = e :: r' ∧ ops[e]? = some o ∧ isEffect o.op = true) (hi : ITR φ k rk) (hd : DefsR P φ defers rdefers) (hr : RoR φ ro rro) :
      FR P φ h B susp (.mk fn t (.inDraw ops p :: k) defers .run kind ro) ⟨fn, rt, .inRegion ops r :: rk, rdefers, .run, kind, rro⟩
  | off {fn t todo defers mode rmode kind ro rt rtodo rdefers rro} (ht : TR P φ t rt) (hs : ntOf P fn ≤ rt.size) (hm : ModeR P φ mode rmode) (hc : NoCall rtodo) (hd : DefsR P φ defers rdefers) (hr : RoR φ ro rro) :
      FR P φ h B susp (.mk fn t todo defers mode kind ro) ⟨fn, rt, rtodo, rdefers, rmode, kind, rro⟩
inductive CR (P : Program) (φ : Emb) (h : HS) (base : List Frame) : (Nat → Prop) → List DF → List Frame → Prop
  | nil : CR P φ h base (fun _ => False) [] base
  | cons {B1 B2 d f ds fs} (F : FR P φ h B1 true d f) (C : CR P φ h base B2 ds fs) (hB : ∀ b, B1 b → ¬ B2 b) : CR P φ h base (fun b => B1 b ∨ B2 b) (d :: ds) (f :: fs)
/-- the two machines -/
def SR (P : Program) (w0 : World) (base : List Frame) (s : DS) (fr : Frame) (cs : List Frame) (w : World) : Prop :=
  ∃ df dfs h φ B1 B2, s = .mk (df :: dfs) h ∧ HR P w0 φ h w ∧ FR P φ h B1 false df fr ∧ CR P φ h base B2 dfs cs ∧ (∀ b, B1 b → ¬ B2 b) ∧ ∀ b, B1 b ∨ B2 b → b < h.next
/-- what the frames beneath hold back is as it was -/
def Keeps (B : Nat → Prop) (φ φ' : Emb) (h h' : HS) : Prop := h.next ≤ h'.next ∧ ∀ c, B c → c < h.next → φ c = none → h'.heap.get c = h.heap.get c ∧ φ' c = none
theorem Kept.keeps {B : Nat → Prop} (k : Kept φ φ' h h') : Keeps B φ φ' h h' := ⟨k.1, fun c _ hc hn => k.2 c hc hn⟩
theorem Keeps.refl (B : Nat → Prop) (φ : Emb) (h : HS) : Keeps B φ φ h h := ⟨Nat.le_refl _, fun _ _ _ e => ⟨rfl, e⟩⟩

theorem ITR.mono (hl : φ.le ψ) {k : List DItem} {rk : List Item} (e : ITR φ k rk) : ITR ψ k rk := by
  induction e with
  | nil => exact .nil
  | code c _ ih => exact .code c ih
  | inBlock id _ ih => exact .inBlock id ih
  | inLoop c _ ih => exact .inLoop c ih
  | inScope c _ ih => exact .inScope c ih
  | reg ops n _ ih => exact .reg ops n ih
  | inRangeFunc l rl e _ ih => exact .inRangeFunc l rl (hl.1 _ _ e) ih
  | endRangeFunc l rl e _ ih => exact .endRangeFunc l rl (hl.1 _ _ e) ih
  | beginRound _ ih => exact .beginRound ih
theorem ITR.noCall {k : List DItem} {rk : List Item} (e : ITR φ k rk) : NoCall rk := by
  intro d wr re sa k' hh
  subst hh
  cases e
theorem DefR.mono (hl : φ.le ψ) {d : DDef} {r : Deferred} (e : DefR P φ d r) : DefR P ψ d r := by
  cases d with
  | call f args =>
    obtain ⟨fn, first, cap, args', h1, h2, h3⟩ := e
    exact ⟨fn, first, cap, args', VR.mono hl _ _ h1, VRL.mono hl _ _ h2, h3⟩
  | collected r =>
    obtain ⟨rr, h1, h2⟩ := e
    exact ⟨rr, hl.1 _ _ h1, h2⟩
theorem DefsR.mono (hl : φ.le ψ) {d : List DDef} {r : List Deferred} (e : DefsR P φ d r) : DefsR P ψ d r := by
  induction e with
  | nil => exact .nil
  | cons e _ ih => exact .cons (e.mono hl) ih
theorem ChainR.mono (hl : φ.le ψ) {c : List (DV × Bool)} {rc : List PanicEntry} (e : ChainR P φ c rc) : ChainR P ψ c rc := by
  induction e with
  | nil => exact .nil
  | cons e _ ih => exact .cons (VR.mono hl _ _ e) ih
theorem ChainR.append {c d : List (DV × Bool)} {rc rd : List PanicEntry} (e : ChainR P φ c rc) (f : ChainR P φ d rd) : ChainR P φ (c ++ d) (rc ++ rd) := by
  induction e with
  | nil => exact f
  | cons e _ ih => exact .cons e ih
theorem RoR.mono (hl : φ.le ψ) {a b : Option Nat} (e : RoR φ a b) : RoR ψ a b := by
  cases e with
  | none => exact .none
  | some e => exact .some (hl.1 _ _ e)
theorem ModeR.mono (hl : φ.le ψ) {a : DMode} {b : FrameMode} (e : ModeR P φ a b) : ModeR P ψ a b := by
  cases e with
  | returning => exact .returning
  | panicking e => exact .panicking (e.mono hl)
theorem FR.under {B : Nat → Prop} {d : DF} {f : Frame} (F : FR P φ h B true d f) (hl : φ.le φ') (hk : Keeps B φ φ' h h') : FR P φ' h' B true d f := by
  cases F with
  | run ht hs hi hd hr => exact .run (ht.mono hl) hs (hi.mono hl) (hd.mono hl) (hr.mono hl)
  | draw hβ D hsu hi hd hr => exact .draw hβ (D.under hl (fun q b e hn hf => hk.2 b (hβ q b e) hn hf) hk.1) hsu (hi.mono hl) (hd.mono hl) (hr.mono hl)
  | off ht hs hm hc hd hr => exact .off (ht.mono hl) hs (hm.mono hl) hc (hd.mono hl) (hr.mono hl)
theorem CR.under {base : List Frame} {B : Nat → Prop} {ds : List DF} {fs : List Frame} (C : CR P φ h base B ds fs) (hl : φ.le φ') (hk : Keeps B φ φ' h h') : CR P φ' h' base B ds fs := by
  induction C with
  | nil => exact .nil
  | cons F C hB ih =>
    exact .cons (F.under hl ⟨hk.1, fun c hc => hk.2 c (.inl hc)⟩) (ih ⟨hk.1, fun c hc => hk.2 c (.inr hc)⟩) hB

/-! ### a frame behind what its operation has come to -/
def DF.mode : DF → DMode | .mk _ _ _ _ m _ _ => m
theorem drop_cons_ops {ops : Array Oper} {n : Nat} {o : Oper} {rest : List Oper} (e : ops.toList.drop n = o :: rest) :
    ops[n]? = some o ∧ rest = ops.toList.drop (n + 1) ∧ (List.range ops.size).drop n = n :: (List.range ops.size).drop (n + 1) := by
  have hn : n < ops.toList.length := by
    rcases Nat.lt_or_ge n ops.toList.length with hh | hh
    · exact hh
    · rw [List.drop_eq_nil_of_le hh] at e; cases e
  rw [List.drop_eq_getElem_cons hn] at e
  simp only [List.cons.injEq] at e
  have hn' : n < ops.size := by simpa using hn
  refine ⟨by rw [Array.getElem?_eq_getElem hn']; simpa using e.1, e.2.symm, ?_⟩
  rw [List.drop_eq_getElem_cons (by simpa using hn')]
  simp
theorem drop_nil_ops {ops : Array Oper} {n : Nat} (e : ops.toList.drop n = []) : (List.range ops.size).drop n = [] := by
  have := List.drop_eq_nil_iff.1 e
  exact List.drop_eq_nil_of_le (by simpa using this)
theorem TR.put {t : T DV} {rt : Array Value} {nt : Nat} {d : Option Tmp} {v : DV} {x : Value} (ht : TR P φ t rt) (hl : φ.le φ') (hs : nt ≤ rt.size) (hv : VR P φ' v x) : TR P φ' (putT nt t d v) (setR rt d x) := by
  intro k
  by_cases hd : d = some k
  · exact Stands.putT.rel hs hv hd
  · rw [getT_putT_ne hd, setR_getD hd]; exact VR.mono hl _ _ (ht k)
theorem FR.finish {B : Nat → Prop} {fn : FuncId} {t : T DV} {todo : List DItem} {defers : List DDef} {kind : CallKind} {ro : Option Nat} {f : Frame} {v : DV} {x : Value}
    (F : FR P φ h B true (.mk fn t todo defers .run kind ro) f) (hl : φ.le φ') (hk : Keeps B φ φ' h h') (hv : VR P φ' v x) : FR P φ' h' B false (DM.finish P (.mk fn t todo defers .run kind ro) v) (f.finish x) := by
  have F' := F.under hl hk
  cases F with
  | off ht hs hm hc hd hr => cases hm
  | run ht hs hi hd hr =>
    have ht' := ht.mono hl
    have hd' := hd.mono hl
    have hr' := hr.mono hl
    unfold DM.finish finishT
    cases hi with
    | nil => exact .run ht' hs .nil hd' hr'
    | code c k => exact .run ht' hs (.code c (k.mono hl)) hd' hr'
    | inBlock c k => exact .run ht' hs (.inBlock c (k.mono hl)) hd' hr'
    | inLoop c k => exact .run ht' hs (.inLoop c (k.mono hl)) hd' hr'
    | inScope c k => exact .run ht' hs (.inScope c (k.mono hl)) hd' hr'
    | endRangeFunc l rl e k => exact .run ht' hs (.endRangeFunc l rl (hl.1 _ _ e) (k.mono hl)) hd' hr'
    | beginRound k => exact .run ht' hs (k.mono hl) hd' hr'
    | inRangeFunc l rl e k => exact .run ht' hs (.endRangeFunc l rl (hl.1 _ _ e) (k.mono hl)) hd' hr'
    | reg ops n k =>
      simp only
      cases e : ops.toList.drop n with
      | nil =>
        simp only
        rw [drop_nil_ops e]
        have := ITR.reg (φ := φ') ops n (k.mono hl)
        rw [e, drop_nil_ops e] at this
        exact .run ht' hs this hd' hr'
      | cons o rest =>
        obtain ⟨h1, h2, h3⟩ := drop_cons_ops e
        simp only
        rw [h3, h2]
        have hf : ∀ (rdefers : List Deferred) (rro : Option Nat) (rt : Array Value) (rk : List Item), (⟨fn, rt, .inRegion ops (n :: (List.range ops.size).drop (n + 1)) :: rk, rdefers, .run, kind, rro⟩ : Frame).finish x =
            ⟨fn, setR rt o.dst x, .inRegion ops ((List.range ops.size).drop (n + 1)) :: rk, rdefers, .run, kind, rro⟩ := by
          intro _ _ _ _
          simp only [Frame.finish, h1, Option.bind_some]
          cases o.dst <;> rfl
        rw [hf]
        exact .run (ht.put hl hs hv) (by rw [setR_size]; exact hs) (.reg ops (n + 1) (k.mono hl)) hd' hr'
  | draw hβ D hsu hi hd hr =>
    obtain ⟨e, p', r', o, rfl, rfl, h1, h2⟩ := hsu rfl
    unfold DM.finish finishT
    simp only
    rename_i ops k rt rk rdefers rro β
    have hf : (⟨fn, rt, .inRegion ops (e :: r') :: rk, rdefers, .run, kind, rro⟩ : Frame).finish x = ⟨fn, setR rt o.dst x, .inRegion ops r' :: rk, rdefers, .run, kind, rro⟩ := by
      simp only [Frame.finish, h1, Option.bind_some]
      cases o.dst <;> rfl
    have hgd : (ops.getD e default).dst = o.dst := by rw [Array.getD_eq_getD_getElem?, h1]; rfl
    rw [hf, hgd]
    exact .draw hβ (D.finish h1 h2 hl (fun q b e hn hf => hk.2 b (hβ q b e) hn hf) hk.1 hv rfl) (fun e => by cases e) (hi.mono hl) (hd.mono hl) (hr.mono hl)

/-! ### a frame that a panic unwinds -/
theorem wipeT_get : ∀ (l : List Oper) (t : T DV) (k : Nat), (∀ o, o ∈ l → o.dst ≠ some k) → getT (wipeT l t) (bits k) = getT t (bits k)
  | [], _, _, _ => rfl
  | o :: os, t, k, hn => by
    simp only [wipeT]
    cases hd : o.dst with
    | none => simp only; exact wipeT_get os t k fun o' ho => hn o' (by simp [ho])
    | some d =>
      simp only
      rw [wipeT_get os _ k fun o' ho => hn o' (by simp [ho]), getT_putB, if_neg (fun e => hn o (by simp) (by rw [hd, e]))]
theorem wipeT_bad : ∀ (l : List Oper) (t : T DV) (k : Nat), (getT t (bits k) = .bad ∨ ∃ o, o ∈ l ∧ o.dst = some k) → getT (wipeT l t) (bits k) = .bad
  | [], t, k, hb => by
    rcases hb with hb | ⟨o, ho, _⟩
    · exact hb
    · cases ho
  | o :: os, t, k, hb => by
    simp only [wipeT]
    cases hd : o.dst with
    | none =>
      simp only
      refine wipeT_bad os t k ?_
      rcases hb with hb | ⟨o', ho, hk⟩
      · exact .inl hb
      · rcases List.mem_cons.1 ho with rfl | ho
        · rw [hd] at hk; cases hk
        · exact .inr ⟨o', ho, hk⟩
    | some d =>
      simp only
      refine wipeT_bad os _ k ?_
      rw [getT_putB]
      by_cases hkd : k = d
      · exact .inl (by rw [if_pos hkd]; rfl)
      · rw [if_neg hkd]
        rcases hb with hb | ⟨o', ho, hk⟩
        · exact .inl hb
        · rcases List.mem_cons.1 ho with rfl | ho
          · rw [hd] at hk; simp only [Option.some.injEq] at hk; exact absurd hk.symm hkd
          · exact .inr ⟨o', ho, hk⟩
theorem DrawR.wipe {β : Nat → Option Nat} {nt : Nat} {ops : Array Oper} {p : List PItem} {r : List Nat} {t : T DV} {rt : Array Value} {susp : Bool} (D : DrawR P φ h β nt ops p r t rt susp) : TR P φ (wipeT ops.toList t) rt := by
  intro k
  by_cases hk : ∃ o, o ∈ ops.toList ∧ o.dst = some k
  · rw [wipeT_bad _ _ _ (.inr hk)]; trivial
  · rw [wipeT_get _ _ _ fun o ho hd => hk ⟨o, ho, hd⟩]
    refine D.tmps k fun i hi _ hd => hk ?_
    have hil := D.lt hi
    have : ops[i]? = some ops[i] := Array.getElem?_eq_getElem hil
    rw [dstOf_some this] at hd
    exact ⟨_, by simp, hd⟩
theorem FR.raise {B : Nat → Prop} {susp s' : Bool} {d : DF} {f : Frame} {c : List (DV × Bool)} {rc : List PanicEntry} (F : FR P φ h B susp d f) (hc : ChainR P φ c rc) : FR P φ h B s' (raiseF d c) (f.raise rc) := by
  cases F with
  | run ht hs hi hd hr =>
    rename_i fn t todo defers kind ro rt rtodo rdefers rro
    have hcalm : calmT todo t = t := by
      unfold calmT
      cases hi <;> rfl
    have e : raiseF (.mk fn t todo defers .run kind ro) c = .mk fn t [] defers (.panicking c) kind ro := by
      unfold raiseF; simp only; rw [hcalm]
    rw [e]
    exact .off ht hs (.panicking hc) hi.noCall hd hr
  | draw hβ D hsu hi hd hr => exact .off D.wipe D.size (.panicking hc) (fun d wr re sa k' e => by cases e) hd hr
  | off ht hs hm hn hd hr =>
    cases hm with
    | returning => exact .off ht hs (.panicking hc) hn hd hr
    | panicking e => exact .off ht hs (.panicking (hc.append e)) hn hd hr
end Go.DM
set_option autoImplicit false
set_option linter.unusedVariables false
set_option linter.unusedSimpArgs false
namespace Go.DM
open Go.RowKit
variable {P : Program} {φ ψ φ' : Emb} {w0 w w' : World} {h h' : HS}

/-! ### loops over functions -/
theorem run_setObj {b : Nat} {o ob : Obj} (hc : ∀ c e f, o ≠ .cells c e f) (e : w.heap[b]? = some o) : (Go.setObj b ob).run P w = .ok () { w with heap := w.heap.setIfInBounds b ob } := by
  simp only [Go.setObj, Sem.run, e]
theorem run_getLoop {rl : Nat} {l : Loop} (e : w.heap[rl]? = some (.loop l)) : (Instr.getLoop rl).run P w = .ok l w := by
  have := run_getObj (P := P) (w := w) (o := .loop l) (by intro _ _ _ hh; cases hh) e
  simp only [Instr.getLoop, Sem.run_bind, this, Result.andThen_ok]
  rfl
theorem run_yield {rl : Nat} {l : Loop} {args : Array Value} (e : w.heap[rl]? = some (.loop l)) (hs : args.size = l.params.size) :
    (Instr.yield rl args).run P w = .ok (.round rl l.fn ((l.params.zip args).foldl (fun tmps (t, a) => tmps.setIfInBounds t a) l.tmps) l.assign l.body) w := by
  simp only [Instr.yield, Sem.run_bind, run_getLoop e, Result.andThen_ok]
  simp [hs]
theorem run_beginRound {rl : Nat} {l : Loop} (e : w.heap[rl]? = some (.loop l)) (hs : l.state = .ready) :
    (Instr.beginRound rl).run P w = .ok () { w with heap := w.heap.setIfInBounds rl (.loop { l with state := .busy }) } := by
  simp only [Instr.beginRound, Sem.run_bind, run_getLoop e, Result.andThen_ok, run_setObj (P := P) (o := .loop l) (by intro _ _ _ hh; cases hh) e, hs]
  rfl
theorem run_endRound {rl : Nat} {l : Loop} {jump : Option Code} (e : w.heap[rl]? = some (.loop l)) :
    (Instr.endRound rl jump).run P w = .ok (.bool jump.isNone) { w with heap := w.heap.setIfInBounds rl (.loop { l with state := if jump.isNone then .ready else .done, pending := jump }) } := by
  simp only [Instr.endRound, Sem.run_bind, run_getLoop e, Result.andThen_ok, run_setObj (P := P) (o := .loop l) (by intro _ _ _ hh; cases hh) e]
  rfl
theorem run_endLoop {rl : Nat} {l : Loop} (e : w.heap[rl]? = some (.loop l)) (hs : l.state ≠ .busy) :
    (Instr.endLoop rl).run P w = .ok l.pending { w with heap := w.heap.setIfInBounds rl (.loop { l with state := .exhausted }) } := by
  have hb : (l.state == .busy) = false := by cases hh : l.state <;> first | rfl | exact absurd hh hs
  simp only [Instr.endLoop, Sem.run_bind, run_getLoop e, Result.andThen_ok, hb, Bool.false_eq_true, if_false]
  have := run_setObj (P := P) (w := w) (o := .loop l) (ob := .loop { l with state := .exhausted }) (by intro _ _ _ hh; cases hh) e
  simp [this]
theorem run_takeDeferred {b : Nat} {ds : List Deferred} (e : w.heap[b]? = some (.deferred (some ds))) :
    (Instr.takeDeferred b).run P w = .ok ds { w with heap := w.heap.setIfInBounds b (.deferred none) } := by
  have h1 := run_getObj (P := P) (w := w) (o := .deferred (some ds)) (by intro _ _ _ hh; cases hh) e
  have h2 := run_setObj (P := P) (w := w) (o := .deferred (some ds)) (ob := .deferred none) (by intro _ _ _ hh; cases hh) e
  simp only [Instr.takeDeferred, Sem.run_bind, h1, Result.andThen_ok]
  simp [h2]
/-- the loop that a block of the abstract heap stands for -/
theorem HR.loop {l rl : Nat} {st : LoopState} {pend : Option Code} {fn : FuncId} {tmps : T DV} {params : List Tmp} {assign body : Code} {d : Nat} (H : HR P w0 φ h w) (hl : φ l = some (rl, 0)) (hg : getO h l = some (.loop st pend fn tmps params assign body d)) :
    ∃ L : Loop, w.heap[rl]? = some (.loop L) ∧ L.state = st ∧ L.pending = pend ∧ L.fn = fn ∧ TR P φ tmps L.tmps ∧ ntOf P fn ≤ L.tmps.size ∧ L.params.toList = params ∧ L.assign = assign ∧ L.body = body ∧ φ d = some (L.defers, 0) := by
  obtain ⟨_, L, k⟩ := H.objs l rl 0 _ hl (getO_heap hg)
  exact ⟨L, k⟩
theorem getO_setO {b : Nat} {o : DObj} : setO h b o = .mk (h.heap.set b o) h.next h.groups := by cases h; rfl
theorem HR.setLoop {l rl : Nat} {st st' : LoopState} {pend pend' : Option Code} {fn : FuncId} {tmps : T DV} {params : List Tmp} {assign body : Code} {d : Nat} {L L' : Loop} (H : HR P w0 φ h w) (hl : φ l = some (rl, 0))
    (hg : getO h l = some (.loop st pend fn tmps params assign body d)) (hL : w.heap[rl]? = some (.loop L)) (h1 : L'.state = st') (h2 : L'.pending = pend') (h3 : L'.fn = fn) (h4 : TR P φ tmps L'.tmps) (h5 : ntOf P fn ≤ L'.tmps.size)
    (h6 : L'.params.toList = params) (h7 : L'.assign = assign) (h8 : L'.body = body) (h9 : φ d = some (L'.defers, 0)) :
    HR P w0 φ (setO h l (.loop st' pend' fn tmps params assign body d)) { w with heap := w.heap.setIfInBounds rl (.loop L') } ∧
      Kept φ φ h (setO h l (.loop st' pend' fn tmps params assign body d)) := by
  have hg' := getO_heap hg
  obtain ⟨heap, next, g⟩ := h
  have hrl : rl < w.heap.size := (Array.getElem?_eq_some_iff.1 hL).1
  constructor
  · exact H.setObj hl hg' (by intro _ _ _ e; cases e) (by intro _ _ _ e; cases e) _ ⟨rfl, L', by
      show (w.heap.setIfInBounds rl _)[rl]? = _
      rw [Array.getElem?_setIfInBounds, if_pos rfl, if_pos hrl], h1, h2, h3, h4, h5, h6, h7, h8, h9⟩
  · refine ⟨Nat.le_refl _, fun c hc he => ⟨?_, he⟩⟩
    simp only [setO, HS.heap, T.get_set]
    rw [if_neg (fun e => by subst e; rw [hl] at he; cases he)]
theorem setParams_sim {nt : Nat} : ∀ (ts : List Tmp) (vs : List DV) (rvs : List Value) (t t' : T DV) (rt : Array Value), setParams nt ts vs t = some t' → VRL P φ vs rvs → TR P φ t rt → nt ≤ rt.size →
    TR P φ t' ((ts.zip rvs).foldl (fun tmps x => tmps.setIfInBounds x.1 x.2) rt) ∧ nt ≤ ((ts.zip rvs).foldl (fun tmps x => tmps.setIfInBounds x.1 x.2) rt).size ∧ ts.length = rvs.length
  | [], [], rvs, t, t', rt, e, hv, ht, hs => by
    simp only [setParams, Option.some.injEq] at e
    subst e
    simp only [VRL] at hv
    subst hv
    exact ⟨ht, hs, rfl⟩
  | [], _ :: _, _, _, _, _, e, _, _, _ => by simp [setParams] at e
  | _ :: _, [], _, _, _, _, e, _, _, _ => by simp [setParams] at e
  | x :: ts, v :: vs, rvs, t, t', rt, e, hv, ht, hs => by
    simp only [VRL] at hv
    obtain ⟨y, ys, rfl, hv1, hv2⟩ := hv
    simp only [setParams] at e
    split at e
    · rename_i hx
      have hx' : x < nt := by simpa using hx
      simp only [List.zip_cons_cons, List.foldl_cons]
      obtain ⟨k1, k2, k3⟩ := setParams_sim ts vs ys _ t' (rt.setIfInBounds x y) e hv2 (fun k => by
        unfold T.set
        rw [getT_putB, Array.getD_eq_getD_getElem?, Array.getElem?_setIfInBounds]
        by_cases hk : k = x
        · subst hk
          rw [if_pos rfl, if_pos rfl, if_pos (Nat.lt_of_lt_of_le hx' hs)]
          exact hv1
        · rw [if_neg hk, if_neg (fun e => hk e.symm), ← Array.getD_eq_getD_getElem?]
          exact ht k) (by simpa using hs)
      exact ⟨k1, k2, by simp [k3]⟩
    · cases e
theorem zip_toList {α β : Type} (a : Array α) (b : Array β) : (a.zip b).toList = a.toList.zip b.toList := by simp

/-! ### results -/
theorem mapM_run {α β : Type} (f : α → Sem β) (g : α → β) (w : World) : ∀ (l : List α), (∀ x, x ∈ l → (f x).run P w = .ok (g x) w) → (l.mapM f : Sem (List β)).run P w = .ok (l.map g) w
  | [], _ => rfl
  | x :: xs, hx => by
    rw [List.mapM_cons, Sem.run_bind, hx x (by simp), Result.andThen_ok, Sem.run_bind, mapM_run f g w xs fun y hy => hx y (by simp [hy]), Result.andThen_ok]
    rfl
def readR (rt : Array Value) : ResultVar → Sem Value
  | .tmp t => pure (rt.getD t undef)
  | .cell a t => do loadVar t (← asAddr (rt.getD a undef))
theorem results_sim {t : T DV} {rt : Array Value} (H : HR P w0 φ h w) (ht : TR P φ t rt) : ∀ (rs : List ResultVar) (l : List DV), resultsD P h t rs = some l →
    ∃ xs : List Value, VRL P φ l xs ∧ (rs.mapM (readR rt) : Sem (List Value)).run P w = .ok xs w
  | [], l, e => by
    simp only [resultsD, Option.some.injEq] at e
    subst e
    exact ⟨[], VRL.nil, rfl⟩
  | r :: rs, l, e => by
    cases r with
    | tmp k =>
      simp only [resultsD] at e
      split at e
      · rename_i l' hl
        simp only [Option.some.injEq] at e
        subst e
        obtain ⟨xs, h1, h2⟩ := results_sim H ht rs l' hl
        refine ⟨rt.getD k undef :: xs, VRL.cons (ht k) h1, ?_⟩
        rw [List.mapM_cons, Sem.run_bind]
        rw [show readR rt (.tmp k) = pure (rt.getD k undef) from rfl, Sem.run_pure, Result.andThen_ok, Sem.run_bind, h2]; rfl
      · cases e
    | cell a ty =>
      simp only [resultsD] at e
      split at e
      · rename_i b o hb
        split at e
        · rename_i v l' hv hl
          simp only [Option.some.injEq] at e
          subst e
          obtain ⟨xs, h1, h2⟩ := results_sim H ht rs l' hl
          have hp := ht a
          rw [hb] at hp
          simp only [VR] at hp
          obtain ⟨rb, sh, k1, k2⟩ := hp
          obtain ⟨x, k3, k4⟩ := run_loadV H k1 hv
          refine ⟨x :: xs, VRL.cons k4 h1, ?_⟩
          have ha : (asAddr (rt.getD a undef)).run P w = .ok ⟨rb, sh + o, none⟩ w := by rw [k2]; rfl
          rw [List.mapM_cons, Sem.run_bind, show readR rt (.cell a ty) = (do loadVar ty (← asAddr (rt.getD a undef))) from rfl, Sem.run_bind, ha, Result.andThen_ok, k3, Result.andThen_ok, Sem.run_bind, h2]; rfl
        · cases e
      · cases e
theorem one_rel : ∀ {l : List DV} {xs : List Value}, VRL P φ l xs → VR P φ (one l) (if h : xs.toArray.size = 1 then xs.toArray[0] else .tuple xs.toArray)
  | [], xs, hv => by
    simp only [VRL] at hv
    subst hv
    exact ⟨#[], rfl, rfl⟩
  | [v], xs, hv => by
    simp only [VRL] at hv
    obtain ⟨x, _, rfl, h1, rfl⟩ := hv
    simpa [one] using h1
  | v :: u :: l, xs, hv => by
    have hv' := hv
    simp only [VRL] at hv
    obtain ⟨x, _, rfl, h1, y, ys, rfl, h2, h3⟩ := hv
    rw [dif_neg (by simp)]
    exact ⟨_, rfl, by simpa using hv'⟩
theorem run_results {t : T DV} {rt : Array Value} {fn : Func} {l : List DV} (H : HR P w0 φ h w) (ht : TR P φ t rt) (e : resultsD P h t fn.results.toList = some l) :
    ∃ x, (results fn rt).run P w = .ok x w ∧ VR P φ (one l) x := by
  obtain ⟨xs, h1, h2⟩ := results_sim H ht _ l e
  refine ⟨_, ?_, one_rel h1⟩
  have he : results fn rt = (do
      let vs ← fn.results.mapM (readR rt)
      pure (if h : vs.size = 1 then vs[0] else .tuple vs)) := by
    unfold results
    rfl
  have hm : (fn.results.mapM (readR rt) : Sem (Array Value)).run P w = .ok xs.toArray w := by
    rw [Array.mapM_eq_mapM_toList, map_eq_pure_bind, Sem.run_bind, h2]
    rfl
  rw [he, Sem.run_bind, hm]
  rfl
end Go.DM
set_option autoImplicit false
set_option linter.unusedVariables false
set_option linter.unusedSimpArgs false
namespace Go.DM
open Go.RowKit
variable {P : Program} {φ ψ φ' : Emb} {w0 w w' : World} {h h' : HS} {I : Intr} {base : List Frame}

/-! ### entering -/
def NoCount (P : Program) : Prop := ∀ (f : FuncId) (fn : Func), P.funcs[f]? = some fn → fn.name ≠ "runtime.NumGoroutine"
theorem argsT_get : ∀ (l : List DV) (t : T DV) (i k : Nat), getT (argsT l t i) (bits k) = if i ≤ k ∧ k < i + l.length then (l[k - i]?).getD .bad else getT t (bits k)
  | [], t, i, k => by
    rw [if_neg (by simp only [List.length_nil]; omega)]; rfl
  | v :: l, t, i, k => by
    simp only [argsT]
    rw [argsT_get l _ (Nat.succ i) k, getT_putB]
    by_cases h1 : k = i
    · subst h1
      rw [if_neg (by omega), if_pos rfl, if_pos (by simp)]
      simp
    · by_cases h2 : i ≤ k ∧ k < i + (v :: l).length
      · rw [if_pos h2, if_pos (by simp at h2; omega)]
        have : k - i = (k - Nat.succ i) + 1 := by omega
        rw [this]; simp
      · rw [if_neg h2, if_neg h1, if_neg (by simp at h2; omega)]
theorem enter_TR {args : List DV} {rargs : Array Value} (hv : VRL P φ args rargs.toList) (n : Nat) : TR P φ (argsT args .nil 0) (rargs ++ Array.replicate n undef) := by
  intro k
  have hl := VRL.length hv
  rw [argsT_get]
  by_cases hk : k < args.length
  · rw [if_pos (by omega), Nat.sub_zero]
    obtain ⟨d, hd⟩ : ∃ d, args[k]? = some d := ⟨_, List.getElem?_eq_getElem hk⟩
    obtain ⟨v, h1, h2⟩ := VRL.get hv hd
    rw [hd, Array.getD_eq_getD_getElem?]
    have : (rargs ++ Array.replicate n undef)[k]? = some v := by
      rw [Array.getElem?_append_left (by simp at hl; omega)]
      simpa using h1
    rw [this]; exact h2
  · rw [if_neg (by omega)]
    have : getT (T.nil : T DV) (bits k) = .bad := by
      unfold getT
      rw [T.getB_nil]
    rw [this]; trivial
theorem callFunc_enter {f : FuncId} {args : Array Value} {c : Code} (hN : NoCount P) (hb : bodyOf P f = some c) : (callFunc f args).run P w = .ok (.enter f args) w := by
  unfold bodyOf at hb
  split at hb
  · rename_i fn hf
    have hn := hN f fn hf
    have hn' : (fn.name == "runtime.NumGoroutine") = false := by simpa using hn
    simp only [callFunc, Sem.run_bind, run_program, Result.andThen_ok, hf, hn', Bool.false_eq_true, if_false, hb]
    simp
  · cases hb
theorem FR.enter {f : FuncId} {args : List DV} {rargs : Array Value} {kind : CallKind} {c : Code} (hv : VRL P φ args rargs.toList) (hb : bodyOf P f = some c) (B : Nat → Prop) (susp : Bool) :
    FR P φ h B susp (.mk f (argsT args .nil 0) [.code c] [] .run kind none) (Frame.enter P f rargs kind) := by
  unfold bodyOf at hb
  split at hb
  · rename_i fn hf
    have e : Frame.enter P f rargs kind = ⟨f, rargs ++ Array.replicate (fn.ntmps - rargs.size) undef, [.code c], [], .run, kind, none⟩ := by
      simp [Frame.enter, hf, hb]
    rw [e]
    refine .run (enter_TR hv _) ?_ (.code c .nil) .nil .none
    unfold ntOf
    rw [hf]
    simp
    omega
  · cases hb
theorem enterF_some {f : FuncId} {args : List DV} {kind : CallKind} {rest : List DF} {s' : DS} (e : enterF P f args kind rest h = some s') :
    ∃ c, bodyOf P f = some c ∧ s' = .mk (.mk f (argsT args .nil 0) [.code c] [] .run kind none :: rest) h := by
  unfold enterF at e
  split at e
  · rename_i c hc
    simp only [Option.some.injEq] at e
    exact ⟨c, hc, e.symm⟩
  · cases e

/-! ### what comes of an operation -/
def Gives (P : Program) (w0 : World) (φ : Emb) (h : HS) (v : DV) (h' : HS) (φ' : Emb) (w' : World) (x : Value) : Prop := φ.le φ' ∧ HR P w0 φ' h' w' ∧ VR P φ' v x ∧ Kept φ φ' h h'
def Answers (P : Program) (f : FuncId) (args : List DV) (h : HS) (v : DV) (h' : HS) : Prop := ∀ (w0 w : World) (φ : Emb) (rargs : Array Value), HR P w0 φ h w → VRL P φ args rargs.toList →
  (∃ φ' w' x, Gives P w0 φ h v h' φ' w' x ∧ (callFunc f rargs).run P w = .ok (.value x) w') ∨
    ((callFunc f rargs).run P w = .ok (.enter f rargs) w ∧ ∀ c cs, ∃ φ' w' x, Gives P w0 φ h v h' φ' w' x ∧ Steps P (lone (Frame.enter P f rargs .normal) (c :: cs) w) (lone (c.finish x) cs w'))
def IntrOk (P : Program) (I : Intr) : Prop := ∀ f args h v h', I f args h = some (v, h') → Answers P f args h v h'

section
variable {fn : FuncId} {t : T DV} {todo : List DItem} {defers : List DDef} {kind : CallKind} {ro : Option Nat} {fr : Frame} {cs : List Frame} {dfs : List DF} {B1 B2 : Nat → Prop} {s : Sem Next} {out : Out} {s' : DS}
theorem FR.facts {B : Nat → Prop} {susp : Bool} (F : FR P φ h B susp (.mk fn t todo defers .run kind ro) fr) : fr.kind = kind ∧ fr.fn = fn ∧ fr.mode = .run ∧ RoR φ ro fr.roundOf := by
  cases F with
  | run ht hs hi hd hr => exact ⟨rfl, rfl, rfl, hr⟩
  | draw hβ D hsu hi hd hr => exact ⟨rfl, rfl, rfl, hr⟩
  | off ht hs hm hc hd hr => cases hm
theorem FR.push {B : Nat → Prop} {susp : Bool} {d : DDef} {rd : Deferred} (F : FR P φ h B susp (.mk fn t todo defers .run kind ro) fr) (hd : DefR P φ d rd) :
    FR P φ h B susp (.mk fn t todo (d :: defers) .run kind ro) { fr with defers := rd :: fr.defers } := by
  cases F with
  | run ht hs hi hd' hr => exact .run ht hs hi (.cons hd hd') hr
  | draw hβ D hsu hi hd' hr => exact .draw hβ D hsu hi (.cons hd hd') hr
  | off ht hs hm hc hd' hr => cases hm
/-- a frame that goes on: the state behind it -/
theorem SR.mk' {df : DF} {φ' : Emb} (hl : φ.le φ') (hk : Keeps (fun b => B1 b ∨ B2 b) φ φ' h h') (H' : HR P w0 φ' h' w') (F : FR P φ' h' B1 false df fr) (C : CR P φ h base B2 dfs cs)
    (hB : ∀ b, B1 b → ¬ B2 b) (hlow : ∀ b, B1 b ∨ B2 b → b < h.next) : SR P w0 base (.mk (df :: dfs) h') fr cs w' :=
  ⟨df, dfs, h', φ', B1, B2, rfl, H', F, C.under hl ⟨hk.1, fun c hc => hk.2 c (.inr hc)⟩, hB, fun b hb => Nat.lt_of_lt_of_le (hlow b hb) hk.1⟩
/-- a new frame above -/
theorem SR.above {df d : DF} {f : Frame} (H : HR P w0 φ h w) (F : FR P φ h B1 true df fr) (C : CR P φ h base B2 dfs cs) (hB : ∀ b, B1 b → ¬ B2 b) (hlow : ∀ b, B1 b ∨ B2 b → b < h.next)
    (G : FR P φ h (fun _ => False) false d f) : SR P w0 base (.mk (d :: df :: dfs) h) f (fr :: cs) w :=
  ⟨d, df :: dfs, h, φ, fun _ => False, fun b => B1 b ∨ B2 b, rfl, H, G, .cons F C hB, fun _ hb => hb.elim, fun b hb => hlow b (hb.elim False.elim id)⟩
/-- what is meant by a frame that stands at an operation -/
structure AtOp (fr : Frame) : Prop where
  todo : ∃ ops is k, fr.todo = .inRegion ops is :: k
theorem apply_sim (hI : IntrOk P I) (hN : NoCount P) (H : HR P w0 φ h w) (F : FR P φ h B1 true (.mk fn t todo defers .run kind ro) fr) (C : CR P φ h base B2 dfs cs)
    (hB : ∀ b, B1 b → ¬ B2 b) (hlow : ∀ b, B1 b ∨ B2 b → b < h.next) (hc : ∀ d re sa k', fr.todo ≠ .call d true re sa :: k')
    (hs : stepG P true { frame := fr, callers := cs, status := .running, dying := none } w = stepG.apply P true fr cs none s w)
    (ho : OutR P w0 φ h w out (s.run P w)) (e : applyD P I fn t todo defers kind ro dfs h out = some s') :
    ∃ fr' cs' w', Steps P (lone fr cs w) (lone fr' cs' w') ∧ SR P w0 base s' fr' cs' w' := by
  obtain ⟨hkind, hfn, hmode, hro⟩ := F.facts
  have hkd : (match fr.todo with | .call _ true _ _ :: _ => CallKind.wrapped | _ => .normal) = .normal := by
    split
    · rename_i hh; exact absurd hh (hc _ _ _ _)
    · rfl
  cases out with
  | val v h' =>
    obtain ⟨φ', w', nx, x, hr, hnx, hl, H', hv, hk⟩ := ho
    simp only [applyD, Option.some.injEq] at e
    subst e
    refine ⟨fr.finish x, cs, w', .one (step_lone_go ?_), SR.mk' hl hk.keeps H' (F.finish hl hk.keeps hv) C hB hlow⟩
    rw [hs]
    rcases hnx with rfl | ⟨rfl, rfl⟩
    · simp [stepG.apply, hr]
    · simp [stepG.apply, hr]
  | enter f args h' =>
    obtain ⟨rfl, args', hargs, hr⟩ := ho
    simp only [applyD] at e
    split at e
    · rename_i v h'' hi
      simp only [Option.some.injEq] at e
      subst e
      rcases hI f args _ v h'' hi w0 w φ args' H hargs with ⟨φ', w', x, ⟨hl, H', hv, hk⟩, hx⟩ | ⟨hx, hall⟩
      · refine ⟨fr.finish x, cs, w', .one (step_lone_go ?_), SR.mk' hl hk.keeps H' (F.finish hl hk.keeps hv) C hB hlow⟩
        rw [hs]; simp [stepG.apply, hr, hx]
      · obtain ⟨φ', w', x, ⟨hl, H', hv, hk⟩, hsteps⟩ := hall fr cs
        refine ⟨fr.finish x, cs, w', .head (step_lone_go ?_) hsteps, SR.mk' hl hk.keeps H' (F.finish hl hk.keeps hv) C hB hlow⟩
        rw [hs]; simp [stepG.apply, hr, hx, hkd]
    · obtain ⟨c, hb, rfl⟩ := enterF_some e
      refine ⟨_, _, _, .one (step_lone_go (fr' := Frame.enter P f args' .normal) (cs' := fr :: cs) (w' := w) ?_), SR.above H F C hB hlow (FR.enter hargs hb _ _)⟩
      rw [hs]; simp [stepG.apply, hr, callFunc_enter hN hb, hkd]
  | round l args =>
    obtain ⟨rl, args', hl, hargs, hr⟩ := ho
    simp only [applyD] at e
    split at e
    · rename_i st pend f ltmps params assign body d hg
      split at e
      · rename_i ltmps' hp
        simp only [Option.some.injEq] at e
        subst e
        obtain ⟨L, k1, k2, k3, k4, k5, k6, k7, k8, k9, k10⟩ := H.loop hl hg
        obtain ⟨j1, j2, j3⟩ := setParams_sim params args args'.toList ltmps ltmps' L.tmps hp hargs k5 k6
        have hsz : args'.size = L.params.size := by rw [← k7] at j3; simpa using j3.symm
        rw [run_yield k1 hsz] at hr
        have hfold : (L.params.zip args').foldl (fun tmps (t, a) => tmps.setIfInBounds t a) L.tmps = (params.zip args'.toList).foldl (fun tmps x => tmps.setIfInBounds x.1 x.2) L.tmps := by
          rw [← Array.foldl_toList, zip_toList, k7]
        rw [hfold, k8, k9, k4] at hr
        refine ⟨_, _, _, .one (step_lone_go (fr' := Frame.round rl f ((params.zip args'.toList).foldl (fun tmps x => tmps.setIfInBounds x.1 x.2) L.tmps) assign body .normal) (cs' := fr :: cs) (w' := w) ?_),
          SR.above H F C hB hlow (.run j1 j2 (.code assign (.beginRound (.code body .nil))) .nil (.some hl))⟩
        rw [hs]; simp [stepG.apply, hr]
      · cases e
    · cases e
  | defer d =>
    obtain ⟨d', hr, hd⟩ := ho
    simp only [applyD] at e
    cases ro with
    | some l => cases e
    | none =>
      simp only [Option.some.injEq] at e
      subst e
      refine ⟨({ fr with defers := d' :: fr.defers } : Frame).finish undef, cs, w, .one (step_lone_go ?_), SR.mk' (Emb.le_refl φ) (Keeps.refl _ _ _) H ((F.push hd).finish (Emb.le_refl φ) (Keeps.refl _ _ _) (v := undefD) ⟨#[], rfl, rfl⟩) C hB hlow⟩
      rw [hs]; simp [stepG.apply, hr]
  | recover =>
    change s.run P w = .ok .recover w at ho
    simp only [applyD] at e
    cases ro with
    | some l => cases e
    | none =>
      have hrn : fr.roundOf = none := by
        generalize fr.roundOf = y at hro
        cases hro; rfl
      cases kind with
      | deferred =>
        simp only at e
        cases C with
        | nil => cases e
        | cons F2 C2 hB2 =>
          rename_i d f ds fs
          obtain ⟨fn', t', todo', defers', mode', kind', ro'⟩ := d
          simp only at e
          have hnone : (∀ v older, mode' ≠ .panicking ((v, false) :: older)) → tryRecover fr (f :: fs) = none := by
            intro hm
            simp only [tryRecover, hkind]
            cases F2 with
            | run ht hs hi hd hr => rfl
            | draw hβ D hsu hi hd hr => rfl
            | off ht hs hm' hc hd hr =>
              cases hm' with
              | returning => rfl
              | panicking ec =>
                cases ec with
                | nil => rfl
                | cons ev et =>
                  rename_i v x b c rc
                  cases b with
                  | false => exact absurd rfl (hm v c)
                  | true => rfl
          split at e
          · rename_i v older
            simp only [Option.some.injEq] at e
            subst e
            cases F2 with
            | off ht hs2 hm' hc2 hd hr =>
              cases hm' with
              | panicking ec =>
                cases ec with
                | cons ev et =>
                  rename_i rt rtodo rdefers rro x rc
                  refine ⟨fr.finish x, ⟨fn', rt, rtodo, rdefers, .panicking ({ v := x, recovered := true } :: rc), kind', rro⟩ :: fs, w, .one (step_lone_go ?_),
                    SR.mk' (Emb.le_refl φ) (Keeps.refl _ _ _) H (F.finish (Emb.le_refl φ) (Keeps.refl _ _ _) ev) (.cons (.off ht hs2 (.panicking (.cons ev et)) hc2 hd hr) C2 hB2) hB hlow⟩
                  rw [hs]; simp [stepG.apply, ho, hrn, tryRecover, hkind]
          · rename_i hm
            simp only [Option.some.injEq] at e
            subst e
            refine ⟨fr.finish .nilIface, f :: fs, w, .one (step_lone_go ?_), SR.mk' (Emb.le_refl φ) (Keeps.refl _ _ _) H (F.finish (Emb.le_refl φ) (Keeps.refl _ _ _) (v := .nili) rfl) (.cons F2 C2 hB2) hB hlow⟩
            rw [hs]
            have := hnone fun v older hh => hm v older (by rw [hh])
            simp [stepG.apply, ho, hrn, this]
      | normal =>
        simp only [Option.some.injEq] at e
        subst e
        refine ⟨fr.finish .nilIface, cs, w, .one (step_lone_go ?_), SR.mk' (Emb.le_refl φ) (Keeps.refl _ _ _) H (F.finish (Emb.le_refl φ) (Keeps.refl _ _ _) (v := .nili) rfl) C hB hlow⟩
        rw [hs]
        have : tryRecover fr cs = none := by
          cases cs <;> simp [tryRecover, hkind]
        simp [stepG.apply, ho, hrn, this]
      | _ => cases e
  | panic v =>
    obtain ⟨x, hr, hv⟩ := ho
    simp only [applyD, Option.some.injEq] at e
    subst e
    refine ⟨fr.raise [{ v := x, recovered := false }], cs, w, .one (step_lone_go ?_), SR.mk' (Emb.le_refl φ) (Keeps.refl _ _ _) H (F.raise (.cons hv .nil)) C hB hlow⟩
    rw [hs]; simp [stepG.apply, hr]
  | fail => cases e
end
end Go.DM
