import Derived.Test.YtiddjpjlpmbegaaGreatDoorProg
import Derived.KernelRfl
import GoSem.ClaimFn
namespace Go.Proofs.YtiddjpjlpmbegaaGreatDoor
open Go
set_option maxRecDepth 100000
theorem fuelAt : 1 + (Tryz.prog.funcs.toList.map fun g => (Tryz.prog.leadsTo g).length + 1).sum = 2168 := by kernel_rfl
/-- the closure's search, stopped behind some steps -/
def viaN (P : Program) : Nat → List FuncId → List FuncId → List FuncId × List FuncId
  | 0, t, s => (t, s)
  | _ + 1, [], s => ([], s)
  | k + 1, f :: t, s => match s.contains f with
    | true => viaN P k t s
    | false => viaN P k ((P.funcs[f]?).elim [] P.leadsTo ++ t) (f :: s)
theorem via_split {P : Program} : ∀ (k n : Nat) (t s : List FuncId), P.closureVia (n + k) t s = P.closureVia n (viaN P k t s).1 (viaN P k t s).2
  | 0, n, t, s => rfl
  | k + 1, n, [], s => by
    cases n with
    | zero => rfl
    | succ n => rfl
  | k + 1, n, f :: t, s => by
    rw [← Nat.add_assoc, Program.closureVia, viaN]
    cases e : s.contains f with
    | true => simp only [if_true]; exact via_split k n t s
    | false => simp only [Bool.false_eq_true, if_false]; exact via_split k n _ _
theorem via_stage {P : Program} {k n m : Nat} {t s t' s' c : List FuncId} (h : viaN P k t s = (t', s')) (hm : m = n + k) (hc : P.closureVia n t' s' = c) : P.closureVia m t s = c := by
  rw [hm, via_split, h]
  exact hc
end Go.Proofs.YtiddjpjlpmbegaaGreatDoor
