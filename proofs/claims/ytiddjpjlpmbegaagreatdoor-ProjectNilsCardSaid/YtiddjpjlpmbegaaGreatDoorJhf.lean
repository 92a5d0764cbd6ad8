import Derived.Test.YtiddjpjlpmbegaaGreatDoorJha
import Derived.Test.YtiddjpjlpmbegaaGreatDoorJhb
import Derived.Test.YtiddjpjlpmbegaaGreatDoorJhc
import Derived.Test.YtiddjpjlpmbegaaGreatDoorJhd
import Derived.Test.YtiddjpjlpmbegaaGreatDoorJhe
import Derived.KernelRfl
import GoSem.ClaimDataLaid
namespace Go.Proofs.YtiddjpjlpmbegaaGreatDoor
open Go
set_option maxRecDepth 100000
theorem range_part {p : Nat → Bool} {a n m : Nat} (h1 : ∀ i, i < a → p i = true) (h2 : (List.range n).all (fun i => p (a + i)) = true) (hm : m = a + n) : ∀ i, i < m → p i = true := by
  intro i hi
  by_cases h : i < a
  · exact h1 i h
  · have h3 := List.all_eq_true.1 h2 (i - a) (List.mem_range.2 (by omega))
    rw [Nat.add_sub_cancel' (by omega)] at h3
    exact h3
theorem rowsFine : ∀ i, i < 800 → rowFine Tryz.prog i = true :=
  range_part (range_part (range_part (range_part (fun i hi => absurd hi (Nat.not_lt_zero i)) rowsFine0 rfl) rowsFine1 rfl) rowsFine2 rfl) rowsFine3 rfl
theorem laidOutAt : laidOutB Tryz.prog = true := by
  unfold laidOutB
  rw [typesSize, globalsFine, funcsFine, List.all_eq_true.2 fun i hi => rowsFine i (List.mem_range.1 hi)]
  rfl
end Go.Proofs.YtiddjpjlpmbegaaGreatDoor
