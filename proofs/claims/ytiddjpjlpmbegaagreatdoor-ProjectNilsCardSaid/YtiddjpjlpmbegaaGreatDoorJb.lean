import Derived.Test.YtiddjpjlpmbegaaGreatDoorRows
import Derived.Test.YtiddjpjlpmbegaaGreatDoorJa
import Derived.ProofKit
namespace Go.Proofs.YtiddjpjlpmbegaaGreatDoor
open Go
set_option maxRecDepth 100000
open Go.ChangeShapes Go.WideShapes Go.ChangeAt Go.RowKit
theorem inPlaceAt : Tryz.prog.inPlace 3 = Rows.projectNilsRow.inPlace := by
  unfold Program.inPlace
  rw [closureAt]
  kernel_rfl
theorem unfollowedAt : Tryz.prog.unfollowed 3 = true := by
  unfold Program.unfollowed
  rw [closureAt]
  kernel_rfl
theorem recursesAt : Tryz.prog.recurses 3 = true := by
  unfold Program.recurses
  rw [unfollowedAt]
  rfl
end Go.Proofs.YtiddjpjlpmbegaaGreatDoor
