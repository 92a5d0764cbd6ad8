import Derived.Test.YtiddjpjlpmbegaaGreatDoorRows
import Derived.Test.YtiddjpjlpmbegaaGreatDoorJa
import Derived.ProofKit
namespace Go.Proofs.YtiddjpjlpmbegaaGreatDoor
open Go
set_option maxRecDepth 100000
open Go.ChangeShapes Go.WideShapes Go.ChangeAt Go.RowKit
theorem varsNamedAt : Tryz.prog.varsNamed 3 = Rows.projectNilsRow.named := by
  unfold Program.varsNamed
  rw [closureAt]
  kernel_rfl
end Go.Proofs.YtiddjpjlpmbegaaGreatDoor
