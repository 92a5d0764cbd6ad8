import Derived.Test.YtiddjpjlpmbegaaGreatDoorRows
import Derived.ProofKit
import GoSem.ClaimSeven
namespace Go.Proofs.YtiddjpjlpmbegaaGreatDoor
open Go
set_option maxRecDepth 100000
open Go.ChangeShapes Go.WideShapes Go.ChangeAt Go.RowKit
theorem looksAt : true = Tryz.prog.looks [] := by kernel_rfl
end Go.Proofs.YtiddjpjlpmbegaaGreatDoor
