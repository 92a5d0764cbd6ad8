import Derived.Test.YtiddjpjlpmbegaaGreatDoorWa
namespace Go.Proofs.YtiddjpjlpmbegaaGreatDoor
open Go
set_option maxRecDepth 100000
open Go.ChangeShapes Go.WideShapes Go.ChangeAt Go.RowKit
theorem handleThere (os : Os) : (listed.filter fun x => x.2.handleName?.isSome).all (handleAtB Tryz.prog (handleWorld os)) = true := by kernel_rfl
theorem handleNames : (listed.filter fun x => x.2.handleName?.isSome).map (·.1) = ["errors.errorType"] := by kernel_rfl
theorem handleGlobal : Tryz.prog.globalNamed "errors.errorType" = some 0 := by kernel_rfl
end Go.Proofs.YtiddjpjlpmbegaaGreatDoor
