import Derived.Test.YtiddjpjlpmbegaaGreatDoorWa
namespace Go.Proofs.YtiddjpjlpmbegaaGreatDoor
open Go
set_option maxRecDepth 100000
open Go.ChangeShapes Go.WideShapes Go.ChangeAt Go.RowKit
theorem layFitsAt (os : Os) : (handleWorld os).layFits Tryz.prog plainListed [0] = true := by kernel_rfl
end Go.Proofs.YtiddjpjlpmbegaaGreatDoor
