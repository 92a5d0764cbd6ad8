import Derived.Test.YtiddjpjlpmbegaaGreatDoorWa
namespace Go.Proofs.YtiddjpjlpmbegaaGreatDoor
open Go
set_option maxRecDepth 100000
open Go.ChangeShapes Go.WideShapes Go.ChangeAt Go.RowKit
theorem layIfacesAt (os : Os) : (handleWorld os).layIfaces Tryz.prog plainListed (startWorld os) = true := by kernel_rfl
end Go.Proofs.YtiddjpjlpmbegaaGreatDoor
