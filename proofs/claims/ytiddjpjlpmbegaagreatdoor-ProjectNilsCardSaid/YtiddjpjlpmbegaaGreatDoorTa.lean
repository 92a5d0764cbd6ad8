import Derived.Test.YtiddjpjlpmbegaaGreatDoorTL
namespace Go.Proofs.YtiddjpjlpmbegaaGreatDoor
open Go
set_option maxRecDepth 100000
theorem tieA : Tryz.prog.worded (varsWordLater true) = true := by kernel_rfl
end Go.Proofs.YtiddjpjlpmbegaaGreatDoor
