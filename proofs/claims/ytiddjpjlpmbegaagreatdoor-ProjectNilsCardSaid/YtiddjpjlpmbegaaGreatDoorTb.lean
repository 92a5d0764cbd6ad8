import Derived.Test.YtiddjpjlpmbegaaGreatDoorTL
namespace Go.Proofs.YtiddjpjlpmbegaaGreatDoor
open Go
set_option maxRecDepth 100000
theorem tieB : Tryz.prog.worded (varsWordLater !true) = false := by kernel_rfl
end Go.Proofs.YtiddjpjlpmbegaaGreatDoor
