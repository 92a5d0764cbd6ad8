import Derived.Test.YtiddjpjlpmbegaaGreatDoorTL
namespace Go.Proofs.YtiddjpjlpmbegaaGreatDoor
open Go
set_option maxRecDepth 100000
theorem tieC : Tryz.prog.worded rootWordLater = true := by kernel_rfl
end Go.Proofs.YtiddjpjlpmbegaaGreatDoor
