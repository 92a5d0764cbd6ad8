import Derived.Test.YtiddjpjlpmbegaaGreatDoorTL
namespace Go.Proofs.YtiddjpjlpmbegaaGreatDoor
open Go
set_option maxRecDepth 100000
theorem tieF : varsNamedLaterB Tryz.prog (varsId Tryz.prog) tieList = true := by kernel_rfl
end Go.Proofs.YtiddjpjlpmbegaaGreatDoor
