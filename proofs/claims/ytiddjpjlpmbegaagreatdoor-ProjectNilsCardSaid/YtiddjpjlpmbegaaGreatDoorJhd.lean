import Derived.Test.YtiddjpjlpmbegaaGreatDoorProg
import Derived.KernelRfl
import GoSem.ClaimDataLaid
namespace Go.Proofs.YtiddjpjlpmbegaaGreatDoor
open Go
set_option maxRecDepth 100000
theorem rowsFine3 : (List.range 136).all (fun i => rowFine Tryz.prog (664 + i)) = true := by kernel_rfl
end Go.Proofs.YtiddjpjlpmbegaaGreatDoor
