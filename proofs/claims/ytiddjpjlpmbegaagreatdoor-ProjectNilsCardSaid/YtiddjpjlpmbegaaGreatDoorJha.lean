import Derived.Test.YtiddjpjlpmbegaaGreatDoorProg
import Derived.KernelRfl
import GoSem.ClaimDataLaid
namespace Go.Proofs.YtiddjpjlpmbegaaGreatDoor
open Go
set_option maxRecDepth 100000
theorem rowsFine0 : (List.range 360).all (fun i => rowFine Tryz.prog (0 + i)) = true := by kernel_rfl
end Go.Proofs.YtiddjpjlpmbegaaGreatDoor
