import Derived.Test.YtiddjpjlpmbegaaGreatDoorProg
import Derived.KernelRfl
import GoSem.ClaimDataLaid
namespace Go.Proofs.YtiddjpjlpmbegaaGreatDoor
open Go
set_option maxRecDepth 100000
theorem typesSize : Tryz.prog.types.size = 800 := by kernel_rfl
theorem globalsFine : Tryz.prog.globals.all (fun g => decide (g.type < 800)) = true := by kernel_rfl
theorem funcsFine : Tryz.prog.funcs.all (fun f => f.params.all fun t => decide (t < 800)) = true := by kernel_rfl
end Go.Proofs.YtiddjpjlpmbegaaGreatDoor
