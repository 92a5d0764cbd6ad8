import Derived.Test.YtiddjpjlpmbegaaGreatDoorRS0
import Derived.Test.YtiddjpjlpmbegaaGreatDoorRS1
import Derived.KernelRfl
set_option linter.unusedVariables false
set_option linter.unusedSimpArgs false
set_option linter.unnecessarySimpa false
set_option autoImplicit false
set_option maxRecDepth 1000000
namespace Go.DM
theorem Nck4 : view Nhp5 Ngr5 Nlo5 (runN Q Go.Proofs.Tryz.intr 4116 Nst4) = some (Nfr5, 2850, someAll Nlo5, true) := by kernel_rfl
theorem Nld4 : Leads Q Nst4 Nst5 := Leads.view Go.Proofs.Tryz.intrOk Go.Proofs.Tryz.noCount Go.Proofs.Tryz.mixed (by kernel_rfl) Nck4
end Go.DM
