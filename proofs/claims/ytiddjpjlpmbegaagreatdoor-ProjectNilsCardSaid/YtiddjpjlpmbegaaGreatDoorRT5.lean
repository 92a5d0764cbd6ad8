import Derived.Test.YtiddjpjlpmbegaaGreatDoorRS0
import Derived.Test.YtiddjpjlpmbegaaGreatDoorRS1
import Derived.KernelRfl
set_option linter.unusedVariables false
set_option linter.unusedSimpArgs false
set_option linter.unnecessarySimpa false
set_option autoImplicit false
set_option maxRecDepth 1000000
namespace Go.DM
theorem Nck5 : view Nhp6 Ngr6 Nlo6 (runN Q Go.Proofs.Tryz.intr 4816 Nst5) = some (Nfr6, 3131, someAll Nlo6, true) := by kernel_rfl
theorem Nld5 : Leads Q Nst5 Nst6 := Leads.view Go.Proofs.Tryz.intrOk Go.Proofs.Tryz.noCount Go.Proofs.Tryz.mixed (by kernel_rfl) Nck5
end Go.DM
