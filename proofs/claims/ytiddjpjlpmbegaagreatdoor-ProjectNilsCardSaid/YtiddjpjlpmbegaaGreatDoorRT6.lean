import Derived.Test.YtiddjpjlpmbegaaGreatDoorRS0
import Derived.Test.YtiddjpjlpmbegaaGreatDoorRS1
import Derived.KernelRfl
set_option linter.unusedVariables false
set_option linter.unusedSimpArgs false
set_option linter.unnecessarySimpa false
set_option autoImplicit false
set_option maxRecDepth 1000000
namespace Go.DM
theorem Nck6 : view Nhp7 Ngr7 Nlo7 (runN Q Go.Proofs.Tryz.intr 4053 Nst6) = some (Nfr7, 3486, someAll Nlo7, true) := by kernel_rfl
theorem Nld6 : Leads Q Nst6 Nst7 := Leads.view Go.Proofs.Tryz.intrOk Go.Proofs.Tryz.noCount Go.Proofs.Tryz.mixed (by kernel_rfl) Nck6
end Go.DM
