import Derived.Test.YtiddjpjlpmbegaaGreatDoorRS0
import Derived.Test.YtiddjpjlpmbegaaGreatDoorRS1
import Derived.KernelRfl
set_option linter.unusedVariables false
set_option linter.unusedSimpArgs false
set_option linter.unnecessarySimpa false
set_option autoImplicit false
set_option maxRecDepth 1000000
namespace Go.DM
theorem Nck7 : view Nhp8 Ngr8 Nlo8 (runN Q Go.Proofs.Tryz.intr 4606 Nst7) = some (Nfr8, 3791, someAll Nlo8, true) := by kernel_rfl
theorem Nld7 : Leads Q Nst7 Nst8 := Leads.view Go.Proofs.Tryz.intrOk Go.Proofs.Tryz.noCount Go.Proofs.Tryz.mixed (by kernel_rfl) Nck7
end Go.DM
