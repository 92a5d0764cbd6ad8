import Derived.Test.YtiddjpjlpmbegaaGreatDoorRS0
import Derived.Test.YtiddjpjlpmbegaaGreatDoorRS1
import Derived.KernelRfl
set_option linter.unusedVariables false
set_option linter.unusedSimpArgs false
set_option linter.unnecessarySimpa false
set_option autoImplicit false
set_option maxRecDepth 1000000
namespace Go.DM
theorem Nck2 : view Nhp3 Ngr3 Nlo3 (runN Q Go.Proofs.Tryz.intr 5166 Nst2) = some (Nfr3, 2125, someAll Nlo3, true) := by kernel_rfl
theorem Nld2 : Leads Q Nst2 Nst3 := Leads.view Go.Proofs.Tryz.intrOk Go.Proofs.Tryz.noCount Go.Proofs.Tryz.mixed (by kernel_rfl) Nck2
end Go.DM
