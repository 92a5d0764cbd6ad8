import Derived.Test.YtiddjpjlpmbegaaGreatDoorRS0
import Derived.Test.YtiddjpjlpmbegaaGreatDoorRS1
import Derived.KernelRfl
set_option linter.unusedVariables false
set_option linter.unusedSimpArgs false
set_option linter.unnecessarySimpa false
set_option autoImplicit false
set_option maxRecDepth 1000000
namespace Go.DM
theorem Nck0 : view Nhp1 Ngr1 Nlo1 (runN Q Go.Proofs.Tryz.intr 4424 Nst0) = some (Nfr1, 1289, someAll Nlo1, true) := by kernel_rfl
theorem Nld0 : Leads Q Nst0 Nst1 := Leads.view Go.Proofs.Tryz.intrOk Go.Proofs.Tryz.noCount Go.Proofs.Tryz.mixed (by kernel_rfl) Nck0
end Go.DM
