import Derived.Test.YtiddjpjlpmbegaaGreatDoorRS0
import Derived.Test.YtiddjpjlpmbegaaGreatDoorRS1
import Derived.KernelRfl
set_option linter.unusedVariables false
set_option linter.unusedSimpArgs false
set_option linter.unnecessarySimpa false
set_option autoImplicit false
set_option maxRecDepth 1000000
namespace Go.DM
theorem Nck1 : view Nhp2 Ngr2 Nlo2 (runN Q Go.Proofs.Tryz.intr 6349 Nst1) = some (Nfr2, 1745, someAll Nlo2, true) := by kernel_rfl
theorem Nld1 : Leads Q Nst1 Nst2 := Leads.view Go.Proofs.Tryz.intrOk Go.Proofs.Tryz.noCount Go.Proofs.Tryz.mixed (by kernel_rfl) Nck1
end Go.DM
