import Derived.Test.YtiddjpjlpmbegaaGreatDoorRS0
import Derived.Test.YtiddjpjlpmbegaaGreatDoorRS1
import Derived.KernelRfl
set_option linter.unusedVariables false
set_option linter.unusedSimpArgs false
set_option linter.unnecessarySimpa false
set_option autoImplicit false
set_option maxRecDepth 1000000
namespace Go.DM
theorem Nck8 : view Nhp9 Ngr9 Nlo9 (runN Q Go.Proofs.Tryz.intr 4697 Nst8) = some (Nfr9, 4126, someAll Nlo9, true) := by kernel_rfl
theorem Nld8 : Leads Q Nst8 Nst9 := Leads.view Go.Proofs.Tryz.intrOk Go.Proofs.Tryz.noCount Go.Proofs.Tryz.mixed (by kernel_rfl) Nck8
end Go.DM
