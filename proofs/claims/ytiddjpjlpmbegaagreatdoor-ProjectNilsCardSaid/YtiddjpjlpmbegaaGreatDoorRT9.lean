import Derived.Test.YtiddjpjlpmbegaaGreatDoorRS0
import Derived.Test.YtiddjpjlpmbegaaGreatDoorRS1
import Derived.KernelRfl
set_option linter.unusedVariables false
set_option linter.unusedSimpArgs false
set_option linter.unnecessarySimpa false
set_option autoImplicit false
set_option maxRecDepth 1000000
namespace Go.DM
theorem Nck9 : view Nhp10 Ngr10 Nlo10 (runN Q Go.Proofs.Tryz.intr 4928 Nst9) = some (Nfr10, 4432, someAll Nlo10, true) := by kernel_rfl
theorem Nld9 : Leads Q Nst9 Nst10 := Leads.view Go.Proofs.Tryz.intrOk Go.Proofs.Tryz.noCount Go.Proofs.Tryz.mixed (by kernel_rfl) Nck9
end Go.DM
