import Derived.Test.YtiddjpjlpmbegaaGreatDoorRS0
import Derived.Test.YtiddjpjlpmbegaaGreatDoorRS1
import Derived.KernelRfl
set_option linter.unusedVariables false
set_option linter.unusedSimpArgs false
set_option linter.unnecessarySimpa false
set_option autoImplicit false
set_option maxRecDepth 1000000
namespace Go.DM
theorem Nck10 : view Nhp11 Ngr11 Nlo11 (runN Q Go.Proofs.Tryz.intr 2918 Nst10) = some (Nfr11, 4688, someAll Nlo11, true) := by kernel_rfl
theorem Nld10 : Leads Q Nst10 Nst11 := Leads.view Go.Proofs.Tryz.intrOk Go.Proofs.Tryz.noCount Go.Proofs.Tryz.mixed (by kernel_rfl) Nck10
end Go.DM
