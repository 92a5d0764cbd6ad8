import Derived.Test.YtiddjpjlpmbegaaGreatDoorRS0
import Derived.Test.YtiddjpjlpmbegaaGreatDoorRS1
import Derived.KernelRfl
set_option linter.unusedVariables false
set_option linter.unusedSimpArgs false
set_option linter.unnecessarySimpa false
set_option autoImplicit false
set_option maxRecDepth 1000000
namespace Go.DM
theorem Nck3 : view Nhp4 Ngr4 Nlo4 (runN Q Go.Proofs.Tryz.intr 5922 Nst3) = some (Nfr4, 2574, someAll Nlo4, true) := by kernel_rfl
theorem Nld3 : Leads Q Nst3 Nst4 := Leads.view Go.Proofs.Tryz.intrOk Go.Proofs.Tryz.noCount Go.Proofs.Tryz.mixed (by kernel_rfl) Nck3
end Go.DM
