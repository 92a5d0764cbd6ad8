import Derived.Test.YtiddjpjlpmbegaaGreatDoorRT0
import Derived.Test.YtiddjpjlpmbegaaGreatDoorRT1
import Derived.Test.YtiddjpjlpmbegaaGreatDoorRT2
import Derived.Test.YtiddjpjlpmbegaaGreatDoorRT3
import Derived.Test.YtiddjpjlpmbegaaGreatDoorRT4
import Derived.Test.YtiddjpjlpmbegaaGreatDoorRT5
import Derived.Test.YtiddjpjlpmbegaaGreatDoorRT6
import Derived.Test.YtiddjpjlpmbegaaGreatDoorRT7
import Derived.Test.YtiddjpjlpmbegaaGreatDoorRT8
import Derived.Test.YtiddjpjlpmbegaaGreatDoorRT9
import Derived.Test.YtiddjpjlpmbegaaGreatDoorRT10
set_option linter.unusedVariables false
set_option linter.unusedSimpArgs false
set_option linter.unnecessarySimpa false
set_option autoImplicit false
set_option maxRecDepth 1000000
namespace Go.DM
open Go.RowKit
theorem Nall : Leads Q (startOf Q 3 [.bad, .bad] 1000) Nst11 := ((((((((((Nld0).trans Nld1).trans Nld2).trans Nld3).trans Nld4).trans Nld5).trans Nld6).trans Nld7).trans Nld8).trans Nld9).trans Nld10
theorem Nres : resultsD Q (match Nst11 with | .mk _ h => h) (match Nfr11 with | .mk _ t _ _ _ _ _ :: _ => t | _ => .nil) (Go.Proofs.Tryz.funcD 3).results.toList = some [.bool true] := by kernel_rfl
theorem Ncalls (x y : Value) (w : World) : Calls Q 3 #[x, y] w fun e w' => e = .returned (.bool true) ∧ Below w.heap.size w w' := by
  have hb : bodyOf Q 3 = some (Go.Proofs.Tryz.bodyD 3) := Go.Proofs.some_getD (by kernel_rfl)
  have hf : Q.funcs[3]? = some (Go.Proofs.Tryz.funcD 3) := Go.Proofs.some_getD (by kernel_rfl)
  have hv : VRL Q .none [.bad, .bad] #[x, y].toList := ⟨_, _, rfl, trivial, ⟨_, _, rfl, trivial, rfl⟩⟩
  refine calls_of_leads (tmps := match Nfr11 with | .mk _ t _ _ _ _ _ :: _ => t | _ => .nil) (todo := match Nfr11 with | .mk _ _ t _ _ _ _ :: _ => t | _ => []) (h := match Nst11 with | .mk _ h => h) hb hf hv Nall Nres w _ fun φ x w' H hv => ?_
  simp only [one, VR] at hv
  exact ⟨by rw [hv], H.below⟩
#print axioms Ncalls
end Go.DM
