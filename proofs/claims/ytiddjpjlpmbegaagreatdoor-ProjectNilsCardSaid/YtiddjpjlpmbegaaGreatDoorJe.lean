import Derived.Test.YtiddjpjlpmbegaaGreatDoorJb
import Derived.Test.YtiddjpjlpmbegaaGreatDoorJc
import Derived.Test.YtiddjpjlpmbegaaGreatDoorJd
import Derived.Test.YtiddjpjlpmbegaaGreatDoorJhf
import Derived.ProofKit
namespace Go.Proofs.YtiddjpjlpmbegaaGreatDoor
open Go
set_option maxRecDepth 100000
open Go.ChangeShapes Go.WideShapes Go.ChangeAt Go.RowKit
theorem joined : joinedFacts Tryz.prog 3 Tryz.f3 Rows.projectNilsSpec Rows.projectNilsRow = true := by
  unfold joinedFacts
  rw [inPlaceAt, unfollowedAt, recursesAt, varsNamedAt, stopsAt, stopKnobsAt, laidOutAt, mapsRowedAt]
  kernel_rfl
end Go.Proofs.YtiddjpjlpmbegaaGreatDoor
