import Derived.Test.YtiddjpjlpmbegaaGreatDoorRows
import Derived.ProofKit
import Derived.OpenShut
import Derived.LaidMore
import Derived.Lay
import Derived.LaidHandle
import Derived.Stop.Joined
namespace Go.Proofs.YtiddjpjlpmbegaaGreatDoor
open Go
set_option maxRecDepth 100000
open Go.ChangeShapes Go.WideShapes Go.ChangeAt Go.RowKit
/-- what the row lists -/
noncomputable abbrev listed : List (String × DataW Unit) := Rows.projectNilsRow.laid
noncomputable def plainListed : List (String × DataW Unit) := listed.filter fun x => x.2.handleName?.isNone
/-- the heap that a start leaves; the settled world with that heap, the one handle laid -/
noncomputable def heapBegun : List Obj := [.cells #[.nilIface] 298, .cells #[.int .i64 0] 3, .cells #[.bool false] 4, .cells #[.nilIface] 100, .cells #[.nilIface] 100, .cells #[.int .u64 0, .int .u64 0, .int .i64 0] 706, .cells #[.bool false] 4, .cells #[.int .u64 0, .int .u64 0, .int .i64 0] 706, .cells #[.slice none 0 0] 740, .cells #[.slice none 0 0] 137, .cells #[.slice none 0 0] 750, .cells (List.replicate 20 (.int .u64 0)).toArray 756, .cells (List.replicate 1392 (.int .u64 0)).toArray 764, .cells #[.slice none 0 0] 770, .cells (List.replicate 32 (.int .u8 0)).toArray 730, .cells (List.replicate 64 (.int .u8 0)).toArray 188, .cells ((Array.range 800).map fun t => .int .u64 (Int.ofNat t)) 0, .map #[] 0, .finalizers #[] none, .cells #[.bool false] 0, .finalizers #[] none]
noncomputable def handleWorld (os : Os) : World := { World.holding Tryz.prog os ⟨#[], #[], []⟩ with heap := (.cells #[.iface 384 (.agg #[typeHandle Tryz.prog 100])] 298 :: heapBegun.tail).toArray }
noncomputable def startWorld (os : Os) : World := (handleWorld os).layVars Tryz.prog plainListed
theorem startWorld_os (os : Os) : (startWorld os).os = os := World.layVars_os _ _ _
end Go.Proofs.YtiddjpjlpmbegaaGreatDoor
