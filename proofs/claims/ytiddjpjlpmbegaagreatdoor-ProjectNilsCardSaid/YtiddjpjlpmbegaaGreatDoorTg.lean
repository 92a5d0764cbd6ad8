import Derived.Test.YtiddjpjlpmbegaaGreatDoorTL
namespace Go.Proofs.YtiddjpjlpmbegaaGreatDoor
open Go
set_option maxRecDepth 100000
theorem tieG : ∀ os tape, doorLeaves Tryz.prog 98 8 65 tieList os tape = some (tieList.filter fun x => x.2.handleName?.isNone, (funcsListed tieList).map (·.2.funcsOut)) := fun _ _ => by kernel_rfl
end Go.Proofs.YtiddjpjlpmbegaaGreatDoor
