import Derived.Test.YtiddjpjlpmbegaaGreatDoorWa
namespace Go.Proofs.YtiddjpjlpmbegaaGreatDoor
open Go
set_option maxRecDepth 100000
open Go.ChangeShapes Go.WideShapes Go.ChangeAt Go.RowKit
theorem beginHeap : (begin Tryz.prog (fun _ _ => 0) default).world.heap = heapBegun.toArray := by kernel_rfl
end Go.Proofs.YtiddjpjlpmbegaaGreatDoor
