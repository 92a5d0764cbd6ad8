import Derived.Test.YtiddjpjlpmbegaaGreatDoorWg
namespace Go.Proofs.YtiddjpjlpmbegaaGreatDoor
open Go
set_option maxRecDepth 100000
open Go.ChangeShapes Go.WideShapes Go.ChangeAt Go.RowKit
theorem shapedZip (os : Os) : (startWorld os).variablesZipB Tryz.prog = true := by
  unfold World.variablesZipB
  simp only [beginHeap]
  kernel_rfl
end Go.Proofs.YtiddjpjlpmbegaaGreatDoor
