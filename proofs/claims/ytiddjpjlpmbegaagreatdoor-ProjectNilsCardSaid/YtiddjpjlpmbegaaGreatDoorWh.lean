import Derived.Test.YtiddjpjlpmbegaaGreatDoorWe
namespace Go.Proofs.YtiddjpjlpmbegaaGreatDoor
open Go
set_option maxRecDepth 100000
open Go.ChangeShapes Go.WideShapes Go.ChangeAt Go.RowKit
theorem shapedAt (os : Os) : (startWorld os).Shaped Tryz.prog := World.shaped_of_ZipB (shapedZip os) (by rw [beginHeap]; kernel_rfl)
end Go.Proofs.YtiddjpjlpmbegaaGreatDoor
