import Derived.Test.YtiddjpjlpmbegaaGreatDoorRows
import Derived.ProofKit
namespace Go.Proofs.YtiddjpjlpmbegaaGreatDoor
open Go
set_option maxRecDepth 100000
open Go.ChangeShapes Go.WideShapes Go.ChangeAt Go.RowKit
theorem stopsAt : Tryz.prog.stops = [] := by kernel_rfl
theorem stopKnobsAt : Tryz.prog.stopKnobs = [] := by kernel_rfl
theorem mapsRowedAt : mapsRowed Tryz.prog = true := by kernel_rfl
end Go.Proofs.YtiddjpjlpmbegaaGreatDoor
