/- ProjectNils: WHATEVER THE TWO TEXTS, the law's function returns true, and both arguments read as they did: the tied card. CONDITIONS: the package-level variables that the row lists start as the program's text lays them (tied); no other. -/
import Derived.Test.YtiddjpjlpmbegaaGreatDoorPa
namespace Go.Proofs.YtiddjpjlpmbegaaGreatDoor
open Go
set_option maxRecDepth 100000
open Go.ChangeShapes Go.WideShapes Go.ChangeAt Go.RowKit
theorem projectNils_card : Rows.ProjectNilsCardSaid :=
  Claim7.holds_tied_plain_at .later [] [.data, .data, .widerDeep, .widerDeep, .data, .data, .data, .data, .data, .handle, .sentinel, .sentinel, .pinned, .pinned] true (true, "2da7ab584471bc87f31bc1fb2c7f41a91a1d4cef1c6e0e16c4d1b27289c732a9") true projectNils_holds (fun _ h => by cases h) (by kernel_rfl) (fun _ h => by cases h) projectNils_row_tie rfl ⟨rfl, rfl⟩ (by kernel_rfl) rfl
    (fun f fn hf hfn => by
      obtain rfl : f = 3 := Option.some.inj ((show Tryz.prog.funcNamed "foundry/foundrylaw27.ProjectNils" = some 3 by kernel_rfl).symm.trans hf) |>.symm
      obtain rfl : fn = Tryz.f3 := (Option.some.inj (Tryz.func3.symm.trans hfn)).symm
      exact ⟨looksAt, fun j t ht => by
        rw [Tryz.params3] at ht
        have hm : t ∈ [9, 9] := by simpa using Array.mem_of_getElem? ht
        have hall : ([9, 9].all fun u => !Tryz.prog.wantsStandIn u) = true := by kernel_rfl
        exact (show Tryz.prog.wantsStandIn t = false by simpa using List.all_eq_true.1 hall t hm)⟩)
    goesNot
#print axioms projectNils_card
end Go.Proofs.YtiddjpjlpmbegaaGreatDoor
