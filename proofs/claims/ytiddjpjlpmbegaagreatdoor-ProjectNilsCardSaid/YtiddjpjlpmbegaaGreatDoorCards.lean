/-
  DERIVED. GIVEN WITH THE SEED: THE CARDS: each row of YtiddjpjlpmbegaaGreatDoorRows.lean that lists a variable, with what it lists TIED to the program's text (the seventh form; the later family's looks); each row that meets fmt, with fmt's text TOLD by the authors' own Lean function (tested against real Go, not proved from fmt's source: count such statements apart). THE CARD IS WHAT COUNTS. Prove the row's statement (the work); the ties are given (YtiddjpjlpmbegaaGreatDoorTie.lean); close each card by the builder's one call (the guide's Derived/Test/ToyasCard.lean, 'card_holds'). Laid BY PROGRAM, IN A SANDBOX (cutbox-door.mjs). By AI agents, Wed Nov 11 2026. No macro, syntax, notation, axiom, sorry.
-/
import Derived.Test.YtiddjpjlpmbegaaGreatDoorRows
import GoSem.ClaimSeven
namespace Go.Proofs.YtiddjpjlpmbegaaGreatDoor
namespace Rows

/-- THE TIED CARD OF 'foundrylaw27.ProjectNils'. -/
def projectNilsCard : Claim7 := { stood := { row := projectNilsRow, standIns := [], harness := (true, "2da7ab584471bc87f31bc1fb2c7f41a91a1d4cef1c6e0e16c4d1b27289c732a9"), looks := true }, kinds := [], alts := [], laidByText := true, laidKinds := [.data, .data, .widerDeep, .widerDeep, .data, .data, .data, .data, .data, .handle, .sentinel, .sentinel, .pinned, .pinned], laidTests := true, laidLooks := .later }
def ProjectNilsCardSaid : Prop := Claim7.holds Tryz.pinned (.plain (OpenSpec.ofChange projectNilsSpec)) projectNilsCard

/-- THE SECOND FORM's CARD OF 'foundrylaw27.ProjectNils'. -/
def projectNilsUptoCard : Claim7 := { stood := { row := projectNilsUptoRow, standIns := [], harness := (true, "2da7ab584471bc87f31bc1fb2c7f41a91a1d4cef1c6e0e16c4d1b27289c732a9"), looks := true }, kinds := [], alts := [], laidByText := true, laidKinds := [.data, .data, .widerDeep, .widerDeep, .data, .data, .data, .data, .data, .handle, .sentinel, .sentinel, .pinned, .pinned], laidTests := true, laidLooks := .later }
def ProjectNilsUptoCardSaid : Prop := Claim7.holds Tryz.pinned (.plain (OpenSpec.upto projectNilsSpec)) projectNilsUptoCard
end Rows
end Go.Proofs.YtiddjpjlpmbegaaGreatDoor
