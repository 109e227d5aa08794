/-
  DERIVED. GIVEN WITH THE SEED: THE CARDS: each row of YtckjndkmmfmjjaaGreatDoorRows.lean that lists a variable, with what it lists TIED to the program's text (the seventh form; the later family's looks); each row that meets fmt, with fmt's text TOLD by the authors' own Lean function (tested against real Go, not proved from fmt's source: count such statements apart). THE CARD IS WHAT COUNTS. Prove the row's statement (the work); the ties are given (YtckjndkmmfmjjaaGreatDoorTie.lean); close each card by the builder's one call (the guide's Derived/Test/ToyasCard.lean, 'card_holds'). Laid BY PROGRAM, IN A SANDBOX (cutbox-door.mjs). By AI agents, Wed Nov 11 2026. No macro, syntax, notation, axiom, sorry.
-/
import Derived.Test.YtckjndkmmfmjjaaGreatDoorRows
import GoSem.ClaimSeven
namespace Go.Proofs.YtckjndkmmfmjjaaGreatDoor
namespace Rows

/-- THE TIED CARD OF 'verdictlaw9.PointsMake'. -/
def pointsMakeCard : Claim7 := { stood := { row := pointsMakeRow, standIns := [], harness := (true, "8e99db14d330f02f3f24d10c6b389ac699b24c2da7d024efc20a22799f9e0b7e"), looks := true }, kinds := [], alts := [], laidByText := true, laidKinds := [.data, .data, .data, .data, .data, .data, .data, .data, .pinned], laidTests := true, laidLooks := .later }
def PointsMakeCardSaid : Prop := Claim7.holds Tryz.pinned (.plain (OpenSpec.ofChange pointsMakeSpec)) pointsMakeCard

/-- THE SECOND FORM's CARD OF 'verdictlaw9.PointsMake'. -/
def pointsMakeUptoCard : Claim7 := { stood := { row := pointsMakeUptoRow, standIns := [], harness := (true, "8e99db14d330f02f3f24d10c6b389ac699b24c2da7d024efc20a22799f9e0b7e"), looks := true }, kinds := [], alts := [], laidByText := true, laidKinds := [.data, .data, .data, .data, .data, .data, .data, .data, .pinned], laidTests := true, laidLooks := .later }
def PointsMakeUptoCardSaid : Prop := Claim7.holds Tryz.pinned (.plain (OpenSpec.upto pointsMakeSpec)) pointsMakeUptoCard
end Rows
end Go.Proofs.YtckjndkmmfmjjaaGreatDoor
