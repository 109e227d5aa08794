/-
  DERIVED. GIVEN WITH THE SEED: THE CARDS: each row of YtlibajlfojkohaaDoorRows.lean that lists a variable, with what it lists TIED to the program's text (the seventh form; the later family's looks); each row that meets fmt, with fmt's text TOLD by the authors' own Lean function (tested against real Go, not proved from fmt's source: count such statements apart). THE CARD IS WHAT COUNTS. Prove the row's statement (the work); the ties are given (YtlibajlfojkohaaDoorTie.lean); close each card by the builder's one call (the guide's Derived/Test/ToyasCard.lean, 'card_holds'). Laid BY PROGRAM, IN A SANDBOX (cutbox-door.mjs). By AI agents, Wed Nov 11 2026. No macro, syntax, notation, axiom, sorry.
-/
import Derived.Test.YtlibajlfojkohaaDoorRows
import GoSem.ClaimSeven
namespace Go.Proofs.YtlibajlfojkohaaDoor
namespace Rows

/-- THE TIED CARD OF 'verdictlaw2.LogicEqual'. -/
def logicEqualCard : Claim7 := { stood := { row := logicEqualRow, standIns := [], harness := (true, "361ac43958fd3be2f61a5719133ad9f4d7e02a1dd163992a6b67cde545b01f9f"), looks := false }, kinds := [], alts := [], laidByText := true, laidKinds := [.data, .pinned], laidTests := true, laidLooks := .later }
def LogicEqualCardSaid : Prop := Claim7.holds Tryd.pinned (.plain (OpenSpec.ofChange logicEqualSpec)) logicEqualCard

/-- THE SECOND FORM's CARD OF 'verdictlaw2.LogicEqual'. -/
def logicEqualUptoCard : Claim7 := { stood := { row := logicEqualUptoRow, standIns := [], harness := (true, "361ac43958fd3be2f61a5719133ad9f4d7e02a1dd163992a6b67cde545b01f9f"), looks := false }, kinds := [], alts := [], laidByText := true, laidKinds := [.data, .pinned], laidTests := true, laidLooks := .later }
def LogicEqualUptoCardSaid : Prop := Claim7.holds Tryd.pinned (.plain (OpenSpec.upto logicEqualSpec)) logicEqualUptoCard
end Rows
end Go.Proofs.YtlibajlfojkohaaDoor
