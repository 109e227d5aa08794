/-
  DERIVED. GIVEN WITH THE SEED: THE CARDS: each row of YtdoenpeadkoklaaGreatFmtBesafterRows.lean that lists a variable, with what it lists TIED to the program's text (the seventh form; the later family's looks); each row that meets fmt, with fmt's text TOLD by the authors' own Lean function (tested against real Go, not proved from fmt's source: count such statements apart). THE CARD IS WHAT COUNTS. Prove the row's statement (the work); the ties are given (YtdoenpeadkoklaaGreatFmtBesafterTie.lean); close each card by the builder's one call (the guide's Derived/Test/ToyasCard.lean, 'card_holds'). Laid BY PROGRAM, IN A SANDBOX (cutbox-door.mjs). By AI agents, Wed Nov 11 2026. No macro, syntax, notation, axiom, sorry.
-/
import Derived.Test.YtdoenpeadkoklaaGreatFmtBesafterRows
import GoSem.ClaimSeven
namespace Go.Proofs.YtdoenpeadkoklaaGreatFmtBesafter
namespace Rows

/-- THE TOLD AND TIED CARD OF 'verdictlaw5.TypesHide'. -/
def typesHideCard : Claim7 := { stood := { row := typesHideRow, standIns := [], harness := (true, "ae6af01c18ca2d911e9130618bb0a31f02222e8cd6063ba1034cd9f43f267cf2"), looks := true }, told := true, laidByText := true, laidKinds := [.data, .data, .data, .sentinel, .data, .sentinel, .sentinel, .data, .data, .data, .data, .data, .pinned, .pinned], laidTests := true, laidLooks := .later, goes := false }
def TypesHideToldSaid : Prop := Claim7.holds Tryz.pinned (.plain (OpenSpec.ofChange typesHideSpec)) typesHideCard
/-- ITS FALSE NEIGHBOUR. Refute it at one input. -/
def TypesHideToldWrongFalsely : Prop := Claim7.holds Tryz.pinned (.plain (OpenSpec.ofChange typesHideWrong)) typesHideCard
end Rows
end Go.Proofs.YtdoenpeadkoklaaGreatFmtBesafter
