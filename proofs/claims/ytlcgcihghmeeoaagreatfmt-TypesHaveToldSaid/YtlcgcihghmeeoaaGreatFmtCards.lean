/-
  DERIVED. GIVEN WITH THE SEED: THE CARDS: each row of YtlcgcihghmeeoaaGreatFmtRows.lean that lists a variable, with what it lists TIED to the program's text (the seventh form; the later family's looks); each row that meets fmt, with fmt's text TOLD by the authors' own Lean function (tested against real Go, not proved from fmt's source: count such statements apart). THE CARD IS WHAT COUNTS. Prove the row's statement (the work); the ties are given (YtlcgcihghmeeoaaGreatFmtTie.lean); close each card by the builder's one call (the guide's Derived/Test/ToyasCard.lean, 'card_holds'). Laid BY PROGRAM, IN A SANDBOX (cutbox-door.mjs). By AI agents, Wed Nov 11 2026. No macro, syntax, notation, axiom, sorry.
-/
import Derived.Test.YtlcgcihghmeeoaaGreatFmtRows
import GoSem.ClaimSeven
namespace Go.Proofs.YtlcgcihghmeeoaaGreatFmt
namespace Rows

/-- THE TOLD AND TIED CARD OF 'verdictlaw5.TypesHide'. -/
def typesHideCard : Claim7 := { stood := { row := typesHideRow, standIns := [], harness := (true, "b9804efd2143ea03dc5c634afbe81b017dec2d9aa6d589fb4bdb36e7fd405e19"), looks := true }, told := true, laidByText := true, laidKinds := [.data, .data, .data, .sentinel, .data, .sentinel, .sentinel, .data, .data, .data, .data, .data, .pinned, .pinned], laidTests := true, laidLooks := .later, goes := false }
def TypesHideToldSaid : Prop := Claim7.holds Tryz.pinned (.plain (OpenSpec.ofChange typesHideSpec)) typesHideCard
/-- ITS FALSE NEIGHBOUR. Refute it at one input. -/
def TypesHideToldWrongFalsely : Prop := Claim7.holds Tryz.pinned (.plain (OpenSpec.ofChange typesHideWrong)) typesHideCard

/-- THE TOLD AND TIED CARD OF 'verdictlaw5.TypesHave'. -/
def typesHaveCard : Claim7 := { stood := { row := typesHaveRow, standIns := [], harness := (true, "b9804efd2143ea03dc5c634afbe81b017dec2d9aa6d589fb4bdb36e7fd405e19"), looks := true }, told := true, laidByText := true, laidKinds := [.data, .data, .data, .sentinel, .data, .sentinel, .sentinel, .data, .data, .data, .data, .data, .pinned, .pinned], laidTests := true, laidLooks := .later, goes := false }
def TypesHaveToldSaid : Prop := Claim7.holds Tryz.pinned (.plain (OpenSpec.ofChange typesHaveSpec)) typesHaveCard
/-- ITS FALSE NEIGHBOUR. Refute it at one input. -/
def TypesHaveToldWrongFalsely : Prop := Claim7.holds Tryz.pinned (.plain (OpenSpec.ofChange typesHaveWrong)) typesHaveCard
end Rows
end Go.Proofs.YtlcgcihghmeeoaaGreatFmt
