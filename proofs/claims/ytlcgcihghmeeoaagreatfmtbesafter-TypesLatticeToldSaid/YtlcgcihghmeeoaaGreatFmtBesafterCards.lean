/-
  DERIVED. GIVEN WITH THE SEED: THE CARDS: each row of YtlcgcihghmeeoaaGreatFmtBesafterRows.lean that lists a variable, with what it lists TIED to the program's text (the seventh form; the later family's looks); each row that meets fmt, with fmt's text TOLD by the authors' own Lean function (tested against real Go, not proved from fmt's source: count such statements apart). THE CARD IS WHAT COUNTS. Prove the row's statement (the work); the ties are given (YtlcgcihghmeeoaaGreatFmtBesafterTie.lean); close each card by the builder's one call (the guide's Derived/Test/ToyasCard.lean, 'card_holds'). Laid BY PROGRAM, IN A SANDBOX (cutbox-door.mjs). By AI agents, Wed Nov 11 2026. No macro, syntax, notation, axiom, sorry.
-/
import Derived.Test.YtlcgcihghmeeoaaGreatFmtBesafterRows
import GoSem.ClaimSeven
namespace Go.Proofs.YtlcgcihghmeeoaaGreatFmtBesafter
namespace Rows

/-- THE TOLD AND TIED CARD OF 'verdictlaw5.TypesLattice'. -/
def typesLatticeCard : Claim7 := { stood := { row := typesLatticeRow, standIns := [], harness := (true, "ed93ad32cbc6847d3b8924341b72d283b138f0d69385a070bb192abae7254557"), looks := true }, told := true, laidByText := true, laidKinds := [.data, .data, .data, .sentinel, .data, .sentinel, .sentinel, .data, .data, .data, .data, .data, .pinned, .pinned], laidTests := true, laidLooks := .later, goes := false }
def TypesLatticeToldSaid : Prop := Claim7.holds Tryz.pinned (.plain (OpenSpec.ofChange typesLatticeSpec)) typesLatticeCard
/-- ITS FALSE NEIGHBOUR. Refute it at one input. -/
def TypesLatticeToldWrongFalsely : Prop := Claim7.holds Tryz.pinned (.plain (OpenSpec.ofChange typesLatticeWrong)) typesLatticeCard
end Rows
end Go.Proofs.YtlcgcihghmeeoaaGreatFmtBesafter
