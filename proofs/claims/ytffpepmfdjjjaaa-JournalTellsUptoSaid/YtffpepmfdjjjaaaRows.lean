/-
  NARROWER THAN 'FOR EVERY INPUT', by the rows' own cells (each row's printed sentence says how): WirePacks: loops · WireTells: loops · WireTurns: loops · WireGuards: loops · WireWhole: loops · JournalTells: loops · JournalTorn: loops · JournalGoesOn: loops · JournalSpoilt: loops.
  DERIVED. THE GIVEN ROWS OF THIS SEAT. 9 by the template 'for every input the law returns true; each argument reads behind the call as it read before'; 0 by the template 'total and deterministic' (their statements: YtffpepmfdjjjaaaTotals.lean).
  GIVEN WITH THE SEED: the statements are not yours to turn. If you find one false, say at which input.
  Laid BY PROGRAM, IN A SANDBOX (cutbox-rows.mjs): the forced cells as the released guide's own fill.sh prints them over the translation bf523efb814543d8… (all of the seat's roots in one cut). By AI agents, Wed Nov 11 2026. No macro, syntax, notation, axiom, sorry.
-/
import Derived.Test.YtffpepmfdjjjaaaChecked
import GoSem.Claim
import GoSem.ClaimJoined
import GoSem.ClaimMapViews
import Derived.JoinedTies
import Derived.KernelRfl
namespace Go.Proofs.Ytffpepmfdjjjaaa
/- THE CELL 'sum', in the pinned program and in every row, IS THE sha256 OF THE DUMP (.gsa) THAT YtffpepmfdjjjaaaProg.lean LOADS. Nothing in Lean hashes anything: it is a label: what it is worth is what the hold of that sum in a sandbox is worth. -/
noncomputable def Try.pinned : Pinned := { name := "ytffpepmfdjjjaaa", sum := "bf523efb814543d845bfc4f125200473e7f5cfb1015515c217ddcc57b5023a25", checked := Try.checked }
namespace Rows
def none {H : Type} : Left H := { results := [], args := [] }

/-- 'verdictlaw13.WirePacks': WHATEVER THE INPUT: true; the input reads as it did. -/
def wirePacksSpec : ChangeSpec := { name := "wirePacks", fn := fun _ => fun
  | [d1, d2] => { results := [.lit (.bool true)], args := [d1, d2] }
  | _ => none }
def wirePacksRow : OpenClaim := { program := "ytffpepmfdjjjaaa", sum := "bf523efb814543d845bfc4f125200473e7f5cfb1015515c217ddcc57b5023a25", func := "verdict/verdictlaw13.WirePacks", spec := "wirePacks", unfollowed := true, recurses := true, loops := true, apart := false }
def WirePacksSaid : Prop := wirePacksRow.holds Try.pinned (OpenSpec.ofChange wirePacksSpec)

/-- ITS FALSE NEIGHBOUR: 'it returns false'. Refute it at one input. -/
def wirePacksWrong : ChangeSpec := { name := "wirePacks", fn := fun _ => fun
  | [d1, d2] => { results := [.lit (.bool false)], args := [d1, d2] }
  | _ => none }
def WirePacksWrongFalsely : Prop := wirePacksRow.holds Try.pinned (OpenSpec.ofChange wirePacksWrong)

/-- 'verdictlaw13.WireTells': WHATEVER THE INPUT: true; the input reads as it did. -/
def wireTellsSpec : ChangeSpec := { name := "wireTells", fn := fun _ => fun
  | [d1, d2] => { results := [.lit (.bool true)], args := [d1, d2] }
  | _ => none }
def wireTellsRow : OpenClaim := { program := "ytffpepmfdjjjaaa", sum := "bf523efb814543d845bfc4f125200473e7f5cfb1015515c217ddcc57b5023a25", func := "verdict/verdictlaw13.WireTells", spec := "wireTells", unfollowed := true, recurses := true, loops := true, apart := false }
def WireTellsSaid : Prop := wireTellsRow.holds Try.pinned (OpenSpec.ofChange wireTellsSpec)

/-- ITS FALSE NEIGHBOUR: 'it returns false'. Refute it at one input. -/
def wireTellsWrong : ChangeSpec := { name := "wireTells", fn := fun _ => fun
  | [d1, d2] => { results := [.lit (.bool false)], args := [d1, d2] }
  | _ => none }
def WireTellsWrongFalsely : Prop := wireTellsRow.holds Try.pinned (OpenSpec.ofChange wireTellsWrong)

/-- 'verdictlaw13.WireTurns': WHATEVER THE INPUT: true; the input reads as it did. -/
def wireTurnsSpec : ChangeSpec := { name := "wireTurns", fn := fun _ => fun
  | [d1, d2] => { results := [.lit (.bool true)], args := [d1, d2] }
  | _ => none }
def wireTurnsRow : OpenClaim := { program := "ytffpepmfdjjjaaa", sum := "bf523efb814543d845bfc4f125200473e7f5cfb1015515c217ddcc57b5023a25", func := "verdict/verdictlaw13.WireTurns", spec := "wireTurns", unfollowed := true, recurses := true, loops := true, apart := false }
def WireTurnsSaid : Prop := wireTurnsRow.holds Try.pinned (OpenSpec.ofChange wireTurnsSpec)

/-- ITS FALSE NEIGHBOUR: 'it returns false'. Refute it at one input. -/
def wireTurnsWrong : ChangeSpec := { name := "wireTurns", fn := fun _ => fun
  | [d1, d2] => { results := [.lit (.bool false)], args := [d1, d2] }
  | _ => none }
def WireTurnsWrongFalsely : Prop := wireTurnsRow.holds Try.pinned (OpenSpec.ofChange wireTurnsWrong)

/-- 'verdictlaw13.WireGuards': WHATEVER THE INPUT: true; the input reads as it did. -/
def wireGuardsSpec : ChangeSpec := { name := "wireGuards", fn := fun _ => fun
  | [d1, d2, d3] => { results := [.lit (.bool true)], args := [d1, d2, d3] }
  | _ => none }
def wireGuardsRow : OpenClaim := { program := "ytffpepmfdjjjaaa", sum := "bf523efb814543d845bfc4f125200473e7f5cfb1015515c217ddcc57b5023a25", func := "verdict/verdictlaw13.WireGuards", spec := "wireGuards", unfollowed := true, recurses := true, loops := true, apart := false }
def WireGuardsSaid : Prop := wireGuardsRow.holds Try.pinned (OpenSpec.ofChange wireGuardsSpec)

/-- ITS FALSE NEIGHBOUR: 'it returns false'. Refute it at one input. -/
def wireGuardsWrong : ChangeSpec := { name := "wireGuards", fn := fun _ => fun
  | [d1, d2, d3] => { results := [.lit (.bool false)], args := [d1, d2, d3] }
  | _ => none }
def WireGuardsWrongFalsely : Prop := wireGuardsRow.holds Try.pinned (OpenSpec.ofChange wireGuardsWrong)

/-- 'verdictlaw13.WireWhole': WHATEVER THE INPUT: true; the input reads as it did. -/
def wireWholeSpec : ChangeSpec := { name := "wireWhole", fn := fun _ => fun
  | [d] => { results := [.lit (.bool true)], args := [d] }
  | _ => none }
def wireWholeRow : OpenClaim := { program := "ytffpepmfdjjjaaa", sum := "bf523efb814543d845bfc4f125200473e7f5cfb1015515c217ddcc57b5023a25", func := "verdict/verdictlaw13.WireWhole", spec := "wireWhole", unfollowed := true, recurses := true, loops := true, apart := false }
def WireWholeSaid : Prop := wireWholeRow.holds Try.pinned (OpenSpec.ofChange wireWholeSpec)

/-- ITS FALSE NEIGHBOUR: 'it returns false'. Refute it at one input. -/
def wireWholeWrong : ChangeSpec := { name := "wireWhole", fn := fun _ => fun
  | [d] => { results := [.lit (.bool false)], args := [d] }
  | _ => none }
def WireWholeWrongFalsely : Prop := wireWholeRow.holds Try.pinned (OpenSpec.ofChange wireWholeWrong)

/-- 'verdictlaw14.JournalTells': WHATEVER THE INPUT: true; the input reads as it did. -/
def journalTellsSpec : ChangeSpec := { name := "journalTells", fn := fun _ => fun
  | [d1, d2, d3] => { results := [.lit (.bool true)], args := [d1, d2, d3] }
  | _ => none }
def journalTellsRow : OpenClaim := { program := "ytffpepmfdjjjaaa", sum := "bf523efb814543d845bfc4f125200473e7f5cfb1015515c217ddcc57b5023a25", func := "verdict/verdictlaw14.JournalTells", spec := "journalTells", unfollowed := true, recurses := true, loops := true, apart := false }
def JournalTellsSaid : Prop := journalTellsRow.holds Try.pinned (OpenSpec.ofChange journalTellsSpec)

/-- ITS FALSE NEIGHBOUR: 'it returns false'. Refute it at one input. -/
def journalTellsWrong : ChangeSpec := { name := "journalTells", fn := fun _ => fun
  | [d1, d2, d3] => { results := [.lit (.bool false)], args := [d1, d2, d3] }
  | _ => none }
def JournalTellsWrongFalsely : Prop := journalTellsRow.holds Try.pinned (OpenSpec.ofChange journalTellsWrong)

/-- 'verdictlaw14.JournalTorn': WHATEVER THE INPUT: true; the input reads as it did. -/
def journalTornSpec : ChangeSpec := { name := "journalTorn", fn := fun _ => fun
  | [d1, d2] => { results := [.lit (.bool true)], args := [d1, d2] }
  | _ => none }
def journalTornRow : OpenClaim := { program := "ytffpepmfdjjjaaa", sum := "bf523efb814543d845bfc4f125200473e7f5cfb1015515c217ddcc57b5023a25", func := "verdict/verdictlaw14.JournalTorn", spec := "journalTorn", unfollowed := true, recurses := true, loops := true, apart := false }
def JournalTornSaid : Prop := journalTornRow.holds Try.pinned (OpenSpec.ofChange journalTornSpec)

/-- ITS FALSE NEIGHBOUR: 'it returns false'. Refute it at one input. -/
def journalTornWrong : ChangeSpec := { name := "journalTorn", fn := fun _ => fun
  | [d1, d2] => { results := [.lit (.bool false)], args := [d1, d2] }
  | _ => none }
def JournalTornWrongFalsely : Prop := journalTornRow.holds Try.pinned (OpenSpec.ofChange journalTornWrong)

/-- 'verdictlaw14.JournalGoesOn': WHATEVER THE INPUT: true; the input reads as it did. -/
def journalGoesOnSpec : ChangeSpec := { name := "journalGoesOn", fn := fun _ => fun
  | [d1, d2] => { results := [.lit (.bool true)], args := [d1, d2] }
  | _ => none }
def journalGoesOnRow : OpenClaim := { program := "ytffpepmfdjjjaaa", sum := "bf523efb814543d845bfc4f125200473e7f5cfb1015515c217ddcc57b5023a25", func := "verdict/verdictlaw14.JournalGoesOn", spec := "journalGoesOn", unfollowed := true, recurses := true, loops := true, apart := false }
def JournalGoesOnSaid : Prop := journalGoesOnRow.holds Try.pinned (OpenSpec.ofChange journalGoesOnSpec)

/-- ITS FALSE NEIGHBOUR: 'it returns false'. Refute it at one input. -/
def journalGoesOnWrong : ChangeSpec := { name := "journalGoesOn", fn := fun _ => fun
  | [d1, d2] => { results := [.lit (.bool false)], args := [d1, d2] }
  | _ => none }
def JournalGoesOnWrongFalsely : Prop := journalGoesOnRow.holds Try.pinned (OpenSpec.ofChange journalGoesOnWrong)

/-- 'verdictlaw14.JournalSpoilt': WHATEVER THE INPUT: true; the input reads as it did. -/
def journalSpoiltSpec : ChangeSpec := { name := "journalSpoilt", fn := fun _ => fun
  | [d1, d2, d3, d4, d5] => { results := [.lit (.bool true)], args := [d1, d2, d3, d4, d5] }
  | _ => none }
def journalSpoiltRow : OpenClaim := { program := "ytffpepmfdjjjaaa", sum := "bf523efb814543d845bfc4f125200473e7f5cfb1015515c217ddcc57b5023a25", func := "verdict/verdictlaw14.JournalSpoilt", spec := "journalSpoilt", unfollowed := true, recurses := true, loops := true, apart := false }
def JournalSpoiltSaid : Prop := journalSpoiltRow.holds Try.pinned (OpenSpec.ofChange journalSpoiltSpec)

/-- ITS FALSE NEIGHBOUR: 'it returns false'. Refute it at one input. -/
def journalSpoiltWrong : ChangeSpec := { name := "journalSpoilt", fn := fun _ => fun
  | [d1, d2, d3, d4, d5] => { results := [.lit (.bool false)], args := [d1, d2, d3, d4, d5] }
  | _ => none }
def JournalSpoiltWrongFalsely : Prop := journalSpoiltRow.holds Try.pinned (OpenSpec.ofChange journalSpoiltWrong)

/- THE SECOND FORM. 'bulk': how many values and letters a reading holds, each counted each time it is reached (what is shared counts as often as it is met; a slice's spare places count too). A statement '..UptoSaid' is the law's where the arguments, and the package variables that the reading takes, are together of bulk at most 1048576: NARROWER than '..Said'. Prove '..Said' where nothing that the law and all that it calls make is longer than what came in: it says more and counts as full. Else prove '..UptoSaid'. A law counts once. -/
mutual
def uptoBulk {H : Type} : DataW H → Nat
  | .lit (.string bytes) => bytes.length + 1
  | .lit _ => 1
  | .nil => 1
  | .ptr d => uptoBulk d + 1
  | .slice elems spare => uptoBulkAll elems + uptoBulkAll spare + 1
  | .agg parts => uptoBulkAll parts + 1
  | .iface _ d => uptoBulk d + 1
  | .map entries => uptoBulkEntries entries + 1
  | .held _ => 1
def uptoBulkAll {H : Type} : List (DataW H) → Nat
  | [] => 0
  | d :: r => uptoBulk d + uptoBulkAll r
def uptoBulkEntries {H : Type} : List (Lit × DataW H) → Nat
  | [] => 0
  | x :: r => uptoBulkEntry x + uptoBulkEntries r
def uptoBulkEntry {H : Type} : Lit × DataW H → Nat
  | (.string bytes, d) => bytes.length + uptoBulk d + 1
  | (_, d) => uptoBulk d + 1
 end
def uptoSmall : (H : Type) → List (DataW H) → Bool := fun _ ds => decide (uptoBulkAll ds ≤ 1048576)
def OpenSpec.upto (s : _root_.Go.ChangeSpec) : _root_.Go.OpenSpec := { _root_.Go.OpenSpec.ofChange s with cond := some uptoSmall }

/-- 'verdictlaw13.WirePacks', WHERE WHAT IT READS IS OF BULK AT MOST 1048576: true; the input reads as it did. -/
def wirePacksUptoRow : OpenClaim := { program := "ytffpepmfdjjjaaa", sum := "bf523efb814543d845bfc4f125200473e7f5cfb1015515c217ddcc57b5023a25", func := "verdict/verdictlaw13.WirePacks", spec := "wirePacks", unfollowed := true, recurses := true, loops := true, apart := false, narrowed := true }
def WirePacksUptoSaid : Prop := wirePacksUptoRow.holds Try.pinned (OpenSpec.upto wirePacksSpec)

/-- 'verdictlaw13.WireTells', WHERE WHAT IT READS IS OF BULK AT MOST 1048576: true; the input reads as it did. -/
def wireTellsUptoRow : OpenClaim := { program := "ytffpepmfdjjjaaa", sum := "bf523efb814543d845bfc4f125200473e7f5cfb1015515c217ddcc57b5023a25", func := "verdict/verdictlaw13.WireTells", spec := "wireTells", unfollowed := true, recurses := true, loops := true, apart := false, narrowed := true }
def WireTellsUptoSaid : Prop := wireTellsUptoRow.holds Try.pinned (OpenSpec.upto wireTellsSpec)

/-- 'verdictlaw13.WireTurns', WHERE WHAT IT READS IS OF BULK AT MOST 1048576: true; the input reads as it did. -/
def wireTurnsUptoRow : OpenClaim := { program := "ytffpepmfdjjjaaa", sum := "bf523efb814543d845bfc4f125200473e7f5cfb1015515c217ddcc57b5023a25", func := "verdict/verdictlaw13.WireTurns", spec := "wireTurns", unfollowed := true, recurses := true, loops := true, apart := false, narrowed := true }
def WireTurnsUptoSaid : Prop := wireTurnsUptoRow.holds Try.pinned (OpenSpec.upto wireTurnsSpec)

/-- 'verdictlaw13.WireGuards', WHERE WHAT IT READS IS OF BULK AT MOST 1048576: true; the input reads as it did. -/
def wireGuardsUptoRow : OpenClaim := { program := "ytffpepmfdjjjaaa", sum := "bf523efb814543d845bfc4f125200473e7f5cfb1015515c217ddcc57b5023a25", func := "verdict/verdictlaw13.WireGuards", spec := "wireGuards", unfollowed := true, recurses := true, loops := true, apart := false, narrowed := true }
def WireGuardsUptoSaid : Prop := wireGuardsUptoRow.holds Try.pinned (OpenSpec.upto wireGuardsSpec)

/-- 'verdictlaw13.WireWhole', WHERE WHAT IT READS IS OF BULK AT MOST 1048576: true; the input reads as it did. -/
def wireWholeUptoRow : OpenClaim := { program := "ytffpepmfdjjjaaa", sum := "bf523efb814543d845bfc4f125200473e7f5cfb1015515c217ddcc57b5023a25", func := "verdict/verdictlaw13.WireWhole", spec := "wireWhole", unfollowed := true, recurses := true, loops := true, apart := false, narrowed := true }
def WireWholeUptoSaid : Prop := wireWholeUptoRow.holds Try.pinned (OpenSpec.upto wireWholeSpec)

/-- 'verdictlaw14.JournalTells', WHERE WHAT IT READS IS OF BULK AT MOST 1048576: true; the input reads as it did. -/
def journalTellsUptoRow : OpenClaim := { program := "ytffpepmfdjjjaaa", sum := "bf523efb814543d845bfc4f125200473e7f5cfb1015515c217ddcc57b5023a25", func := "verdict/verdictlaw14.JournalTells", spec := "journalTells", unfollowed := true, recurses := true, loops := true, apart := false, narrowed := true }
def JournalTellsUptoSaid : Prop := journalTellsUptoRow.holds Try.pinned (OpenSpec.upto journalTellsSpec)

/-- 'verdictlaw14.JournalTorn', WHERE WHAT IT READS IS OF BULK AT MOST 1048576: true; the input reads as it did. -/
def journalTornUptoRow : OpenClaim := { program := "ytffpepmfdjjjaaa", sum := "bf523efb814543d845bfc4f125200473e7f5cfb1015515c217ddcc57b5023a25", func := "verdict/verdictlaw14.JournalTorn", spec := "journalTorn", unfollowed := true, recurses := true, loops := true, apart := false, narrowed := true }
def JournalTornUptoSaid : Prop := journalTornUptoRow.holds Try.pinned (OpenSpec.upto journalTornSpec)

/-- 'verdictlaw14.JournalGoesOn', WHERE WHAT IT READS IS OF BULK AT MOST 1048576: true; the input reads as it did. -/
def journalGoesOnUptoRow : OpenClaim := { program := "ytffpepmfdjjjaaa", sum := "bf523efb814543d845bfc4f125200473e7f5cfb1015515c217ddcc57b5023a25", func := "verdict/verdictlaw14.JournalGoesOn", spec := "journalGoesOn", unfollowed := true, recurses := true, loops := true, apart := false, narrowed := true }
def JournalGoesOnUptoSaid : Prop := journalGoesOnUptoRow.holds Try.pinned (OpenSpec.upto journalGoesOnSpec)

/-- 'verdictlaw14.JournalSpoilt', WHERE WHAT IT READS IS OF BULK AT MOST 1048576: true; the input reads as it did. -/
def journalSpoiltUptoRow : OpenClaim := { program := "ytffpepmfdjjjaaa", sum := "bf523efb814543d845bfc4f125200473e7f5cfb1015515c217ddcc57b5023a25", func := "verdict/verdictlaw14.JournalSpoilt", spec := "journalSpoilt", unfollowed := true, recurses := true, loops := true, apart := false, narrowed := true }
def JournalSpoiltUptoSaid : Prop := journalSpoiltUptoRow.holds Try.pinned (OpenSpec.upto journalSpoiltSpec)

end Rows
end Go.Proofs.Ytffpepmfdjjjaaa
