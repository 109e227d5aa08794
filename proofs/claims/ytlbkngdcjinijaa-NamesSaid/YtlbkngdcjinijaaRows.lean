/-
  NARROWER THAN 'FOR EVERY INPUT', by the rows' own cells (each row's printed sentence says how): LogicLaws: loops · LogicKnows: loops · TypesTell: loops.
  DERIVED. THE GIVEN ROWS OF THIS SEAT. 4 by the template 'for every input the law returns true; each argument reads behind the call as it read before'; 0 by the template 'total and deterministic' (their statements: YtlbkngdcjinijaaTotals.lean).
  GIVEN WITH THE SEED: the statements are not yours to turn. If you find one false, say at which input.
  Laid BY PROGRAM, IN A SANDBOX (cutbox-rows.mjs): the forced cells as the released guide's own fill.sh prints them over the translation 7a68f666c1db5459… (all of the seat's roots in one cut). By AI agents, Wed Nov 11 2026. No macro, syntax, notation, axiom, sorry.
-/
import Derived.Test.YtlbkngdcjinijaaChecked
import GoSem.Claim
import GoSem.ClaimJoined
import GoSem.ClaimMapViews
import Derived.JoinedTies
import Derived.KernelRfl
namespace Go.Proofs.Ytlbkngdcjinijaa
/- THE CELL 'sum', in the pinned program and in every row, IS THE sha256 OF THE DUMP (.gsa) THAT YtlbkngdcjinijaaProg.lean LOADS. Nothing in Lean hashes anything: it is a label: what it is worth is what the hold of that sum in a sandbox is worth. -/
noncomputable def Try.pinned : Pinned := { name := "ytlbkngdcjinijaa", sum := "7a68f666c1db5459254b870680fb324593d530d19c0900427890f30f8fc9c75a", checked := Try.checked }
namespace Rows
def none {H : Type} : Left H := { results := [], args := [] }

/-- 'verdictlaw2.LogicLaws': WHATEVER THE INPUT: true; the input reads as it did. -/
def logicLawsSpec : ChangeSpec := { name := "logicLaws", fn := fun _ => fun
  | [d1, d2, d3] => { results := [.lit (.bool true)], args := [d1, d2, d3] }
  | _ => none }
def logicLawsRow : OpenClaim := { program := "ytlbkngdcjinijaa", sum := "7a68f666c1db5459254b870680fb324593d530d19c0900427890f30f8fc9c75a", func := "verdict/verdictlaw2.LogicLaws", spec := "logicLaws", unfollowed := true, recurses := true, loops := true, apart := false }
def LogicLawsSaid : Prop := logicLawsRow.holds Try.pinned (OpenSpec.ofChange logicLawsSpec)

/-- ITS FALSE NEIGHBOUR: 'it returns false'. Refute it at one input. -/
def logicLawsWrong : ChangeSpec := { name := "logicLaws", fn := fun _ => fun
  | [d1, d2, d3] => { results := [.lit (.bool false)], args := [d1, d2, d3] }
  | _ => none }
def LogicLawsWrongFalsely : Prop := logicLawsRow.holds Try.pinned (OpenSpec.ofChange logicLawsWrong)

/-- 'verdictlaw2.LogicKnows': WHATEVER THE INPUT: true; the input reads as it did. -/
def logicKnowsSpec : ChangeSpec := { name := "logicKnows", fn := fun _ => fun
  | [d1, d2, d3] => { results := [.lit (.bool true)], args := [d1, d2, d3] }
  | _ => none }
def logicKnowsRow : OpenClaim := { program := "ytlbkngdcjinijaa", sum := "7a68f666c1db5459254b870680fb324593d530d19c0900427890f30f8fc9c75a", func := "verdict/verdictlaw2.LogicKnows", spec := "logicKnows", recurses := true, loops := true, apart := false }
def LogicKnowsSaid : Prop := logicKnowsRow.holds Try.pinned (OpenSpec.ofChange logicKnowsSpec)

/-- ITS FALSE NEIGHBOUR: 'it returns false'. Refute it at one input. -/
def logicKnowsWrong : ChangeSpec := { name := "logicKnows", fn := fun _ => fun
  | [d1, d2, d3] => { results := [.lit (.bool false)], args := [d1, d2, d3] }
  | _ => none }
def LogicKnowsWrongFalsely : Prop := logicKnowsRow.holds Try.pinned (OpenSpec.ofChange logicKnowsWrong)

/-- 'verdictlaw5.TypesTell': WHATEVER THE INPUT: true; the input reads as it did. -/
def typesTellSpec : ChangeSpec := { name := "typesTell", fn := fun _ => fun
  | [d1, d2, d3] => { results := [.lit (.bool true)], args := [d1, d2, d3] }
  | _ => none }
def typesTellRow : OpenClaim := { program := "ytlbkngdcjinijaa", sum := "7a68f666c1db5459254b870680fb324593d530d19c0900427890f30f8fc9c75a", func := "verdict/verdictlaw5.TypesTell", spec := "typesTell", recurses := true, loops := true, apart := false }
def TypesTellSaid : Prop := typesTellRow.holds Try.pinned (OpenSpec.ofChange typesTellSpec)

/-- ITS FALSE NEIGHBOUR: 'it returns false'. Refute it at one input. -/
def typesTellWrong : ChangeSpec := { name := "typesTell", fn := fun _ => fun
  | [d1, d2, d3] => { results := [.lit (.bool false)], args := [d1, d2, d3] }
  | _ => none }
def TypesTellWrongFalsely : Prop := typesTellRow.holds Try.pinned (OpenSpec.ofChange typesTellWrong)

/-- 'verdicttop.Names': WHATEVER THE INPUT: true; the input reads as it did. -/
def namesSpec : ChangeSpec := { name := "names", fn := fun _ => fun
  | [] => { results := [.lit (.bool true)], args := [] }
  | _ => none }
def namesRow : OpenClaim := { program := "ytlbkngdcjinijaa", sum := "7a68f666c1db5459254b870680fb324593d530d19c0900427890f30f8fc9c75a", func := "verdict/verdicttop.Names", spec := "names", apart := false }
def NamesSaid : Prop := namesRow.holds Try.pinned (OpenSpec.ofChange namesSpec)

/-- ITS FALSE NEIGHBOUR: 'it returns false'. Refute it at one input. -/
def namesWrong : ChangeSpec := { name := "names", fn := fun _ => fun
  | [] => { results := [.lit (.bool false)], args := [] }
  | _ => none }
def NamesWrongFalsely : Prop := namesRow.holds Try.pinned (OpenSpec.ofChange namesWrong)

/- THE SECOND FORM. 'bulk': how many values and letters a reading holds, each counted each time it is reached (what is shared counts as often as it is met; a slice's spare places count too). A statement '..UptoSaid' is the law's where the arguments, and the package variables that the reading takes, are together of bulk at most 1048576: NARROWER than '..Said'. Prove '..Said' where nothing that the law and all that it calls make is longer than what came in: it says more and counts as full. Else prove '..UptoSaid'. A law counts once. -/
mutual
def uptoBulk {H : Type} : DataW H → Nat
  | .lit (.string bytes) => bytes.length + 1
  | .lit _ => 1
  | .nil => 1
  | .ptr d => uptoBulk d + 1
  | .slice elems spare => uptoBulkAll elems + uptoBulkAll spare + 1
  | .agg parts => uptoBulkAll parts + 1
  | .iface _ d => uptoBulk d + 1
  | .map entries => uptoBulkEntries entries + 1
  | .held _ => 1
def uptoBulkAll {H : Type} : List (DataW H) → Nat
  | [] => 0
  | d :: r => uptoBulk d + uptoBulkAll r
def uptoBulkEntries {H : Type} : List (Lit × DataW H) → Nat
  | [] => 0
  | x :: r => uptoBulkEntry x + uptoBulkEntries r
def uptoBulkEntry {H : Type} : Lit × DataW H → Nat
  | (.string bytes, d) => bytes.length + uptoBulk d + 1
  | (_, d) => uptoBulk d + 1
 end
def uptoSmall : (H : Type) → List (DataW H) → Bool := fun _ ds => decide (uptoBulkAll ds ≤ 1048576)
def OpenSpec.upto (s : _root_.Go.ChangeSpec) : _root_.Go.OpenSpec := { _root_.Go.OpenSpec.ofChange s with cond := some uptoSmall }

/-- 'verdictlaw2.LogicLaws', WHERE WHAT IT READS IS OF BULK AT MOST 1048576: true; the input reads as it did. -/
def logicLawsUptoRow : OpenClaim := { program := "ytlbkngdcjinijaa", sum := "7a68f666c1db5459254b870680fb324593d530d19c0900427890f30f8fc9c75a", func := "verdict/verdictlaw2.LogicLaws", spec := "logicLaws", unfollowed := true, recurses := true, loops := true, apart := false, narrowed := true }
def LogicLawsUptoSaid : Prop := logicLawsUptoRow.holds Try.pinned (OpenSpec.upto logicLawsSpec)

/-- 'verdictlaw2.LogicKnows', WHERE WHAT IT READS IS OF BULK AT MOST 1048576: true; the input reads as it did. -/
def logicKnowsUptoRow : OpenClaim := { program := "ytlbkngdcjinijaa", sum := "7a68f666c1db5459254b870680fb324593d530d19c0900427890f30f8fc9c75a", func := "verdict/verdictlaw2.LogicKnows", spec := "logicKnows", recurses := true, loops := true, apart := false, narrowed := true }
def LogicKnowsUptoSaid : Prop := logicKnowsUptoRow.holds Try.pinned (OpenSpec.upto logicKnowsSpec)

/-- 'verdictlaw5.TypesTell', WHERE WHAT IT READS IS OF BULK AT MOST 1048576: true; the input reads as it did. -/
def typesTellUptoRow : OpenClaim := { program := "ytlbkngdcjinijaa", sum := "7a68f666c1db5459254b870680fb324593d530d19c0900427890f30f8fc9c75a", func := "verdict/verdictlaw5.TypesTell", spec := "typesTell", recurses := true, loops := true, apart := false, narrowed := true }
def TypesTellUptoSaid : Prop := typesTellUptoRow.holds Try.pinned (OpenSpec.upto typesTellSpec)

/-- 'verdicttop.Names', WHERE WHAT IT READS IS OF BULK AT MOST 1048576: true; the input reads as it did. -/
def namesUptoRow : OpenClaim := { program := "ytlbkngdcjinijaa", sum := "7a68f666c1db5459254b870680fb324593d530d19c0900427890f30f8fc9c75a", func := "verdict/verdicttop.Names", spec := "names", apart := false, narrowed := true }
def NamesUptoSaid : Prop := namesUptoRow.holds Try.pinned (OpenSpec.upto namesSpec)

end Rows
end Go.Proofs.Ytlbkngdcjinijaa
