/- The law TypesLattice holds, as a told and tied card: for every three types the program returns true, and leaves them as they were. Conditions: the listed variables hold what the program's own text lays (tied by the card); the texts of package fmt are told, and none is asked for. -/
import Derived.Test.YtlcgcihghmeeoaaGreatFmtBesafterOwnC
import Derived.Test.YtlcgcihghmeeoaaGreatFmtBesafterPureB
import Derived.Test.YtlcgcihghmeeoaaGreatFmtBesafterPureF
import Derived.Test.YtlcgcihghmeeoaaGreatFmtBesafterCards
import Derived.Test.YtlcgcihghmeeoaaGreatFmtBesafterTie
import Derived.Deep.DeepWitnessRef
import Derived.Stop.JoinedTold
import Derived.Lib.LaidRTabT
import Derived.Lib.LaidIn
import Derived.Lib.LaidU8T
import Derived.PinnedBridge
import Derived.ProofKit
import Derived.SizedLaws
import Derived.Test.YtlcgcihghmeeoaaGreatFmtBesafterOwnE
namespace Go.Proofs.YtlcgcihghmeeoaaGreatFmtBesafter
open Go Go.Pure Go.Shelf Go.Lib

theorem own : Go.ownKnob Tryz.prog.godebug = none := by kernel_rfl
theorem laidOut : laidOutB Tryz.prog = true := by kernel_rfl
/-- The numbers of a range table's types. -/
def renR : Ren := ⟨fun n => n, fun | 3 => 3 | 49 => 155 | 51 => 132 | 141 => 134 | 193 => 151 | 194 => 152 | 196 => 154 | 198 => 157 | 201 => 160 | n => n, fun n => n⟩
theorem tyR : RTypes Tryz.prog renR := ⟨Tryz.underlying3, Tryz.underlying155, Tryz.underlying132, Tryz.underlying134, Tryz.underlying151, Tryz.underlying152, Tryz.underlying154, Tryz.underlying157, Tryz.underlying160⟩
theorem xR : RExtra Tryz.prog renR := ⟨by kernel_rfl, by kernel_rfl, by kernel_rfl, by kernel_rfl, by kernel_rfl, by kernel_rfl, by kernel_rfl, by kernel_rfl⟩

def numsOf : DataW Unit → Array Value
  | .agg l => (l.filterMap fun d => match d with | .lit (.int k z) => some (Value.int k z) | _ => none).toArray
  | .lit (.int k z) => #[.int k z]
  | _ => #[]
noncomputable abbrev N0 : Nat := (World.settled Tryz.prog default).heap.size
/-- A world for the witness: the listed variables hold what their initialisers lay. -/
noncomputable def laidWorld (os : Os) : World :=
  let N := (World.settled Tryz.prog os).heap.size
  let w0 := World.holding Tryz.prog os ⟨#[
    .cells (rgCells .u16 letterT.r16) 157, .cells (rgCells .u32 letterT.r32) 160,
    .cells #[.slice (some ⟨N, 0, none⟩) letterT.r16.size letterT.r16.size, .slice (some ⟨N + 1, 0, none⟩) letterT.r32.size letterT.r32.size, .int .i64 letterT.off] 154,
    .cells #[.string ⟨#[69, 79, 70]⟩] 393,
    .cells #[.string ⟨#[110, 117, 109, 98, 101, 114, 32, 104, 97, 115, 32, 110, 111, 32, 100, 105, 103, 105, 116, 115]⟩] 393,
    .cells #[.string ⟨#[39, 95, 39, 32, 109, 117, 115, 116, 32, 115, 101, 112, 97, 114, 97, 116, 101, 32, 115, 117, 99, 99, 101, 115, 115, 105, 118, 101, 32, 100, 105, 103, 105, 116, 115]⟩] 393], #[], []⟩
  let put (h : Array Obj) (x : Nat × Array Value) : Array Obj := h.modify x.1 fun
    | .cells _ t frozen => .cells x.2 t frozen
    | o => o
  let h := [(17, numsOf Rows.laid_math_bits_deBruijn32tab), (18, numsOf Rows.laid_math_bits_deBruijn64tab), (1, ((List.range 16).flatMap fun i => [Value.int .u8 (Lib.accLo i), Value.int .u8 (Lib.accHi i)]).toArray),
    (4, #[.iface 375 (.pointer (some ⟨N + 3, 0, none⟩))]), (2, numsOf Rows.laid_unicode_properties), (8, #[.iface 375 (.pointer (some ⟨N + 4, 0, none⟩))]), (7, #[.iface 375 (.pointer (some ⟨N + 5, 0, none⟩))]),
    (22, #[.int .i64 8]), (14, #[.int .i64 40]), (11, #[.int .i64 40]), (9, #[.int .i64 12]), (10, #[.int .i64 80]), (3, #[.pointer (some ⟨N + 2, 0, none⟩)]), (0, (Lib.firstTab.map fun z => Value.int .u8 z).toArray)].foldl put w0.heap
  { w0 with heap := h }

theorem piece0 (os : Os) (args : Array Value) : LaidIn Tryz.prog ((laidWorld os).forCall (fun _ _ => 0) ⟨#[], args, []⟩).memory [("math/bits.deBruijn32tab", Rows.laid_math_bits_deBruijn32tab), ("math/bits.deBruijn64tab", Rows.laid_math_bits_deBruijn64tab), ("unicode/utf8.acceptRanges", Rows.laid_unicode_utf8_acceptRanges), ("io.EOF", Rows.laid_io_EOF), ("unicode.properties", Rows.laid_unicode_properties), ("math/big.errNoDigits", Rows.laid_math_big_errNoDigits), ("math/big.errInvalSep", Rows.laid_math_big_errInvalSep), ("math/big.leafSize", Rows.laid_math_big_leafSize), ("math/big.divRecursiveThreshold", Rows.laid_math_big_divRecursiveThreshold), ("math/big.karatsubaThreshold", Rows.laid_math_big_karatsubaThreshold), ("math/big.basicSqrThreshold", Rows.laid_math_big_basicSqrThreshold), ("math/big.karatsubaSqrThreshold", Rows.laid_math_big_karatsubaSqrThreshold)] [17, 18, 1, 4, N0 + 3, 2, 8, N0 + 4, 7, N0 + 5, 22, 14, 11, 9, 10] :=
  LaidIn.of_run [17, 18, 1, 4, N0 + 3, 2, 8, N0 + 4, 7, N0 + 5, 22, 14, 11, 9, 10] 8 (by kernel_rfl) (by kernel_rfl) (by kernel_rfl) (by kernel_rfl)
theorem piece1 (os : Os) (args : Array Value) : LaidIn Tryz.prog ((laidWorld os).forCall (fun _ _ => 0) ⟨#[], args, []⟩).memory [("unicode.Letter", Lib.rtabData letterT)] [3, N0 + 2, N0, N0 + 1] :=
  laidIn_rtabT (ρ := renR) tyR xR (by kernel_rfl) (by kernel_rfl) letterT (N0 + 2) N0 (N0 + 1) 157 160
    (by kernel_rfl) (by kernel_rfl) (by kernel_rfl) (by kernel_rfl) (by kernel_rfl) (of_decide_eq_true (by kernel_rfl)) (of_decide_eq_true (by kernel_rfl)) (of_decide_eq_true (by kernel_rfl))
theorem piece2 (os : Os) (args : Array Value) : LaidIn Tryz.prog ((laidWorld os).forCall (fun _ _ => 0) ⟨#[], args, []⟩).memory [("unicode/utf8.first", Lib.firstData)] [0] :=
  LaidIn.of_run [0] 8 (by kernel_rfl) (by kernel_rfl) (by kernel_rfl) (by kernel_rfl)
end Go.Proofs.YtlcgcihghmeeoaaGreatFmtBesafter


namespace Go.Proofs.YtlcgcihghmeeoaaGreatFmtBesafter
open Go Go.Pure Go.Shelf Go.Lib Go.ChangeShapes Go.WideShapes Go.ChangeAt Go.RowKit
open Go.Extern.Stop Go.Stop Go.Extern

theorem laid_all (os : Os) (args : Array Value) : laidMet Tryz.prog Rows.typesLatticeRow.laid ((laidWorld os).forCall (fun _ _ => 0) ⟨#[], args, []⟩).memory := by
  have h := ((piece0 os args).append (piece1 os args) (by kernel_rfl)).append (piece2 os args) (by kernel_rfl)
  rw [← Pinned.letter_eq, ← Pinned.utf8First_eq] at h
  exact h.met
theorem stops_are : Tryz.pinned.checked.prog.stops = ["fmt.Sprintf"] := by kernel_rfl
theorem knobs_are : Tryz.pinned.checked.prog.stopKnobs = [] := by kernel_rfl
theorem quiet_all (os : Os) : Stop.quiet Tryz.pinned.checked.prog os := by
  intro k hk
  rw [knobs_are] at hk
  cases hk
theorem ty_in {g : GV} (h : GT Tryz.prog 24 g) : ∃ v : VTy, g = v.g :=
  ty_inv (ti := 3) (LY := 22) Tryz.underlying3 ⟨_, Tryz.underlying24, rfl⟩ Tryz.underlying22 _ g (Nat.le_refl _) h
def arg0 : Array Value := #[.agg #[.int .i64 0, .slice none 0 0], .agg #[.int .i64 0, .slice none 0 0], .agg #[.int .i64 0, .slice none 0 0]]
theorem reads0 (os : Os) {H : Type} (enc : TypeId × Value → H) : ∃ ds places, DataW.whole enc Tryz.prog ((laidWorld os).forCall (fun _ _ => 0) ⟨#[], arg0, []⟩).memory Tryz.f3.params.toList Rows.typesLatticeSpec.vars false arg0.toList 8 = some (ds, [], places) :=
  ⟨[.agg [.lit (.int .i64 0), .nil], .agg [.lit (.int .i64 0), .nil], .agg [.lit (.int .i64 0), .nil]], [], by kernel_rfl⟩

set_option maxRecDepth 100000 in
theorem typesLattice_lifted (os : Os) (started : os.Started) (H : Type) (enc : TypeId × Value → H) :
    ReturnsInTold none {} Tryz.checked os 3 .any Input.okWide ((OpenSpec.ofChange Rows.typesLatticeSpec).preRow enc Tryz.prog Tryz.f3 Rows.typesLatticeRow.domain false Rows.typesLatticeRow.laid) (fun F => ((OpenSpec.ofChange Rows.typesLatticeSpec).at F).post enc Tryz.prog Tryz.f3 false true false false) (aloneAtReturn Tryz.prog) nothingAlways := by
  obtain ⟨ds, places, hx⟩ := reads0 os enc
  refine returnsInTold_of_row (C := Tryz.checked) (s := OpenSpec.ofChange Rows.typesLatticeSpec) (by kernel_rfl) own started (by kernel_rfl) Tryz.func3
    (OpenSpec.witness_stopped_atRef (enc := enc) (C := Tryz.checked) false (laidWorld os) arg0 rfl (by kernel_rfl) (by kernel_rfl) (by kernel_rfl)
      (OpenSpec.preRow_of_cond 8 hx (by kernel_rfl) (fun k hk => by cases hk) (by kernel_rfl) (laid_all os _))) ?_
  intro F W base args ds gs before _ _ hval hW _ _ _ _ _
  refine law_calls (s := Rows.typesLatticeSpec) (set := [3, 22, 24]) (B := 4) (by kernel_rfl) (by kernel_rfl) laidOut rfl rfl Tryz.underlying4 (fun ds hl => ?_) W base args ds gs before hval hW (fun xs hl hl2 hD hT => ?_)
  · match ds, hl with
    | [d0, d1, d2], _ => rfl
  · match xs, hl with
    | [a0, a1, a2], _ =>
      obtain ⟨a, rfl⟩ := ty_in (hT 0 24 _ rfl rfl)
      obtain ⟨b, rfl⟩ := ty_in (hT 1 24 _ rfl rfl)
      obtain ⟨c, rfl⟩ := ty_in (hT 2 24 _ rfl rfl)
      exact lattice_pc a b c
end Go.Proofs.YtlcgcihghmeeoaaGreatFmtBesafter


namespace Go.Proofs.YtlcgcihghmeeoaaGreatFmtBesafter
open Go Go.Pure Go.Shelf Go.Lib Go.ChangeShapes Go.WideShapes Go.ChangeAt Go.RowKit
open Go.Extern.Stop Go.Stop Go.Extern

theorem told_all (os : Os) (st : os.Started) (_ : Stop.quiet Tryz.pinned.checked.prog os) (H : Type) (enc : TypeId × Value → H) (_ : ∀ a b, enc a = enc b → a = b) :
    ReturnsInTold Rows.typesLatticeRow.shortTexts Rows.typesLatticeRow.assume Tryz.pinned.checked os 3 .any Input.okWide ((OpenSpec.ofChange Rows.typesLatticeSpec).preRow enc Tryz.pinned.checked.prog Tryz.f3 Rows.typesLatticeRow.domain Rows.typesLatticeRow.apart Rows.typesLatticeRow.laid)
      (fun F => ((OpenSpec.ofChange Rows.typesLatticeSpec).at F).post enc Tryz.pinned.checked.prog Tryz.f3 Rows.typesLatticeRow.apart Rows.typesLatticeRow.fresh Rows.typesLatticeRow.handsOn Rows.typesLatticeRow.again) (aloneAtReturn Tryz.pinned.checked.prog) (Rows.typesLatticeRow.always Tryz.pinned.checked.prog []) :=
  typesLattice_lifted os st H enc
theorem q8 : Rows.typesLatticeRow.wfByText (OpenSpec.ofChange Rows.typesLatticeSpec) = true := by kernel_rfl
theorem q10 : mapsRowed Tryz.pinned.checked.prog = true := by kernel_rfl
theorem q11 : namedTie Tryz.pinned.checked.prog Rows.typesLatticeRow.namedList (OpenSpec.ofChange Rows.typesLatticeSpec).vars = true := by kernel_rfl
theorem q12 : Tryz.pinned.checked.prog.funcNamed Rows.typesLatticeRow.func = some 3 := by kernel_rfl
theorem q13 : (Tryz.f3.params.toList.all fun t => Tryz.pinned.checked.prog.readableRec t) = true := by kernel_rfl
theorem q14 : Tryz.f3.isInstance Tryz.pinned.checked.prog Rows.typesLatticeRow.origin Rows.typesLatticeRow.targs := of_decide_eq_true (by kernel_rfl)
theorem q15 : Tryz.f3.isWrapper Tryz.pinned.checked.prog Rows.typesLatticeRow.wrapper Rows.typesLatticeRow.mainSum := of_decide_eq_true (by kernel_rfl)
theorem q1 : Rows.typesLatticeRow.stops = Tryz.pinned.checked.prog.stops := stops_are.symm
theorem q2 : Rows.typesLatticeRow.knobs = Tryz.pinned.checked.prog.stopKnobs := knobs_are.symm
theorem q16 : Tryz.pinned.checked.prog.envWorded = true := by kernel_rfl
theorem q17 : Rows.typesLatticeRow.inPlace = Tryz.pinned.checked.prog.inPlace 3 := by kernel_rfl
theorem q18 : Rows.typesLatticeRow.unfollowed = Tryz.pinned.checked.prog.unfollowed 3 := by kernel_rfl
theorem q19 : Rows.typesLatticeRow.recurses = Tryz.pinned.checked.prog.recurses 3 := by kernel_rfl
theorem q20 : Rows.typesLatticeRow.named = Tryz.pinned.checked.prog.varsNamed 3 := by kernel_rfl
theorem q23 : Rows.typesLatticeRow.maps = (Tryz.f3.params.toList ++ (OpenSpec.ofChange Rows.typesLatticeSpec).bare.plain.varTypes Tryz.pinned.checked.prog).any (Tryz.pinned.checked.prog.mapsRec ·) := by kernel_rfl
theorem q24 : Rows.typesLatticeRow.ifaces = (Tryz.f3.params.toList ++ (OpenSpec.ofChange Rows.typesLatticeSpec).bare.plain.varTypes Tryz.pinned.checked.prog).any (Tryz.pinned.checked.prog.ifacesRec ·) := by kernel_rfl
theorem q25 : Rows.typesLatticeRow.mapsOut = Tryz.pinned.checked.prog.mapsAmong Tryz.f3.resultTypes.toList := by kernel_rfl
theorem q26 : Rows.typesLatticeRow.loops = (Tryz.f3.params.toList ++ (OpenSpec.ofChange Rows.typesLatticeSpec).bare.plain.varTypes Tryz.pinned.checked.prog).any (Tryz.pinned.checked.prog.loopsFrom ·) := by kernel_rfl
theorem q27 : Rows.typesLatticeRow.wideKeys = (Tryz.f3.params.toList ++ (OpenSpec.ofChange Rows.typesLatticeSpec).bare.plain.varTypes Tryz.pinned.checked.prog ++ Tryz.f3.resultTypes.toList).any (Tryz.pinned.checked.prog.wideKeysFrom ·) := by kernel_rfl
theorem q28 : Rows.typesLatticeRow.narrowed = (OpenSpec.ofChange Rows.typesLatticeSpec).cond.isSome := by kernel_rfl
theorem q29 : ((OpenSpec.ofChange Rows.typesLatticeSpec).vars.all fun n => Tryz.pinned.checked.prog.varReadable n) = true := by kernel_rfl
theorem q31 : (Tryz.f3.params.toList.all fun t => !Tryz.pinned.checked.prog.wantsStandIn t) = true := by kernel_rfl
theorem q32 : Stop.anyFmt Rows.typesLatticeRow.stops = true := by kernel_rfl
theorem q4 : Rows.typesLatticeRow.moreEntering Tryz.pinned.checked.prog Tryz.f3 := OpenClaim.moreEntering_of (by kernel_rfl) (by kernel_rfl) (by kernel_rfl) (by kernel_rfl) (by kernel_rfl) (by kernel_rfl) (by kernel_rfl) (by kernel_rfl) (by kernel_rfl) (by kernel_rfl)
theorem q7 : ∃ os : Os, os.Started ∧ Stop.quiet Tryz.pinned.checked.prog os := ⟨_, WideRow.started_initial, quiet_all _⟩
theorem q33 : Rows.typesLatticeRow.veiled = (Tryz.f3.params.toList ++ (OpenSpec.ofChange Rows.typesLatticeSpec).bare.plain.varTypes Tryz.pinned.checked.prog ++ Tryz.f3.resultTypes.toList).any (Tryz.pinned.checked.prog.veiledRec ·) := by kernel_rfl
theorem q34 : Rows.typesLatticeRow.veiledFits Tryz.pinned.checked.prog Tryz.f3.params.toList (Tryz.f3.params.toList ++ (OpenSpec.ofChange Rows.typesLatticeSpec).bare.plain.varTypes Tryz.pinned.checked.prog ++ Tryz.f3.resultTypes.toList) = true := by kernel_rfl

theorem typesLattice_told : Rows.TypesLatticeToldSaid :=
  Claim7.holds_of_told_tied_any_at .later 3 Tryz.f3 "fmt.Sprintf" [] [] _ _ _ _ _ q8 rfl rfl rfl laidOut q10 rfl ⟨rfl, rfl, rfl, rfl, rfl, rfl, rfl⟩ rfl rfl q11 q12 Tryz.func3 q13 q14 q15 q1 rfl q2 q16
    q17 q18 q19 q20 q23 q24 q25 q26 q27 q28 q29 rfl rfl rfl rfl rfl (by kernel_rfl) (by kernel_rfl) q31 q32 (by kernel_rfl) typesLattice_row_tie q4 q7 told_all ⟨q33, q34⟩
#print axioms typesLattice_told
end Go.Proofs.YtlcgcihghmeeoaaGreatFmtBesafter
