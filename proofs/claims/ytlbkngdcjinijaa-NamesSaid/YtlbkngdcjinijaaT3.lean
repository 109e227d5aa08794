/- The law LogicLaws holds: for every three values the program returns true, and leaves them as they were. -/
import Derived.Test.YtlbkngdcjinijaaT2
import Derived.Test.YtlbkngdcjinijaaPureQ
namespace Go.Proofs.Ytlbkngdcjinijaa
open Go.Pure Go.ChangeShapes Go.WideShapes Go.ChangeAt Go.RowKit

theorem val_inv {g : GV} (h : GT Try.prog 26 g) : ∃ k y c e t l, g = val k y c e t l := by
  obtain ⟨xs, rfl, hl, hx⟩ := GT.agg_inv Try.underlying26 h
  obtain ⟨a, b, c, d, e, rfl⟩ : ∃ a b c d e, xs = [a, b, c, d, e] := by
    match xs, hl with
    | [a, b, c, d, e], _ => exact ⟨a, b, c, d, e, rfl⟩
  obtain ⟨k, rfl, _⟩ := GT.int_inv Try.underlying3 (hx 0 _ _ rfl rfl)
  obtain ⟨y, rfl⟩ := GT.bool_inv Try.underlying4 (hx 1 _ _ rfl rfl)
  obtain ⟨ys, rfl, hl', hy⟩ := GT.agg_inv Try.underlying23 (hx 2 _ _ rfl rfl)
  obtain ⟨t, rfl, _⟩ := GT.str_inv Try.underlying9 (hx 3 _ _ rfl rfl)
  obtain ⟨l, rfl, _⟩ := GT.sl_inv Try.underlying24 (hx 4 _ _ rfl rfl)
  obtain ⟨a, b, rfl⟩ : ∃ a b, ys = [a, b] := by
    match ys, hl' with
    | [a, b], _ => exact ⟨a, b, rfl⟩
  obtain ⟨c, rfl, _⟩ := GT.int_inv Try.underlying2 (hy 0 _ _ rfl rfl)
  obtain ⟨e, rfl, _⟩ := GT.int_inv Try.underlying3 (hy 1 _ _ rfl rfl)
  exact ⟨k, y, c, e, t, l, rfl⟩

theorem own : ownKnob Try.prog.godebug = none := by kernel_rfl
theorem laidOut : laidOutB Try.prog = true := by kernel_rfl

set_option maxRecDepth 100000 in
theorem logicLaws_lifted (os : Os) (started : os.Started) (H : Type) (enc : TypeId × Value → H) :
    ReturnsInHanded {} Try.checked os 3 .any (Rows.logicLawsSpec.pre6 enc Try.prog Try.f3 Rows.logicLawsRow.domain false) (Rows.logicLawsSpec.post enc Try.prog Try.f3 false true false false) := by
  refine returnsInHanded_of_change (C := Try.checked) own started (by kernel_rfl) Try.func3
    (ChangeSpec.witness6 (enc := enc) (C := Try.checked) false ⟨#[], #[.agg #[.int .i64 0, .bool false, .int .i64 0, .int .i64 0, .string ⟨#[]⟩, .slice none 0 0], .agg #[.int .i64 0, .bool false, .int .i64 0, .int .i64 0, .string ⟨#[]⟩, .slice none 0 0], .agg #[.int .i64 0, .bool false, .int .i64 0, .int .i64 0, .string ⟨#[]⟩, .slice none 0 0]], []⟩ 8 (by kernel_rfl) (by kernel_rfl) (by kernel_rfl) (by kernel_rfl)) ?_
  intro W base args ds gs before hval hW _ _
  refine law_calls (set := [2, 3, 4, 9, 23, 24, 26]) (B := 4) (by kernel_rfl) (by kernel_rfl) laidOut rfl rfl Try.underlying4 (fun ds hl => ?_) W base args ds gs before hval hW (fun xs hl _ _ hT => ?_)
  · match ds, hl with
    | [a, b, c], _ => rfl
  · match xs, hl with
    | [a, b, c], _ =>
      obtain ⟨k1, y1, c1, e1, t1, l1, rfl⟩ := val_inv (hT 0 26 _ rfl rfl)
      obtain ⟨k2, y2, c2, e2, t2, l2, rfl⟩ := val_inv (hT 1 26 _ rfl rfl)
      obtain ⟨k3, y3, c3, e3, t3, l3, rfl⟩ := val_inv (hT 2 26 _ rfl rfl)
      exact laws_pc _ _ _ _ _ _ _ _ _ _ _ _ _ _ _ _ _ _

theorem logicLaws_holds : Rows.LogicLawsSaid :=
  OpenClaim.holds_of_wide 3 Try.f3 rfl rfl rfl rfl rfl rfl rfl ⟨rfl, rfl, rfl, rfl, rfl⟩ rfl rfl rfl rfl rfl (by kernel_rfl) Try.func3 (by kernel_rfl)
    (of_decide_eq_true (by kernel_rfl)) (by unfold Func.isWrapper; first | (rw [if_pos (by decide +kernel)]; kernel_rfl) | (rw [if_neg (by decide +kernel)]; exact ⟨rfl, rfl⟩))
    (fun os started H enc _ => logicLaws_lifted os started H enc)
#print axioms logicLaws_holds
end Go.Proofs.Ytlbkngdcjinijaa
