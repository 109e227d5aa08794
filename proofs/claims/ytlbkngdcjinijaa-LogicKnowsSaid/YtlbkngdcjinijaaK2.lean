/- The law LogicKnows holds: for every two values and either answer the program returns true, and leaves them as they were. -/
import Derived.Test.YtlbkngdcjinijaaK1
namespace Go.Proofs.Ytlbkngdcjinijaa
open Go.Pure Go.ChangeShapes Go.WideShapes Go.ChangeAt Go.RowKit

set_option maxRecDepth 100000 in
theorem logicKnows_lifted (os : Os) (started : os.Started) (H : Type) (enc : TypeId × Value → H) :
    ReturnsInHanded {} Try.checked os 4 .any (Rows.logicKnowsSpec.pre6 enc Try.prog Try.f4 Rows.logicKnowsRow.domain false) (Rows.logicKnowsSpec.post enc Try.prog Try.f4 false true false false) := by
  refine returnsInHanded_of_change (C := Try.checked) own started (by kernel_rfl) Try.func4
    (ChangeSpec.witness6 (enc := enc) (C := Try.checked) false ⟨#[], #[.agg #[.int .i64 0, .bool false, .int .i64 0, .int .i64 0, .string ⟨#[]⟩, .slice none 0 0], .agg #[.int .i64 0, .bool false, .int .i64 0, .int .i64 0, .string ⟨#[]⟩, .slice none 0 0], .bool false], []⟩ 8 (by kernel_rfl) (by kernel_rfl) (by kernel_rfl) (by kernel_rfl)) ?_
  intro W base args ds gs before hval hW _ _
  refine law_calls (set := [2, 3, 4, 9, 23, 24, 26]) (B := 4) (by kernel_rfl) (by kernel_rfl) laidOut rfl rfl Try.underlying4 (fun ds hl => ?_) W base args ds gs before hval hW (fun xs hl _ _ hT => ?_)
  · match ds, hl with
    | [a0, a1, a2], _ => rfl
  · match xs, hl with
    | [a0, a1, a2], _ =>
      obtain ⟨k0, y0, c0, e0, t0, l0, rfl⟩ := val_inv (hT 0 26 _ rfl rfl)
      obtain ⟨k1, y1, c1, e1, t1, l1, rfl⟩ := val_inv (hT 1 26 _ rfl rfl)
      obtain ⟨b, rfl⟩ := GT.bool_inv Try.underlying4 (hT 2 4 _ rfl rfl)
      exact knows_pc _ _ _ _ _ _ _ _ _ _ _ _ _

theorem logicKnows_holds : Rows.LogicKnowsSaid :=
  OpenClaim.holds_of_wide 4 Try.f4 rfl rfl rfl rfl rfl rfl rfl ⟨rfl, rfl, rfl, rfl, rfl⟩ rfl rfl rfl rfl rfl (by kernel_rfl) Try.func4 (by kernel_rfl)
    (of_decide_eq_true (by kernel_rfl)) (by unfold Func.isWrapper; first | (rw [if_pos (by decide +kernel)]; kernel_rfl) | (rw [if_neg (by decide +kernel)]; exact ⟨rfl, rfl⟩))
    (fun os started H enc _ => logicKnows_lifted os started H enc)
#print axioms logicKnows_holds
end Go.Proofs.Ytlbkngdcjinijaa
