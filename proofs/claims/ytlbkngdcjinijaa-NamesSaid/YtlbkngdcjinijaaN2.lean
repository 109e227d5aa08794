/- The law Names holds: the program returns true. -/
import Derived.Test.YtlbkngdcjinijaaN1
namespace Go.Proofs.Ytlbkngdcjinijaa
open Go.Pure Go.ChangeShapes Go.WideShapes Go.ChangeAt Go.RowKit

set_option maxRecDepth 100000 in
theorem names_lifted (os : Os) (started : os.Started) (H : Type) (enc : TypeId × Value → H) :
    ReturnsInHanded {} Try.checked os 6 .any (Rows.namesSpec.pre6 enc Try.prog Try.f6 Rows.namesRow.domain false) (Rows.namesSpec.post enc Try.prog Try.f6 false true false false) := by
  refine returnsInHanded_of_change (C := Try.checked) own started (by kernel_rfl) Try.func6
    (ChangeSpec.witness6 (enc := enc) (C := Try.checked) false ⟨#[], #[], []⟩ 8 (by kernel_rfl) (by kernel_rfl) (by kernel_rfl) (by kernel_rfl)) ?_
  intro W base args ds gs before hval hW _ _
  refine law_calls (set := [4]) (B := 4) (by kernel_rfl) (by kernel_rfl) laidOut rfl rfl Try.underlying4 (fun ds hl => ?_) W base args ds gs before hval hW (fun xs hl _ _ hT => ?_)
  · match ds, hl with
    | [], _ => rfl
  · match xs, hl with
    | [], _ =>

      exact names_pc

theorem names_holds : Rows.NamesSaid :=
  OpenClaim.holds_of_wide 6 Try.f6 rfl rfl rfl rfl rfl rfl rfl ⟨rfl, rfl, rfl, rfl, rfl⟩ rfl rfl rfl rfl rfl (by kernel_rfl) Try.func6 (by kernel_rfl)
    (of_decide_eq_true (by kernel_rfl)) (by unfold Func.isWrapper; first | (rw [if_pos (by decide +kernel)]; kernel_rfl) | (rw [if_neg (by decide +kernel)]; exact ⟨rfl, rfl⟩))
    (fun os started H enc _ => names_lifted os started H enc)
#print axioms names_holds
end Go.Proofs.Ytlbkngdcjinijaa
