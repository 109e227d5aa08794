/- The law WireTurns holds in the second form: for every tree and any bytes of bulk at most 1048576 the program returns true, and leaves them as they were. Conditions: the bulk's bound, nothing else. -/
import Derived.Test.YtffpepmfdjjjaaaZ1
namespace Go.Proofs.Ytffpepmfdjjjaaa
open Go.Pure Go.ChangeShapes Go.WideShapes Go.ChangeAt Go.RowKit

set_option maxRecDepth 100000 in
theorem wireTurns_lifted (os : Os) (started : os.Started) (H : Type) (enc : TypeId × Value → H) (F : Stop.Interp) :
    ReturnsInHanded {} Try.checked os 5 .any ((Rows.OpenSpec.upto Rows.wireTurnsSpec).pre6 enc Try.prog Try.f5 Rows.wireTurnsUptoRow.domain false) (((Rows.OpenSpec.upto Rows.wireTurnsSpec).at F).post enc Try.prog Try.f5 false true false false) := by
  refine returnsInHanded_of_cond (C := Try.checked) (s := Rows.OpenSpec.upto Rows.wireTurnsSpec) (k := Rows.uptoSmall) rfl own started (by kernel_rfl) Try.func5
    (OpenSpec.witness (enc := enc) (C := Try.checked) (s := Rows.OpenSpec.upto Rows.wireTurnsSpec) (k := Rows.uptoSmall) rfl false ⟨#[], #[.agg #[.int .i64 0, .int .i64 0, .string ⟨#[]⟩, .slice none 0 0], .slice none 0 0], []⟩ 8 (by kernel_rfl) (by kernel_rfl) (by kernel_rfl)
      (x := ([.agg [.lit (.int .i64 0), .lit (.int .i64 0), .lit (.string []), .nil], .nil], [], [])) (by kernel_rfl) rfl (by kernel_rfl)) ?_
  intro W base args ds gs before hval hW _ hk _
  refine law_calls (s := Rows.wireTurnsSpec) (set := [2, 3, 5, 9, 28, 30, 38]) (B := 4) (by kernel_rfl) (by kernel_rfl) laidOut rfl rfl Try.underlying4 (fun ds hl => ?_) W base args ds gs before hval hW (fun xs hl hl2 hD hT => ?_)
  · match ds, hl with
    | [a0, a1], _ => rfl
  · match xs, hl with
    | [a0, a1], _ =>
      have hbk := bulk_all hl2 hD
      have hs : Rows.uptoBulkAll (ds ++ gs) ≤ 1048576 := of_decide_eq_true hk
      rw [bulkAll_append] at hs
      obtain ⟨t, rfl, ht1, ht2⟩ := tree_inv _ _ (Nat.le_refl _) (hT 0 30 _ rfl rfl)
      obtain ⟨l, rfl, hl⟩ := bytes_inv (hT 1 38 _ rfl rfl)
      have he := enc_bulk t
      have hl1 := bys_bulk l
      simp only [gbulks] at hbk
      obtain ⟨tag, tn, text, kids⟩ := t
      exact turns_pc tag tn text kids l ht1 ht2 (by omega) (by omega)

theorem wireTurns_holds : Rows.WireTurnsUptoSaid :=
  OpenClaim.holds_of_cond 5 Try.f5 rfl rfl rfl rfl rfl rfl rfl ⟨rfl, rfl, rfl, rfl, rfl⟩ rfl rfl rfl rfl rfl (by kernel_rfl) Try.func5 (by kernel_rfl)
    (of_decide_eq_true (by kernel_rfl)) (by unfold Func.isWrapper; first | (rw [if_pos (by decide +kernel)]; kernel_rfl) | (rw [if_neg (by decide +kernel)]; exact ⟨rfl, rfl⟩))
    (fun os started H enc _ F => wireTurns_lifted os started H enc F)
#print axioms wireTurns_holds
end Go.Proofs.Ytffpepmfdjjjaaa
