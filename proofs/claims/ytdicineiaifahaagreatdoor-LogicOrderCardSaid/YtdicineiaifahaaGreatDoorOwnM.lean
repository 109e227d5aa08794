/- The law LogicOrder holds, as a tied card: for every three values the program returns true, and leaves them as they were. Conditions: the listed variables hold what the program's own text lays (tied by the card); time passes calmly. -/
import Derived.Test.YtdicineiaifahaaGreatDoorOwnL
namespace Go.Proofs.YtdicineiaifahaaGreatDoor
open Go Go.Pure Go.Shelf Go.Lib Go.ChangeShapes Go.WideShapes Go.ChangeAt Go.RowKit Go.Clock
theorem q_named : Tryz.pinned.checked.prog.funcNamed Rows.logicOrderRow.func = some 3 := by kernel_rfl
theorem q_closed : joinedFacts Tryz.pinned.checked.prog 3 Tryz.f3 Rows.logicOrderSpec Rows.logicOrderRow = true := by kernel_rfl
theorem q_inst : Tryz.f3.isInstance Tryz.pinned.checked.prog Rows.logicOrderRow.origin Rows.logicOrderRow.targs := of_decide_eq_true (by kernel_rfl)
theorem q_wrap : Tryz.f3.isWrapper Tryz.pinned.checked.prog Rows.logicOrderRow.wrapper Rows.logicOrderRow.mainSum := by
  unfold Func.isWrapper; first | (rw [if_pos (by decide +kernel)]; kernel_rfl) | (rw [if_neg (by decide +kernel)]; exact ⟨rfl, rfl⟩)
theorem logicOrder_said : Rows.LogicOrderSaid :=
  holds_of_wide_time 3 Tryz.f3 rfl rfl rfl rfl rfl rfl rfl ⟨rfl, rfl, rfl, rfl, rfl⟩ rfl rfl rfl rfl rfl q_named Tryz.func3 q_closed q_inst q_wrap
    (fun os started H enc _ F => logicOrder_lifted os started H enc F)

theorem plain (f : FuncId) (fn : Func) (hf : Tryz.pinned.checked.prog.funcNamed "verdict/verdictlaw2.LogicOrder" = some f) (hfn : Tryz.pinned.checked.prog.funcs[f]? = some fn) :
    true = Tryz.pinned.checked.prog.looks [] ∧ ∀ (j : Nat) t, fn.params[j]? = some t → Tryz.pinned.checked.prog.wantsStandIn t = false := by
  obtain rfl : f = 3 := Option.some.inj ((show Tryz.prog.funcNamed "verdict/verdictlaw2.LogicOrder" = some 3 by kernel_rfl).symm.trans hf) |>.symm
  obtain rfl : fn = Tryz.f3 := (Option.some.inj (Tryz.func3.symm.trans hfn)).symm
  refine ⟨by kernel_rfl, fun j t ht => ?_⟩
  have hm : t ∈ Tryz.f3.params.toList := by simpa using Array.mem_of_getElem? ht
  have hall : (Tryz.f3.params.toList.all fun u => !Tryz.prog.wantsStandIn u) = true := by kernel_rfl
  exact (show Tryz.prog.wantsStandIn t = false by simpa using List.all_eq_true.1 hall t hm)

theorem logicOrder_card : Rows.LogicOrderCardSaid :=
  Claim7.holds_tied_plain_at .later [] _ _ _ _ logicOrder_said (fun _ h => by cases h) (by kernel_rfl) (fun _ h => by cases h) logicOrder_row_tie rfl ⟨rfl, rfl⟩ (by kernel_rfl) rfl plain (by kernel_rfl)
#print axioms logicOrder_card
end Go.Proofs.YtdicineiaifahaaGreatDoor
