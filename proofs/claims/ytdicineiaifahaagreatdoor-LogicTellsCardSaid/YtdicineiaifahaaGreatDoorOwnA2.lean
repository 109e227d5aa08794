/- The law LogicTells holds, as a tied card: for every two values the program returns true, and leaves them as they were. Conditions: the listed variables hold what the program's own text lays (tied by the card); the open variables may hold anything. -/
import Derived.Test.YtdicineiaifahaaGreatDoorOwnZ
namespace Go.Proofs.YtdicineiaifahaaGreatDoor
open Go Go.Pure Go.Shelf Go.Lib Go.ChangeShapes Go.WideShapes Go.ChangeAt Go.RowKit Go.Clock
theorem q_named : Tryz.pinned.checked.prog.funcNamed Rows.logicTellsRow.func = some 4 := by kernel_rfl
theorem q_closed : joinedFacts Tryz.pinned.checked.prog 4 Tryz.f4 (OpenSpec.ofChange Rows.logicTellsSpec).bare Rows.logicTellsRow = true := by kernel_rfl
theorem q_inst : Tryz.f4.isInstance Tryz.pinned.checked.prog Rows.logicTellsRow.origin Rows.logicTellsRow.targs := of_decide_eq_true (by kernel_rfl)
theorem q_wrap : Tryz.f4.isWrapper Tryz.pinned.checked.prog Rows.logicTellsRow.wrapper Rows.logicTellsRow.mainSum := by
  unfold Func.isWrapper; first | (rw [if_pos (by decide +kernel)]; kernel_rfl) | (rw [if_neg (by decide +kernel)]; exact ⟨rfl, rfl⟩)
theorem logicTells_said : Rows.LogicTellsSaid :=
  OpenClaim.holds_of_cond 4 Tryz.f4 rfl rfl rfl rfl rfl rfl rfl ⟨rfl, rfl, rfl, rfl, rfl⟩ rfl rfl rfl rfl rfl q_named Tryz.func4 q_closed q_inst q_wrap
    (fun os started H enc _ F => by rw [OpenClaim.pre_eq_preRow]; exact logicTells_lifted os started H enc F)

theorem plain (f : FuncId) (fn : Func) (hf : Tryz.pinned.checked.prog.funcNamed "verdict/verdictlaw2.LogicTells" = some f) (hfn : Tryz.pinned.checked.prog.funcs[f]? = some fn) :
    true = Tryz.pinned.checked.prog.looks [] ∧ ∀ (j : Nat) t, fn.params[j]? = some t → Tryz.pinned.checked.prog.wantsStandIn t = false := by
  obtain rfl : f = 4 := Option.some.inj ((show Tryz.prog.funcNamed "verdict/verdictlaw2.LogicTells" = some 4 by kernel_rfl).symm.trans hf) |>.symm
  obtain rfl : fn = Tryz.f4 := (Option.some.inj (Tryz.func4.symm.trans hfn)).symm
  refine ⟨by kernel_rfl, fun j t ht => ?_⟩
  have hm : t ∈ Tryz.f4.params.toList := by simpa using Array.mem_of_getElem? ht
  have hall : (Tryz.f4.params.toList.all fun u => !Tryz.prog.wantsStandIn u) = true := by kernel_rfl
  exact (show Tryz.prog.wantsStandIn t = false by simpa using List.all_eq_true.1 hall t hm)

theorem logicTells_card : Rows.LogicTellsCardSaid :=
  Claim7.holds_tied_plain_at .later [] _ _ _ _ logicTells_said (fun _ h => by cases h) (by kernel_rfl) (fun _ h => by cases h) logicTells_row_tie rfl ⟨rfl, rfl⟩ (by kernel_rfl) rfl plain (by kernel_rfl)
#print axioms logicTells_card
end Go.Proofs.YtdicineiaifahaaGreatDoor
