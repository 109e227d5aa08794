/- The law TypesHave holds, as a told and tied card: for every two types and every value the program returns true, and leaves them as they were. Conditions: the listed variables hold what the program's own text lays (tied by the card); the texts of package fmt are told, and none is asked for. -/
import Derived.Test.YtlcgcihghmeeoaaGreatFmtOwnE
import Derived.Test.YtlcgcihghmeeoaaGreatFmtPureD
import Derived.Test.YtlcgcihghmeeoaaGreatFmtPureF
import Derived.Test.YtlcgcihghmeeoaaGreatFmtOwnC
import Derived.Test.YtlcgcihghmeeoaaGreatFmtPureB
import Derived.Test.YtlcgcihghmeeoaaGreatFmtCards
import Derived.Test.YtlcgcihghmeeoaaGreatFmtTie
import Derived.Deep.DeepWitnessRef
import Derived.Stop.JoinedTold
import Derived.Lib.LaidRTabT
import Derived.Lib.LaidIn
import Derived.Lib.LaidU8T
import Derived.PinnedBridge
import Derived.ProofKit
import Derived.SizedLaws
namespace Go.Proofs.YtlcgcihghmeeoaaGreatFmt
open Go Go.Pure
attribute [local irreducible] PW POps POpsD PO PC Cond

set_option maxRecDepth 100000 in
set_option maxHeartbeats 8000000 in
theorem has13_pc {b : Int} (hb : baseK b) : ∀ (v : VVal) (n : Nat), gsz v.g → PC Tryz.prog 9 [.g v.g, .g (tyL n b).g] ⟨[], [], []⟩ (.g (.bool (hasT v n b))) ⟨[], [], []⟩
  | .mk kind yes coef exp text list, 0, hl => by
    rw [tyZ, hasT_eq]
    rcases hb with rfl | rfl | rfl | rfl | rfl
    all_goals
      refine PC_of_PW Tryz.func9 rfl rfl (rs := _) rfl (Nat.le_of_ble_eq_true (by kernel_rfl)) ?_
      (repeat' (first | (first | ((first | refine qA ?_ | refine qB ?_ | refine xN ?_ | refine xE ?_ | refine xT ?_); try show PW _ _ _ _ _ _) | refine ro1 tabOk rfl rfl ?_ | refine ro2 tabOk rfl rfl ?_ | refine ro3 tabOk rfl rfl ?_ | refine rd1 tabOk rfl rfl ?_ | refine rd2 tabOk rfl rfl ?_ | refine rd3 tabOk rfl rfl ?_ | ((first | apply oR rfl rfl | (apply dF rfl rfl rfl; intro _) | (apply dP rfl rfl rfl; intro _) | (apply dL rfl rfl rfl; intro _) | apply dC rfl rfl rfl rfl); (focus (first | exact cJ | exact mG | exact bT | exact nD)); try exact kQ) | refine xS ?_ | refine xR ?_ | refine qxa rfl rfl mixed ?_ | refine qxb rfl rfl mixed ?_ | refine qxc rfl rfl mixed ?_ | refine qxd rfl rfl mixed ?_ | refine xB ?_ | refine xt rfl ?_ | refine xf rfl ?_) | (refine POps_split rfl rfl (fun h => ?_) (fun h => ?_) <;> fail_if_success (first | (have : true = true := h) | (have : false = false := h))) | (refine POpsD_split rfl rfl (fun h => ?_) (fun h => ?_) <;> fail_if_success (first | (have : true = true := h) | (have : false = false := h))) | refine PW_cond rfl (fun h => ?_) (fun h => ?_)))
      all_goals (first | (exfalso; simp_all; done) | ((first | refine Ret_int (vC vT vN) rfl ?_ | refine Ret_bool (vC vT vN) rfl ?_ | refine Ret_g (vC vT vN) rfl ?_ | refine Ret_int (vC (vA (AG rfl) (SZ rfl) rfl rfl (lB rfl)) vN) rfl ?_ | refine Ret_bool (vC (vA (AG rfl) (SZ rfl) rfl rfl (lB rfl)) vN) rfl ?_ | refine Ret_g (vC (vA (AG rfl) (SZ rfl) rfl rfl (lB rfl)) vN) rfl ?_); simp_all; done))
  | .mk kind yes coef exp text list, n + 1, hl => by
    obtain ⟨hlen, hmem⟩ := VVal.gsz_list hl
    have ih : ∀ v ∈ list, PC Tryz.prog 9 [.g v.g, .g (tyL n b).g] ⟨[], [], []⟩ (.g (.bool (hasT v n b))) ⟨[], [], []⟩ := fun v hv => has13_pc hb v n (hmem v hv)
    have hgl : (VVal.gs list).length = list.length := by simp [VVal.gs_eq]
    rw [tyS, hasT_eq]
    generalize tyL n b = u at ih
    obtain ⟨uk, ues⟩ := u
    by_cases hk : kind = 5
    · subst hk
      rw [if_neg (by omega), if_neg (by decide), if_neg (by decide), if_neg (by decide), if_pos rfl]
      dsimp only
      refine PC_of_PW Tryz.func9 rfl rfl (rs := _) rfl (Nat.le_of_ble_eq_true (by kernel_rfl)) ?_
      (repeat (first | ((first | refine qA ?_ | refine qB ?_ | refine xN ?_ | refine xE ?_ | refine xT ?_); try show PW _ _ _ _ _ _) | refine ro1 tabOk rfl rfl ?_ | refine ro2 tabOk rfl rfl ?_ | refine ro3 tabOk rfl rfl ?_ | refine rd1 tabOk rfl rfl ?_ | refine rd2 tabOk rfl rfl ?_ | refine rd3 tabOk rfl rfl ?_ | ((first | apply oR rfl rfl | (apply dF rfl rfl rfl; intro _) | (apply dP rfl rfl rfl; intro _) | (apply dL rfl rfl rfl; intro _) | apply dC rfl rfl rfl rfl); (focus (first | exact cJ | exact mG | exact bT | exact nD)); try exact kQ) | refine xS ?_ | refine xR ?_ | refine qxa rfl rfl mixed ?_ | refine qxb rfl rfl mixed ?_ | refine qxc rfl rfl mixed ?_ | refine qxd rfl rfl mixed ?_ | refine xB ?_ | refine xt rfl ?_ | refine xf rfl ?_))
      refine PW_loop_cut (S := Nat) (fun i => [(3, .ptr 1 0), (47, .g (.sl (VVal.gs list))), (48, .g (.int .i64 list.length)), (49, .g (.int .i64 i))])
        (fun _ => ⟨[[.g (.int .i64 5), .g (.bool yes), .g (.int .i64 coef), .g (.int .i64 exp), .g (.str text), .g (.sl (VVal.gs list))], [.g (.int .i64 5), .g (.sl [(VTy.mk uk ues).g])]], [], []⟩) (fun i => i ≤ list.length ∧ hasTs (list.drop i) n b = hasTs list n b) (fun i => list.length - i) 0 ⟨Nat.zero_le _, rfl⟩
        (SlotsOk.le ⟨.inl rfl, .inl rfl, .inl (congrArg (fun k : Nat => PV.g (.int .i64 k)) hgl), .inl rfl, trivial⟩) (HLe.of_eq rfl) (fun _ => rfl) (fun i hi => ?_)
      obtain ⟨hi, hgo⟩ := hi
      (repeat (first | ((first | refine qA ?_ | refine qB ?_ | refine xN ?_ | refine xE ?_ | refine xT ?_); try show PW _ _ _ _ _ _) | refine ro1 tabOk rfl rfl ?_ | refine ro2 tabOk rfl rfl ?_ | refine ro3 tabOk rfl rfl ?_ | refine rd1 tabOk rfl rfl ?_ | refine rd2 tabOk rfl rfl ?_ | refine rd3 tabOk rfl rfl ?_ | ((first | apply oR rfl rfl | (apply dF rfl rfl rfl; intro _) | (apply dP rfl rfl rfl; intro _) | (apply dL rfl rfl rfl; intro _) | apply dC rfl rfl rfl rfl); (focus (first | exact cJ | exact mG | exact bT | exact nD)); try exact kQ) | refine xS ?_ | refine xR ?_ | refine qxa rfl rfl mixed ?_ | refine qxb rfl rfl mixed ?_ | refine qxc rfl rfl mixed ?_ | refine qxd rfl rfl mixed ?_ | refine xB ?_ | refine xt rfl ?_ | refine xf rfl ?_))
      (first | refine POps_split rfl rfl (fun h => ?_) (fun h => ?_) | refine POpsD_split rfl rfl (fun h => ?_) (fun h => ?_) | refine PW_cond rfl (fun h => ?_) (fun h => ?_))
      · have hlt : i < list.length := by have := of_decide_eq_true h; omega
        have hg : (VVal.gs list)[((i : Int)).toNat]? = some list[i].g := by rw [VVal.gs_eq]; exact map_get hlt
        have ih := ih list[i] (List.getElem_mem hlt)
        rw [List.drop_eq_getElem_cons hlt, hasTs] at hgo
        generalize list[i] = x at hg ih hgo
        generalize hasT x n b = r at ih hgo
        obtain ⟨k0, k1, k2, k3, k4, k5⟩ := x
        clear h
        cases r with
        | true =>
          (repeat (first | ((first | refine qA ?_ | refine qB ?_ | refine xN ?_ | refine xE ?_ | refine xT ?_); try show PW _ _ _ _ _ _) | refine ro1 tabOk rfl rfl ?_ | refine ro2 tabOk rfl rfl ?_ | refine ro3 tabOk rfl rfl ?_ | refine rd1 tabOk rfl rfl ?_ | refine rd2 tabOk rfl rfl ?_ | refine rd3 tabOk rfl rfl ?_ | ((first | apply oR rfl rfl | (apply dF rfl rfl rfl; intro _) | (apply dP rfl rfl rfl; intro _) | (apply dL rfl rfl rfl; intro _) | apply dC rfl rfl rfl rfl); (focus (first | exact cqP ih | exact iA (g := ((VTy.mk uk ues)).g) rfl (EL rfl) (SZ rfl) rfl rfl (by decide) rfl rfl | exact iA rfl (EL rfl) (SZ rfl) rfl rfl (Int.natCast_nonneg _) hg rfl | exact cJ | exact mG | exact bT | exact nD)); try exact kQ) | refine xS ?_ | refine xR ?_ | refine qxa rfl rfl mixed ?_ | refine qxb rfl rfl mixed ?_ | refine qxc rfl rfl mixed ?_ | refine qxd rfl rfl mixed ?_ | refine xB ?_ | refine xt rfl ?_ | refine xf rfl ?_))
          exact ⟨i + 1, ⟨hlt, by simpa using hgo⟩, by omega, SlotsOk.le ⟨.inl rfl, .inl rfl, .inl rfl, .inl (congrArg (fun k => PV.g (.int .i64 k)) (wrap64 (by simp only [maxLen] at hlen; omega))), trivial⟩, Drops.mk [(VVal.mk k0 k1 k2 k3 k4 k5).g.cells.map PV.g] [] [] rfl⟩
        | false =>
          (repeat (first | ((first | refine qA ?_ | refine qB ?_ | refine xN ?_ | refine xE ?_ | refine xT ?_); try show PW _ _ _ _ _ _) | refine ro1 tabOk rfl rfl ?_ | refine ro2 tabOk rfl rfl ?_ | refine ro3 tabOk rfl rfl ?_ | refine rd1 tabOk rfl rfl ?_ | refine rd2 tabOk rfl rfl ?_ | refine rd3 tabOk rfl rfl ?_ | ((first | apply oR rfl rfl | (apply dF rfl rfl rfl; intro _) | (apply dP rfl rfl rfl; intro _) | (apply dL rfl rfl rfl; intro _) | apply dC rfl rfl rfl rfl); (focus (first | exact cqP ih | exact iA (g := ((VTy.mk uk ues)).g) rfl (EL rfl) (SZ rfl) rfl rfl (by decide) rfl rfl | exact iA rfl (EL rfl) (SZ rfl) rfl rfl (Int.natCast_nonneg _) hg rfl | exact cJ | exact mG | exact bT | exact nD)); try exact kQ) | refine xS ?_ | refine xR ?_ | refine qxa rfl rfl mixed ?_ | refine qxb rfl rfl mixed ?_ | refine qxc rfl rfl mixed ?_ | refine qxd rfl rfl mixed ?_ | refine xB ?_ | refine xt rfl ?_ | refine xf rfl ?_))
          (first | refine Ret_int (vC vT vN) rfl ?_ | refine Ret_bool (vC vT vN) rfl ?_ | refine Ret_g (vC vT vN) rfl ?_ | refine Ret_int (vC (vA (AG rfl) (SZ rfl) rfl rfl (lB rfl)) vN) rfl ?_ | refine Ret_bool (vC (vA (AG rfl) (SZ rfl) rfl rfl (lB rfl)) vN) rfl ?_ | refine Ret_g (vC (vA (AG rfl) (SZ rfl) rfl rfl (lB rfl)) vN) rfl ?_)
          simpa using hgo
      · have hi' : i = list.length := by have := of_decide_eq_false h; omega
        subst hi'
        rw [List.drop_length, hasTs] at hgo
        (repeat (first | ((first | refine qA ?_ | refine qB ?_ | refine xN ?_ | refine xE ?_ | refine xT ?_); try show PW _ _ _ _ _ _) | refine ro1 tabOk rfl rfl ?_ | refine ro2 tabOk rfl rfl ?_ | refine ro3 tabOk rfl rfl ?_ | refine rd1 tabOk rfl rfl ?_ | refine rd2 tabOk rfl rfl ?_ | refine rd3 tabOk rfl rfl ?_ | ((first | apply oR rfl rfl | (apply dF rfl rfl rfl; intro _) | (apply dP rfl rfl rfl; intro _) | (apply dL rfl rfl rfl; intro _) | apply dC rfl rfl rfl rfl); (focus (first | exact cJ | exact mG | exact bT | exact nD)); try exact kQ) | refine xS ?_ | refine xR ?_ | refine qxa rfl rfl mixed ?_ | refine qxb rfl rfl mixed ?_ | refine qxc rfl rfl mixed ?_ | refine qxd rfl rfl mixed ?_ | refine xB ?_ | refine xt rfl ?_ | refine xf rfl ?_))
        (first | refine Ret_int (vC vT vN) rfl ?_ | refine Ret_bool (vC vT vN) rfl ?_ | refine Ret_g (vC vT vN) rfl ?_ | refine Ret_int (vC (vA (AG rfl) (SZ rfl) rfl rfl (lB rfl)) vN) rfl ?_ | refine Ret_bool (vC (vA (AG rfl) (SZ rfl) rfl rfl (lB rfl)) vN) rfl ?_ | refine Ret_g (vC (vA (AG rfl) (SZ rfl) rfl rfl (lB rfl)) vN) rfl ?_)
        exact hgo
    · rw [if_neg hk]
      refine PC_of_PW Tryz.func9 rfl rfl (rs := _) rfl (Nat.le_of_ble_eq_true (by kernel_rfl)) ?_
      (repeat' (first | (first | ((first | refine qA ?_ | refine qB ?_ | refine xN ?_ | refine xE ?_ | refine xT ?_); try show PW _ _ _ _ _ _) | refine ro1 tabOk rfl rfl ?_ | refine ro2 tabOk rfl rfl ?_ | refine ro3 tabOk rfl rfl ?_ | refine rd1 tabOk rfl rfl ?_ | refine rd2 tabOk rfl rfl ?_ | refine rd3 tabOk rfl rfl ?_ | ((first | apply oR rfl rfl | (apply dF rfl rfl rfl; intro _) | (apply dP rfl rfl rfl; intro _) | (apply dL rfl rfl rfl; intro _) | apply dC rfl rfl rfl rfl); (focus (first | exact cJ | exact mG | exact bT | exact nD)); try exact kQ) | refine xU [11] rfl ?_ | refine xR ?_ | refine qxa rfl rfl mixed ?_ | refine qxb rfl rfl mixed ?_ | refine qxc rfl rfl mixed ?_ | refine qxd rfl rfl mixed ?_ | refine xB ?_ | refine xt rfl ?_ | refine xf rfl ?_) | (refine POps_split rfl rfl (fun h => ?_) (fun h => ?_) <;> fail_if_success (first | (have : true = true := h) | (have : false = false := h))) | (refine POpsD_split rfl rfl (fun h => ?_) (fun h => ?_) <;> fail_if_success (first | (have : true = true := h) | (have : false = false := h))) | refine PW_cond rfl (fun h => ?_) (fun h => ?_)))
      all_goals (first | (exfalso; simp_all; done) | ((first | refine Ret_int (vC vT vN) rfl ?_ | refine Ret_bool (vC vT vN) rfl ?_ | refine Ret_g (vC vT vN) rfl ?_ | refine Ret_int (vC (vA (AG rfl) (SZ rfl) rfl rfl (lB rfl)) vN) rfl ?_ | refine Ret_bool (vC (vA (AG rfl) (SZ rfl) rfl rfl (lB rfl)) vN) rfl ?_ | refine Ret_g (vC (vA (AG rfl) (SZ rfl) rfl rfl (lB rfl)) vN) rfl ?_); simp_all; done))

end Go.Proofs.YtlcgcihghmeeoaaGreatFmt


namespace Go.Proofs.YtlcgcihghmeeoaaGreatFmt
open Go Go.Pure
attribute [local irreducible] PW POps POpsD PO PC Cond

set_option maxRecDepth 100000 in
set_option maxHeartbeats 4000000 in
theorem join10_pc {b c : Int} (hb : baseK b) (hc : baseK c) : ∀ m n : Nat, PC Tryz.prog 10 [.g (tyL m b).g, .g (tyL n c).g] ⟨[], [], []⟩ (.g (tyL (joinT m b n c).1 (joinT m b n c).2).g) ⟨[], [], []⟩
  | m, n => by
    have f1 := fits7_pc hb hc m n
    have f2 := fits7_pc hc hb n m
    have ih : ∀ m' n', m = m' + 1 → n = n' + 1 → PC Tryz.prog 10 [.g (tyL m' b).g, .g (tyL n' c).g] ⟨[], [], []⟩ (.g (tyL (joinT m' b n' c).1 (joinT m' b n' c).2).g) ⟨[], [], []⟩ := fun m' n' h1 h2 => join10_pc hb hc m' n'
    cases q1 : fitsT m b n c with
    | true =>
      rw [joinT_l q1]
      rw [q1] at f1
      generalize tyL m b = u at f1 f2
      generalize tyL n c = v at f1 f2
      obtain ⟨uk, ues⟩ := u
      obtain ⟨vk, ves⟩ := v
      refine PC_of_PW Tryz.func10 rfl rfl (rs := _) rfl (Nat.le_of_ble_eq_true (by kernel_rfl)) ?_
      (repeat (first | ((first | refine qA ?_ | refine qB ?_ | refine xN ?_ | refine xE ?_ | refine xT ?_); try show PW _ _ _ _ _ _) | refine ro1 tabOk rfl rfl ?_ | refine ro2 tabOk rfl rfl ?_ | refine ro3 tabOk rfl rfl ?_ | refine rd1 tabOk rfl rfl ?_ | refine rd2 tabOk rfl rfl ?_ | refine rd3 tabOk rfl rfl ?_ | ((first | apply oR rfl rfl | (apply dF rfl rfl rfl; intro _) | (apply dP rfl rfl rfl; intro _) | (apply dL rfl rfl rfl; intro _) | apply dC rfl rfl rfl rfl); (focus (first | exact cqP f1 | exact cJ | exact mG | exact bT | exact nD)); try exact kQ) | refine xS ?_ | refine xR ?_ | refine qxa rfl rfl mixed ?_ | refine qxb rfl rfl mixed ?_ | refine qxc rfl rfl mixed ?_ | refine qxd rfl rfl mixed ?_ | refine xB ?_ | refine xt rfl ?_ | refine xf rfl ?_))
      (first | refine Ret_int (vC vT vN) rfl ?_ | refine Ret_bool (vC vT vN) rfl ?_ | refine Ret_g (vC vT vN) rfl ?_ | refine Ret_int (vC (vA (AG rfl) (SZ rfl) rfl rfl (lB rfl)) vN) rfl ?_ | refine Ret_bool (vC (vA (AG rfl) (SZ rfl) rfl rfl (lB rfl)) vN) rfl ?_ | refine Ret_g (vC (vA (AG rfl) (SZ rfl) rfl rfl (lB rfl)) vN) rfl ?_)
      rfl
    | false =>
      rw [q1] at f1
      cases q2 : fitsT n c m b with
      | true =>
        rw [joinT_r q1 q2]
        rw [q2] at f2
        generalize tyL m b = u at f1 f2
        generalize tyL n c = v at f1 f2
        obtain ⟨uk, ues⟩ := u
        obtain ⟨vk, ves⟩ := v
        refine PC_of_PW Tryz.func10 rfl rfl (rs := _) rfl (Nat.le_of_ble_eq_true (by kernel_rfl)) ?_
        (repeat (first | ((first | refine qA ?_ | refine qB ?_ | refine xN ?_ | refine xE ?_ | refine xT ?_); try show PW _ _ _ _ _ _) | refine ro1 tabOk rfl rfl ?_ | refine ro2 tabOk rfl rfl ?_ | refine ro3 tabOk rfl rfl ?_ | refine rd1 tabOk rfl rfl ?_ | refine rd2 tabOk rfl rfl ?_ | refine rd3 tabOk rfl rfl ?_ | ((first | apply oR rfl rfl | (apply dF rfl rfl rfl; intro _) | (apply dP rfl rfl rfl; intro _) | (apply dL rfl rfl rfl; intro _) | apply dC rfl rfl rfl rfl); (focus (first | exact cqP f1 | exact cqP f2 | exact cJ | exact mG | exact bT | exact nD)); try exact kQ) | refine xS ?_ | refine xR ?_ | refine qxa rfl rfl mixed ?_ | refine qxb rfl rfl mixed ?_ | refine qxc rfl rfl mixed ?_ | refine qxd rfl rfl mixed ?_ | refine xB ?_ | refine xt rfl ?_ | refine xf rfl ?_))
        (first | refine Ret_int (vC vT vN) rfl ?_ | refine Ret_bool (vC vT vN) rfl ?_ | refine Ret_g (vC vT vN) rfl ?_ | refine Ret_int (vC (vA (AG rfl) (SZ rfl) rfl rfl (lB rfl)) vN) rfl ?_ | refine Ret_bool (vC (vA (AG rfl) (SZ rfl) rfl rfl (lB rfl)) vN) rfl ?_ | refine Ret_g (vC (vA (AG rfl) (SZ rfl) rfl rfl (lB rfl)) vN) rfl ?_)
        rfl
      | false =>
        rw [q2] at f2
        have ho := of_pc 6
        match m, n with
        | 0, n =>
          rw [joinT_z q1 q2]
          generalize tyL n c = v at f1 f2
          obtain ⟨vk, ves⟩ := v
          rw [tyZ] at f1 f2 ⊢
          rcases hb with rfl | rfl | rfl | rfl | rfl
          all_goals
            refine PC_of_PW Tryz.func10 rfl rfl (rs := _) rfl (Nat.le_of_ble_eq_true (by kernel_rfl)) ?_
            (repeat (first | ((first | refine qA ?_ | refine qB ?_ | refine xN ?_ | refine xE ?_ | refine xT ?_); try show PW _ _ _ _ _ _) | refine ro1 tabOk rfl rfl ?_ | refine ro2 tabOk rfl rfl ?_ | refine ro3 tabOk rfl rfl ?_ | refine rd1 tabOk rfl rfl ?_ | refine rd2 tabOk rfl rfl ?_ | refine rd3 tabOk rfl rfl ?_ | ((first | apply oR rfl rfl | (apply dF rfl rfl rfl; intro _) | (apply dP rfl rfl rfl; intro _) | (apply dL rfl rfl rfl; intro _) | apply dC rfl rfl rfl rfl); (focus (first | exact cqP f1 | exact cqP f2 | exact cqP ho | exact cJ | exact mG | exact bT | exact nD)); try exact kQ) | refine xS ?_ | refine xR ?_ | refine qxa rfl rfl mixed ?_ | refine qxb rfl rfl mixed ?_ | refine qxc rfl rfl mixed ?_ | refine qxd rfl rfl mixed ?_ | refine xB ?_ | refine xt rfl ?_ | refine xf rfl ?_))
            (first | refine Ret_int (vC vT vN) rfl ?_ | refine Ret_bool (vC vT vN) rfl ?_ | refine Ret_g (vC vT vN) rfl ?_ | refine Ret_int (vC (vA (AG rfl) (SZ rfl) rfl rfl (lB rfl)) vN) rfl ?_ | refine Ret_bool (vC (vA (AG rfl) (SZ rfl) rfl rfl (lB rfl)) vN) rfl ?_ | refine Ret_g (vC (vA (AG rfl) (SZ rfl) rfl rfl (lB rfl)) vN) rfl ?_)
            rfl
        | m + 1, 0 =>
          rw [joinT_z' q1 q2]
          rw [tyS, tyZ] at f1 f2 ⊢
          generalize (tyL m b).g = u at f1 f2
          rcases hc with rfl | rfl | rfl | rfl | rfl
          all_goals
            refine PC_of_PW Tryz.func10 rfl rfl (rs := _) rfl (Nat.le_of_ble_eq_true (by kernel_rfl)) ?_
            (repeat (first | ((first | refine qA ?_ | refine qB ?_ | refine xN ?_ | refine xE ?_ | refine xT ?_); try show PW _ _ _ _ _ _) | refine ro1 tabOk rfl rfl ?_ | refine ro2 tabOk rfl rfl ?_ | refine ro3 tabOk rfl rfl ?_ | refine rd1 tabOk rfl rfl ?_ | refine rd2 tabOk rfl rfl ?_ | refine rd3 tabOk rfl rfl ?_ | ((first | apply oR rfl rfl | (apply dF rfl rfl rfl; intro _) | (apply dP rfl rfl rfl; intro _) | (apply dL rfl rfl rfl; intro _) | apply dC rfl rfl rfl rfl); (focus (first | exact cqP f1 | exact cqP f2 | exact cqP ho | exact cJ | exact mG | exact bT | exact nD)); try exact kQ) | refine xS ?_ | refine xR ?_ | refine qxa rfl rfl mixed ?_ | refine qxb rfl rfl mixed ?_ | refine qxc rfl rfl mixed ?_ | refine qxd rfl rfl mixed ?_ | refine xB ?_ | refine xt rfl ?_ | refine xf rfl ?_))
            (first | refine Ret_int (vC vT vN) rfl ?_ | refine Ret_bool (vC vT vN) rfl ?_ | refine Ret_g (vC vT vN) rfl ?_ | refine Ret_int (vC (vA (AG rfl) (SZ rfl) rfl rfl (lB rfl)) vN) rfl ?_ | refine Ret_bool (vC (vA (AG rfl) (SZ rfl) rfl rfl (lB rfl)) vN) rfl ?_ | refine Ret_g (vC (vA (AG rfl) (SZ rfl) rfl rfl (lB rfl)) vN) rfl ?_)
            rfl
        | m + 1, n + 1 =>
          have ih := ih m n rfl rfl
          rw [joinT_s q1 q2]
          rw [tyS, tyS] at f1 f2 ⊢
          dsimp only
          rw [tyS]
          generalize tyL (joinT m b n c).1 (joinT m b n c).2 = z at ih
          have hl := list_pc z
          generalize tyL m b = u at f1 f2 ih
          generalize tyL n c = v at f1 f2 ih
          obtain ⟨uk, ues⟩ := u
          obtain ⟨vk, ves⟩ := v
          obtain ⟨zk, zes⟩ := z
          refine PC_of_PW Tryz.func10 rfl rfl (rs := _) rfl (Nat.le_of_ble_eq_true (by kernel_rfl)) ?_
          (repeat (first | ((first | refine qA ?_ | refine qB ?_ | refine xN ?_ | refine xE ?_ | refine xT ?_); try show PW _ _ _ _ _ _) | refine ro1 tabOk rfl rfl ?_ | refine ro2 tabOk rfl rfl ?_ | refine ro3 tabOk rfl rfl ?_ | refine rd1 tabOk rfl rfl ?_ | refine rd2 tabOk rfl rfl ?_ | refine rd3 tabOk rfl rfl ?_ | ((first | apply oR rfl rfl | (apply dF rfl rfl rfl; intro _) | (apply dP rfl rfl rfl; intro _) | (apply dL rfl rfl rfl; intro _) | apply dC rfl rfl rfl rfl); (focus (first | exact cqP f1 | exact cqP f2 | exact cqP ih | exact cqP hl | exact iA (g := ((VTy.mk uk ues)).g) rfl (EL rfl) (SZ rfl) rfl rfl (by decide) rfl rfl | exact iA (g := ((VTy.mk vk ves)).g) rfl (EL rfl) (SZ rfl) rfl rfl (by decide) rfl rfl | exact cJ | exact mG | exact bT | exact nD)); try exact kQ) | refine xS ?_ | refine xR ?_ | refine qxa rfl rfl mixed ?_ | refine qxb rfl rfl mixed ?_ | refine qxc rfl rfl mixed ?_ | refine qxd rfl rfl mixed ?_ | refine xB ?_ | refine xt rfl ?_ | refine xf rfl ?_))
          (first | refine Ret_int (vC vT vN) rfl ?_ | refine Ret_bool (vC vT vN) rfl ?_ | refine Ret_g (vC vT vN) rfl ?_ | refine Ret_int (vC (vA (AG rfl) (SZ rfl) rfl rfl (lB rfl)) vN) rfl ?_ | refine Ret_bool (vC (vA (AG rfl) (SZ rfl) rfl rfl (lB rfl)) vN) rfl ?_ | refine Ret_g (vC (vA (AG rfl) (SZ rfl) rfl rfl (lB rfl)) vN) rfl ?_)
          rfl
termination_by m n => m
end Go.Proofs.YtlcgcihghmeeoaaGreatFmt


namespace Go.Proofs.YtlcgcihghmeeoaaGreatFmt
open Go Go.Pure
attribute [local irreducible] PW POps POpsD PO PC Cond

set_option maxRecDepth 100000 in
set_option maxHeartbeats 4000000 in
set_option maxRecDepth 100000 in
set_option maxHeartbeats 4000000 in
theorem name_num : PC Tryz.prog 12 [.g (tyL 0 3).g] ⟨[], [], []⟩ (.g (.str (bstr [110, 117, 109, 98, 101, 114]))) ⟨[], [], []⟩ := by
  rw [tyZ]
  refine PC_of_PW Tryz.func12 rfl rfl (rs := _) rfl (Nat.le_of_ble_eq_true (by kernel_rfl)) ?_
  (repeat (first | ((first | refine qA ?_ | refine qB ?_ | refine xN ?_ | refine xE ?_ | refine xT ?_); try show PW _ _ _ _ _ _) | refine ro1 tabOk rfl rfl ?_ | refine ro2 tabOk rfl rfl ?_ | refine ro3 tabOk rfl rfl ?_ | refine rd1 tabOk rfl rfl ?_ | refine rd2 tabOk rfl rfl ?_ | refine rd3 tabOk rfl rfl ?_ | ((first | apply oR rfl rfl | (apply dF rfl rfl rfl; intro _) | (apply dP rfl rfl rfl; intro _) | (apply dL rfl rfl rfl; intro _) | apply dC rfl rfl rfl rfl); (focus (first | exact cJ | exact mG | exact bT | exact nD)); try exact kQ) | refine xS ?_ | refine xR ?_ | refine qxa rfl rfl mixed ?_ | refine qxb rfl rfl mixed ?_ | refine qxc rfl rfl mixed ?_ | refine qxd rfl rfl mixed ?_ | refine xB ?_ | refine xt rfl ?_ | refine xf rfl ?_))
  (first | refine Ret_int (vC vT vN) rfl ?_ | refine Ret_bool (vC vT vN) rfl ?_ | refine Ret_g (vC vT vN) rfl ?_ | refine Ret_int (vC (vA (AG rfl) (SZ rfl) rfl rfl (lB rfl)) vN) rfl ?_ | refine Ret_bool (vC (vA (AG rfl) (SZ rfl) rfl rfl (lB rfl)) vN) rfl ?_ | refine Ret_g (vC (vA (AG rfl) (SZ rfl) rfl rfl (lB rfl)) vN) rfl ?_)
  rfl
end Go.Proofs.YtlcgcihghmeeoaaGreatFmt


namespace Go.Proofs.YtlcgcihghmeeoaaGreatFmt
open Go Go.Pure
attribute [local irreducible] PW POps POpsD PO PC Cond

theorem Ret_two {P : Program} {env : Env} {rs : List ResultVar} {ps : List PV} {e : Exit} {H2 : PH} {a b a' b' : GV} (hs : resVs P env H2 rs = some ps) (hp : ps = [.g a, .g b]) (ha : a = a') (hb : b = b')
    (he : e = .normal ∨ e = .ret := by first | exact .inl rfl | exact .inr rfl) : Ret P rs ⟨[], [], []⟩ (.tuple [.g a', .g b']) ⟨[], [], []⟩ e env H2 := by
  subst ha; subst hb; subst hp
  refine Ret_pure hs rfl (.tuple _ fun p hp => ?_) he
  simp at hp
  rcases hp with rfl | rfl <;> exact .g _
theorem Ret_three {P : Program} {env : Env} {rs : List ResultVar} {ps : List PV} {e : Exit} {H2 : PH} {a b c a' b' c' : GV} (hs : resVs P env H2 rs = some ps) (hp : ps = [.g a, .g b, .g c]) (ha : a = a') (hb : b = b') (hc : c = c')
    (he : e = .normal ∨ e = .ret := by first | exact .inl rfl | exact .inr rfl) : Ret P rs ⟨[], [], []⟩ (.tuple [.g a', .g b', .g c']) ⟨[], [], []⟩ e env H2 := by
  subst ha; subst hb; subst hc; subst hp
  refine Ret_pure hs rfl (.tuple _ fun p hp => ?_) he
  simp at hp
  rcases hp with rfl | rfl | rfl <;> exact .g _

/-- The cells of an expression that is a list of nothing. -/
abbrev lst0 : List PV := [.g (.int .i64 19), .g (.int .i64 0), .g (.bool false), .g (.int .i64 0), .g (.int .i64 0), .g (.str ⟨#[]⟩), .g (.sl []), .g (.str ⟨#[]⟩), .g (.sl [])]
abbrev lstE : VExpr := .mk 19 (.mk 0 false 0 0 ⟨#[]⟩ []) ⟨#[]⟩ []

set_option maxRecDepth 100000 in
set_option maxHeartbeats 4000000 in
theorem kids_pc : PC Tryz.prog 28 [.g (.int .i64 19)] ⟨[], [], []⟩ (.tuple [.g (.int .i64 (-1)), .g (.int .i64 200), .g (.int .i64 0)]) ⟨[], [], []⟩ := by
  refine PC_of_PW Tryz.func28 rfl rfl (rs := _) rfl (Nat.le_of_ble_eq_true (by kernel_rfl)) ?_
  (repeat (first | ((first | refine qA ?_ | refine qB ?_ | refine xN ?_ | refine xE ?_ | refine xT ?_); try show PW _ _ _ _ _ _) | refine ro1 tabOk rfl rfl ?_ | refine ro2 tabOk rfl rfl ?_ | refine ro3 tabOk rfl rfl ?_ | refine rd1 tabOk rfl rfl ?_ | refine rd2 tabOk rfl rfl ?_ | refine rd3 tabOk rfl rfl ?_ | ((first | apply oR rfl rfl | (apply dF rfl rfl rfl; intro _) | (apply dP rfl rfl rfl; intro _) | (apply dL rfl rfl rfl; intro _) | apply dC rfl rfl rfl rfl); (focus (first | exact cJ | exact mG | exact bT | exact nD)); try exact kQ) | refine xS ?_ | refine xR ?_ | refine qxa rfl rfl mixed ?_ | refine qxb rfl rfl mixed ?_ | refine qxc rfl rfl mixed ?_ | refine qxd rfl rfl mixed ?_ | refine xB ?_ | refine xt rfl ?_ | refine xf rfl ?_))
  exact Ret_three (vC vT (vC vT (vC vT vN))) rfl rfl rfl rfl

set_option maxRecDepth 100000 in
set_option maxHeartbeats 4000000 in
theorem shape_pc : PC Tryz.prog 18 [.ptr 0 0, .ptr 1 0, .g (.int .i64 1)] ⟨[[.g (.int .i64 0)], lst0], [], []⟩ (.g (.int .i64 0)) ⟨[[.g (.int .i64 1)], lst0], [], []⟩ := by
  have hk := kids_pc
  refine PC_of_PW Tryz.func18 rfl rfl (rs := _) rfl (Nat.le_of_ble_eq_true (by kernel_rfl)) ?_
  (repeat (first | ((first | refine qA ?_ | refine qB ?_ | refine xN ?_ | refine xE ?_ | refine xT ?_); try show PW _ _ _ _ _ _) | refine ro1 tabOk rfl rfl ?_ | refine ro2 tabOk rfl rfl ?_ | refine ro3 tabOk rfl rfl ?_ | refine rd1 tabOk rfl rfl ?_ | refine rd2 tabOk rfl rfl ?_ | refine rd3 tabOk rfl rfl ?_ | ((first | apply oR rfl rfl | (apply dF rfl rfl rfl; intro _) | (apply dP rfl rfl rfl; intro _) | (apply dL rfl rfl rfl; intro _) | apply dC rfl rfl rfl rfl); (focus (first | exact cqP hk | exact cJ | exact mG | exact bT | exact nD)); try exact kQ) | refine xS ?_ | refine xR ?_ | refine qxa rfl rfl mixed ?_ | refine qxb rfl rfl mixed ?_ | refine qxc rfl rfl mixed ?_ | refine qxd rfl rfl mixed ?_ | refine xB ?_ | refine xt rfl ?_ | refine xf rfl ?_))
  refine PW_loop (S := Unit) (fun _ => slots [(118, .g (.int .i64 0)), (119, .g (.int .i64 0))]) (fun _ => ⟨[[.g (.int .i64 1)], lst0], [], []⟩) (fun _ => True) (fun _ => 0) () trivial (SlotsOk.le ⟨.inl rfl, .inl rfl, trivial⟩) (HLe.of_eq rfl) (fun _ _ => ?_)
  (repeat (first | ((first | refine qA ?_ | refine qB ?_ | refine xN ?_ | refine xE ?_ | refine xT ?_); try show PW _ _ _ _ _ _) | refine ro1 tabOk rfl rfl ?_ | refine ro2 tabOk rfl rfl ?_ | refine ro3 tabOk rfl rfl ?_ | refine rd1 tabOk rfl rfl ?_ | refine rd2 tabOk rfl rfl ?_ | refine rd3 tabOk rfl rfl ?_ | ((first | apply oR rfl rfl | (apply dF rfl rfl rfl; intro _) | (apply dP rfl rfl rfl; intro _) | (apply dL rfl rfl rfl; intro _) | apply dC rfl rfl rfl rfl); (focus (first | exact cJ | exact mG | exact bT | exact nD)); try exact kQ) | refine xS ?_ | refine xR ?_ | refine qxa rfl rfl mixed ?_ | refine qxb rfl rfl mixed ?_ | refine qxc rfl rfl mixed ?_ | refine qxd rfl rfl mixed ?_ | refine xB ?_ | refine xt rfl ?_ | refine xf rfl ?_))
  (first | refine Ret_box (wC vT wN) rfl rfl rfl rfl rfl rfl rfl rfl rfl ?_ ?_ ?_ rfl | refine Ret_box (wC (vA (AG rfl) (SZ rfl) rfl rfl (lB rfl)) wN) rfl rfl rfl rfl rfl rfl rfl rfl rfl ?_ ?_ ?_ rfl | refine Ret_box (wC vT (wC vT wN)) rfl rfl rfl rfl rfl rfl rfl rfl rfl ?_ ?_ ?_ rfl | refine Ret_box (wC (vA (AG rfl) (SZ rfl) rfl rfl (lB rfl)) (wC vT wN)) rfl rfl rfl rfl rfl rfl rfl rfl rfl ?_ ?_ ?_ rfl)
  all_goals rfl

set_option maxRecDepth 100000 in
set_option maxHeartbeats 4000000 in
theorem synwrong_pc : PC Tryz.prog 13 [.g lstE.g] ⟨[], [], []⟩ (.g (.int .i64 0)) ⟨[], [], []⟩ := by
  have hs := shape_pc
  refine PC_of_PW Tryz.func13 rfl rfl (rs := _) rfl (Nat.le_of_ble_eq_true (by kernel_rfl)) ?_
  (repeat (first | ((first | refine qA ?_ | refine qB ?_ | refine xN ?_ | refine xE ?_ | refine xT ?_); try show PW _ _ _ _ _ _) | refine ro1 tabOk rfl rfl ?_ | refine ro2 tabOk rfl rfl ?_ | refine ro3 tabOk rfl rfl ?_ | refine rd1 tabOk rfl rfl ?_ | refine rd2 tabOk rfl rfl ?_ | refine rd3 tabOk rfl rfl ?_ | ((first | apply oR rfl rfl | (apply dF rfl rfl rfl; intro _) | (apply dP rfl rfl rfl; intro _) | (apply dL rfl rfl rfl; intro _) | apply dC rfl rfl rfl rfl); (focus (first | exact cb [] rfl rfl (EN rfl) (hs) rfl rfl rfl rfl rfl rfl rfl rfl rfl rfl rfl | exact cJ | exact mG | exact bT | exact nD)); try exact kQ) | refine xS ?_ | refine xR ?_ | refine qxa rfl rfl mixed ?_ | refine qxb rfl rfl mixed ?_ | refine qxc rfl rfl mixed ?_ | refine qxd rfl rfl mixed ?_ | refine xB ?_ | refine xt rfl ?_ | refine xf rfl ?_))
  (first | refine Ret_int (vC vT vN) rfl ?_ | refine Ret_bool (vC vT vN) rfl ?_ | refine Ret_g (vC vT vN) rfl ?_ | refine Ret_int (vC (vA (AG rfl) (SZ rfl) rfl rfl (lB rfl)) vN) rfl ?_ | refine Ret_bool (vC (vA (AG rfl) (SZ rfl) rfl rfl (lB rfl)) vN) rfl ?_ | refine Ret_g (vC (vA (AG rfl) (SZ rfl) rfl rfl (lB rfl)) vN) rfl ?_)
  rfl

set_option maxRecDepth 100000 in
set_option maxHeartbeats 4000000 in
theorem kidtypes_pc : PC Tryz.prog 26 [.g (.sl []), .ptr 0 0] ⟨[lst0], [], []⟩ (.tuple [.g (.sl []), .g (.int .i64 0)]) ⟨[lst0], [], []⟩ := by
  refine PC_of_PW Tryz.func26 rfl rfl (rs := _) rfl (Nat.le_of_ble_eq_true (by kernel_rfl)) ?_
  (repeat (first | ((first | refine qA ?_ | refine qB ?_ | refine xN ?_ | refine xE ?_ | refine xT ?_); try show PW _ _ _ _ _ _) | refine ro1 tabOk rfl rfl ?_ | refine ro2 tabOk rfl rfl ?_ | refine ro3 tabOk rfl rfl ?_ | refine rd1 tabOk rfl rfl ?_ | refine rd2 tabOk rfl rfl ?_ | refine rd3 tabOk rfl rfl ?_ | ((first | apply oR rfl rfl | (apply dF rfl rfl rfl; intro _) | (apply dP rfl rfl rfl; intro _) | (apply dL rfl rfl rfl; intro _) | apply dC rfl rfl rfl rfl); (focus (first | exact cJ | exact mG | exact bT | exact nD)); try exact kQ) | refine xS ?_ | refine xR ?_ | refine qxa rfl rfl mixed ?_ | refine qxb rfl rfl mixed ?_ | refine qxc rfl rfl mixed ?_ | refine qxd rfl rfl mixed ?_ | refine xB ?_ | refine xt rfl ?_ | refine xf rfl ?_))
  refine PW_loop (S := Unit) (fun _ => slots [(6, .nils), (14, .g (.int .i64 0)), (15, .g (.int .i64 0))]) (fun _ => ⟨[lst0], [], []⟩) (fun _ => True) (fun _ => 0) () trivial (SlotsOk.le ⟨.inl rfl, .inl rfl, .inl rfl, trivial⟩) (HLe.of_eq rfl) (fun _ _ => ?_)
  (repeat (first | ((first | refine qA ?_ | refine qB ?_ | refine xN ?_ | refine xE ?_ | refine xT ?_); try show PW _ _ _ _ _ _) | refine ro1 tabOk rfl rfl ?_ | refine ro2 tabOk rfl rfl ?_ | refine ro3 tabOk rfl rfl ?_ | refine rd1 tabOk rfl rfl ?_ | refine rd2 tabOk rfl rfl ?_ | refine rd3 tabOk rfl rfl ?_ | ((first | apply oR rfl rfl | (apply dF rfl rfl rfl; intro _) | (apply dP rfl rfl rfl; intro _) | (apply dL rfl rfl rfl; intro _) | apply dC rfl rfl rfl rfl); (focus (first | exact cJ | exact mG | exact bT | exact nD)); try exact kQ) | refine xS ?_ | refine xR ?_ | refine qxa rfl rfl mixed ?_ | refine qxb rfl rfl mixed ?_ | refine qxc rfl rfl mixed ?_ | refine qxd rfl rfl mixed ?_ | refine xB ?_ | refine xt rfl ?_ | refine xf rfl ?_))
  (first | refine Ret_boxp (vC vT vN) rfl rfl rfl rfl rfl rfl rfl rfl rfl ?_ ?_ ?_ rfl | refine Ret_boxp (vC (vA (AG rfl) (SZ rfl) rfl rfl (lB rfl)) vN) rfl rfl rfl rfl rfl rfl rfl rfl rfl ?_ ?_ ?_ rfl | refine Ret_boxp (vC vT (vC vT vN)) rfl rfl rfl rfl rfl rfl rfl rfl rfl ?_ ?_ ?_ rfl | refine Ret_boxp (vC (vA (AG rfl) (SZ rfl) rfl rfl (lB rfl)) (vC vT vN)) rfl rfl rfl rfl rfl rfl rfl rfl rfl ?_ ?_ ?_ rfl)
  all_goals rfl

set_option maxRecDepth 100000 in
set_option maxHeartbeats 4000000 in
theorem result_pc : PC Tryz.prog 27 [.ptr 0 0, .g (.sl [])] ⟨[lst0], [], []⟩ (.tuple [.g (VTy.mk 5 [VTy.mk 1 []]).g, .g (.bool true)]) ⟨[lst0], [], []⟩ := by
  have h3 := of_pc 3
  have h2 := of_pc 2
  have h1 := of_pc 1
  have hl := list_pc (.mk 1 [])
  refine PC_of_PW Tryz.func27 rfl rfl (rs := _) rfl (Nat.le_of_ble_eq_true (by kernel_rfl)) ?_
  (repeat (first | ((first | refine qA ?_ | refine qB ?_ | refine xN ?_ | refine xE ?_ | refine xT ?_); try show PW _ _ _ _ _ _) | refine ro1 tabOk rfl rfl ?_ | refine ro2 tabOk rfl rfl ?_ | refine ro3 tabOk rfl rfl ?_ | refine rd1 tabOk rfl rfl ?_ | refine rd2 tabOk rfl rfl ?_ | refine rd3 tabOk rfl rfl ?_ | ((first | apply oR rfl rfl | (apply dF rfl rfl rfl; intro _) | (apply dP rfl rfl rfl; intro _) | (apply dL rfl rfl rfl; intro _) | apply dC rfl rfl rfl rfl); (focus (first | exact cqP h3 | exact cqP h2 | exact cqP h1 | exact cqP hl | exact cJ | exact mG | exact bT | exact nD)); try exact kQ) | refine xS ?_ | refine xR ?_ | refine qxa rfl rfl mixed ?_ | refine qxb rfl rfl mixed ?_ | refine qxc rfl rfl mixed ?_ | refine qxd rfl rfl mixed ?_ | refine xB ?_ | refine xt rfl ?_ | refine xf rfl ?_))
  refine PW_loop (S := Unit) (fun _ => slots [(4, .ptr 1 0), (8, .ptr 4 0), (148, .g (.int .i64 0)), (149, .g (.int .i64 0))]) (fun _ => ⟨[lst0, [.g (.int .i64 0), .nils], [.g (.int .i64 3), .g (.sl [])], [.g (.int .i64 2), .g (.sl [])], [.g (.int .i64 1), .g (.sl [])]], [], []⟩) (fun _ => True) (fun _ => 0) () trivial (SlotsOk.le ⟨.inl rfl, .inl rfl, .inl rfl, .inl rfl, trivial⟩) (HLe.of_eq rfl) (fun _ _ => ?_)
  (repeat (first | ((first | refine qA ?_ | refine qB ?_ | refine xN ?_ | refine xE ?_ | refine xT ?_); try show PW _ _ _ _ _ _) | refine ro1 tabOk rfl rfl ?_ | refine ro2 tabOk rfl rfl ?_ | refine ro3 tabOk rfl rfl ?_ | refine rd1 tabOk rfl rfl ?_ | refine rd2 tabOk rfl rfl ?_ | refine rd3 tabOk rfl rfl ?_ | ((first | apply oR rfl rfl | (apply dF rfl rfl rfl; intro _) | (apply dP rfl rfl rfl; intro _) | (apply dL rfl rfl rfl; intro _) | apply dC rfl rfl rfl rfl); (focus (first | exact cqP hl | exact cJ | exact mG | exact bT | exact nD)); try exact kQ) | refine xS ?_ | refine xR ?_ | refine qxa rfl rfl mixed ?_ | refine qxb rfl rfl mixed ?_ | refine qxc rfl rfl mixed ?_ | refine qxd rfl rfl mixed ?_ | refine xB ?_ | refine xt rfl ?_ | refine xf rfl ?_))
  (first | refine Ret_boxp (vC vT vN) rfl rfl rfl rfl rfl rfl rfl rfl rfl ?_ ?_ ?_ rfl | refine Ret_boxp (vC (vA (AG rfl) (SZ rfl) rfl rfl (lB rfl)) vN) rfl rfl rfl rfl rfl rfl rfl rfl rfl ?_ ?_ ?_ rfl | refine Ret_boxp (vC vT (vC vT vN)) rfl rfl rfl rfl rfl rfl rfl rfl rfl ?_ ?_ ?_ rfl | refine Ret_boxp (vC (vA (AG rfl) (SZ rfl) rfl rfl (lB rfl)) (vC vT vN)) rfl rfl rfl rfl rfl rfl rfl rfl rfl ?_ ?_ ?_ rfl)
  all_goals rfl

set_option maxRecDepth 100000 in
set_option maxHeartbeats 4000000 in
theorem scope_pc : PC Tryz.prog 15 [.g (.sl []), .ptr 0 0] ⟨[lst0], [], []⟩ (.tuple [.g (VTy.mk 5 [VTy.mk 1 []]).g, .g (.int .i64 0)]) ⟨[lst0], [], []⟩ := by
  have hk := kidtypes_pc
  have hr := result_pc
  refine PC_of_PW Tryz.func15 rfl rfl (rs := _) rfl (Nat.le_of_ble_eq_true (by kernel_rfl)) ?_
  (repeat (first | ((first | refine qA ?_ | refine qB ?_ | refine xN ?_ | refine xE ?_ | refine xT ?_); try show PW _ _ _ _ _ _) | refine ro1 tabOk rfl rfl ?_ | refine ro2 tabOk rfl rfl ?_ | refine ro3 tabOk rfl rfl ?_ | refine rd1 tabOk rfl rfl ?_ | refine rd2 tabOk rfl rfl ?_ | refine rd3 tabOk rfl rfl ?_ | ((first | apply oR rfl rfl | (apply dF rfl rfl rfl; intro _) | (apply dP rfl rfl rfl; intro _) | (apply dL rfl rfl rfl; intro _) | apply dC rfl rfl rfl rfl); (focus (first | exact cb [] rfl rfl (EN rfl) (hk) rfl rfl rfl rfl rfl rfl rfl rfl rfl rfl rfl | exact cb [] rfl rfl (EN rfl) (hr) rfl rfl rfl rfl rfl rfl rfl rfl rfl rfl rfl | exact cJ | exact mG | exact bT | exact nD)); try exact kQ) | refine xS ?_ | refine xR ?_ | refine qxa rfl rfl mixed ?_ | refine qxb rfl rfl mixed ?_ | refine qxc rfl rfl mixed ?_ | refine qxd rfl rfl mixed ?_ | refine xB ?_ | refine xt rfl ?_ | refine xf rfl ?_))
  (first | refine Ret_boxp (vC vT vN) rfl rfl rfl rfl rfl rfl rfl rfl rfl ?_ ?_ ?_ rfl | refine Ret_boxp (vC (vA (AG rfl) (SZ rfl) rfl rfl (lB rfl)) vN) rfl rfl rfl rfl rfl rfl rfl rfl rfl ?_ ?_ ?_ rfl | refine Ret_boxp (vC vT (vC vT vN)) rfl rfl rfl rfl rfl rfl rfl rfl rfl ?_ ?_ ?_ rfl | refine Ret_boxp (vC (vA (AG rfl) (SZ rfl) rfl rfl (lB rfl)) (vC vT vN)) rfl rfl rfl rfl rfl rfl rfl rfl rfl ?_ ?_ ?_ rfl)
  all_goals rfl

set_option maxRecDepth 100000 in
set_option maxHeartbeats 4000000 in
theorem type_pc : PC Tryz.prog 6 [.g lstE.g, .g (.sl [])] ⟨[], [], []⟩ (.tuple [.g (VTy.mk 5 [VTy.mk 1 []]).g, .g (.int .i64 0)]) ⟨[], [], []⟩ := by
  have hw := synwrong_pc
  have hs := scope_pc
  refine PC_of_PW Tryz.func6 rfl rfl (rs := _) rfl (Nat.le_of_ble_eq_true (by kernel_rfl)) ?_
  (repeat (first | ((first | refine qA ?_ | refine qB ?_ | refine xN ?_ | refine xE ?_ | refine xT ?_); try show PW _ _ _ _ _ _) | refine ro1 tabOk rfl rfl ?_ | refine ro2 tabOk rfl rfl ?_ | refine ro3 tabOk rfl rfl ?_ | refine rd1 tabOk rfl rfl ?_ | refine rd2 tabOk rfl rfl ?_ | refine rd3 tabOk rfl rfl ?_ | ((first | apply oR rfl rfl | (apply dF rfl rfl rfl; intro _) | (apply dP rfl rfl rfl; intro _) | (apply dL rfl rfl rfl; intro _) | apply dC rfl rfl rfl rfl); (focus (first | exact cqP hw | exact cb [] rfl rfl (EN rfl) (hs) rfl rfl rfl rfl rfl rfl rfl rfl rfl rfl rfl | exact cJ | exact mG | exact bT | exact nD)); try exact kQ) | refine xS ?_ | refine xR ?_ | refine qxa rfl rfl mixed ?_ | refine qxb rfl rfl mixed ?_ | refine qxc rfl rfl mixed ?_ | refine qxd rfl rfl mixed ?_ | refine xB ?_ | refine xt rfl ?_ | refine xf rfl ?_))
  refine PW_loop (S := Unit) (fun _ => slots [(1, .g (.sl [])), (2, .ptr 0 0), (4, .ptr 1 0), (23, .g (.int .i64 0)), (24, .g (.int .i64 0))]) (fun _ => ⟨[lst0, [.g (.int .i64 0), .nils]], [], []⟩) (fun _ => True) (fun _ => 0) () trivial (SlotsOk.le ⟨.inl rfl, .inl rfl, .inl rfl, .inl rfl, .inl rfl, trivial⟩) (HLe.of_eq rfl) (fun _ _ => ?_)
  (repeat (first | ((first | refine qA ?_ | refine qB ?_ | refine xN ?_ | refine xE ?_ | refine xT ?_); try show PW _ _ _ _ _ _) | refine ro1 tabOk rfl rfl ?_ | refine ro2 tabOk rfl rfl ?_ | refine ro3 tabOk rfl rfl ?_ | refine rd1 tabOk rfl rfl ?_ | refine rd2 tabOk rfl rfl ?_ | refine rd3 tabOk rfl rfl ?_ | ((first | apply oR rfl rfl | (apply dF rfl rfl rfl; intro _) | (apply dP rfl rfl rfl; intro _) | (apply dL rfl rfl rfl; intro _) | apply dC rfl rfl rfl rfl); (focus (first | exact cb [] rfl rfl (EN rfl) (hs) rfl rfl rfl rfl rfl rfl rfl rfl rfl rfl rfl | exact cJ | exact mG | exact bT | exact nD)); try exact kQ) | refine xS ?_ | refine xR ?_ | refine qxa rfl rfl mixed ?_ | refine qxb rfl rfl mixed ?_ | refine qxc rfl rfl mixed ?_ | refine qxd rfl rfl mixed ?_ | refine xB ?_ | refine xt rfl ?_ | refine xf rfl ?_))
  exact Ret_two (vC (vA (AG rfl) (SZ rfl) rfl rfl (lB rfl)) (vC vT vN)) rfl rfl rfl

set_option maxRecDepth 100000 in
set_option maxHeartbeats 4000000 in
theorem alive_pc : PC Tryz.prog 5 [] ⟨[], [], []⟩ (.g (.bool true)) ⟨[], [], []⟩ := by
  have ht := type_pc
  have hn := name_num
  rw [tyZ] at hn
  refine PC_of_PW Tryz.func5 rfl rfl (rs := _) rfl (Nat.le_of_ble_eq_true (by kernel_rfl)) ?_
  (repeat (first | ((first | refine qA ?_ | refine qB ?_ | refine xN ?_ | refine xE ?_ | refine xT ?_); try show PW _ _ _ _ _ _) | refine ro1 tabOk rfl rfl ?_ | refine ro2 tabOk rfl rfl ?_ | refine ro3 tabOk rfl rfl ?_ | refine rd1 tabOk rfl rfl ?_ | refine rd2 tabOk rfl rfl ?_ | refine rd3 tabOk rfl rfl ?_ | ((first | apply oR rfl rfl | (apply dF rfl rfl rfl; intro _) | (apply dP rfl rfl rfl; intro _) | (apply dL rfl rfl rfl; intro _) | apply dC rfl rfl rfl rfl); (focus (first | exact cqP ht | exact cqP hn | exact cJ | exact mG | exact bT | exact nD)); try exact kQ) | refine xS ?_ | refine xR ?_ | refine qxa rfl rfl mixed ?_ | refine qxb rfl rfl mixed ?_ | refine qxc rfl rfl mixed ?_ | refine qxd rfl rfl mixed ?_ | refine xB ?_ | refine xt rfl ?_ | refine xf rfl ?_))
  (first | refine Ret_int (vC vT vN) rfl ?_ | refine Ret_bool (vC vT vN) rfl ?_ | refine Ret_g (vC vT vN) rfl ?_ | refine Ret_int (vC (vA (AG rfl) (SZ rfl) rfl rfl (lB rfl)) vN) rfl ?_ | refine Ret_bool (vC (vA (AG rfl) (SZ rfl) rfl rfl (lB rfl)) vN) rfl ?_ | refine Ret_g (vC (vA (AG rfl) (SZ rfl) rfl rfl (lB rfl)) vN) rfl ?_)
  exact (show ((bstr [110, 117, 109, 98, 101, 114]).toList == (bstr [110, 117, 109, 98, 101, 114]).toList) = true by simp)
end Go.Proofs.YtlcgcihghmeeoaaGreatFmt


namespace Go.Proofs.YtlcgcihghmeeoaaGreatFmt
open Go Go.Pure
attribute [local irreducible] PW POps POpsD PO PC Cond

mutual
theorem has_fits : ∀ (v : VVal) {m n : Nat} {b c : Int}, fitsT m b n c = true → hasT v m b = true → hasT v n c = true
  | .mk kind yes coef exp text list, m, n, b, c, h, hv => by
    rw [hasT_eq] at hv ⊢
    by_cases k1 : kind = 1
    · simp [k1]
    · match m, n with
      | 0, 0 =>
        rw [fzz] at h
        by_cases h6 : c = 6
        · simp [h6]
        · rcases h with h | h | h
          · subst h; simp [k1] at hv
          · exact absurd h h6
          · subst h; exact hv
      | 0, n + 1 => rw [fzs] at h; subst h; simp [k1] at hv
      | m + 1, 0 => rw [fsz] at h; simp [h]
      | m + 1, n + 1 =>
        rw [fss] at h
        have s : ∀ (m : Nat) (b : Int), (if kind = 1 ∨ (m + 1 = 0 ∧ b = 6) then true
            else if kind = 2 then decide (m + 1 = 0 ∧ b = 2) else if kind = 3 then decide (m + 1 = 0 ∧ b = 3) else if kind = 4 then decide (m + 1 = 0 ∧ b = 4)
            else if kind = 5 then (match m + 1 with | 0 => false | n + 1 => hasTs list n b) else false) = if kind = 5 then hasTs list m b else false := by
          intro m b
          rw [if_neg (by omega)]
          by_cases q2 : kind = 2
          · subst q2; simp
          · by_cases q3 : kind = 3
            · subst q3; simp
            · by_cases q4 : kind = 4
              · subst q4; simp
              · rw [if_neg q2, if_neg q3, if_neg q4]
        rw [s] at hv ⊢
        split at hv
        · rename_i q
          rw [if_pos q]
          exact has_fits_list list h hv
        · cases hv
theorem has_fits_list : ∀ (l : List VVal) {m n : Nat} {b c : Int}, fitsT m b n c = true → hasTs l m b = true → hasTs l n c = true
  | [], _, _, _, _, _, _ => by rw [hasTs]
  | v :: r, m, n, b, c, h, hv => by
    rw [hasTs, Bool.and_eq_true] at hv ⊢
    exact ⟨has_fits v h hv.1, has_fits_list r h hv.2⟩
end

set_option maxRecDepth 100000 in
set_option maxHeartbeats 8000000 in
theorem have_none (a b : VTy) (v : VVal) (h : wrongT 1 a ≠ 0 ∨ wrongT 1 b ≠ 0) : PC Tryz.prog 4 [.g a.g, .g b.g, .g v.g] ⟨[], [], []⟩ (.g (.bool true)) ⟨[], [], []⟩ := by
  have h0 := alive_pc
  have h1 := wrong4_pc a
  have h2 := wrong4_pc b
  generalize wrongT 1 a = x at h1 h
  generalize wrongT 1 b = y at h2 h
  obtain ⟨a1, a2⟩ := a
  obtain ⟨b1, b2⟩ := b
  obtain ⟨k0, k1, k2, k3, k4, k5⟩ := v
  refine PC_of_PW Tryz.func4 rfl rfl (rs := _) rfl (Nat.le_of_ble_eq_true (by kernel_rfl)) ?_
  (repeat' (first | (first | ((first | refine qA ?_ | refine qB ?_ | refine xN ?_ | refine xE ?_ | refine xT ?_); try show PW _ _ _ _ _ _) | refine ro1 tabOk rfl rfl ?_ | refine ro2 tabOk rfl rfl ?_ | refine ro3 tabOk rfl rfl ?_ | refine rd1 tabOk rfl rfl ?_ | refine rd2 tabOk rfl rfl ?_ | refine rd3 tabOk rfl rfl ?_ | ((first | apply oR rfl rfl | (apply dF rfl rfl rfl; intro _) | (apply dP rfl rfl rfl; intro _) | (apply dL rfl rfl rfl; intro _) | apply dC rfl rfl rfl rfl); (focus (first | exact cqP h0 | exact cqP h1 | exact cqP h2 | exact cJ | exact mG | exact bT | exact nD)); try exact kQ) | refine xU [5] rfl ?_ | refine xR ?_ | refine qxa rfl rfl mixed ?_ | refine qxb rfl rfl mixed ?_ | refine qxc rfl rfl mixed ?_ | refine qxd rfl rfl mixed ?_ | refine xB ?_ | refine xt rfl ?_ | refine xf rfl ?_) | (refine POps_split rfl rfl (fun h => ?_) (fun h => ?_) <;> fail_if_success (first | (have : true = true := h) | (have : false = false := h))) | (refine POpsD_split rfl rfl (fun h => ?_) (fun h => ?_) <;> fail_if_success (first | (have : true = true := h) | (have : false = false := h))) | refine PW_cond rfl (fun h => ?_) (fun h => ?_)))
  all_goals (first | (exfalso; simp_all; done) | ((first | refine Ret_int (vC vT vN) rfl ?_ | refine Ret_bool (vC vT vN) rfl ?_ | refine Ret_g (vC vT vN) rfl ?_ | refine Ret_int (vC (vA (AG rfl) (SZ rfl) rfl rfl (lB rfl)) vN) rfl ?_ | refine Ret_bool (vC (vA (AG rfl) (SZ rfl) rfl rfl (lB rfl)) vN) rfl ?_ | refine Ret_g (vC (vA (AG rfl) (SZ rfl) rfl rfl (lB rfl)) vN) rfl ?_); simp_all; done))

set_option maxRecDepth 100000 in
set_option maxHeartbeats 16000000 in
theorem have_pc (a b : VTy) (v : VVal) (hl : gsz v.g) : PC Tryz.prog 4 [.g a.g, .g b.g, .g v.g] ⟨[], [], []⟩ (.g (.bool true)) ⟨[], [], []⟩ := by
  by_cases hn : wrongT 1 a ≠ 0 ∨ wrongT 1 b ≠ 0
  · exact have_none a b v hn
  · have ha : wrongT 1 a = 0 := by omega
    have hb : wrongT 1 b = 0 := by omega
    have h0 := alive_pc
    have h1 := wrong4_pc a
    have h2 := wrong4_pc b
    rw [ha] at h1
    rw [hb] at h2
    obtain ⟨m, x, hm, hx, rfl⟩ := wrongT_ok a 1 ha
    obtain ⟨n, y, hn, hy, rfl⟩ := wrongT_ok b 1 hb
    have hjx := (join_base hx hy m n).1
    have f1 := fits7_pc hx hy m n
    have j1 := join10_pc hx hy m n
    have s1 := has13_pc hx v m hl
    have s2 := has13_pc hy v n hl
    have s3 := has13_pc hjx v (joinT m x n y).1 hl
    have l1 : hasT v m x = true → hasT v (joinT m x n y).1 (joinT m x n y).2 = true := has_fits v (join_up m n).1
    have l2 : fitsT m x n y = true → hasT v m x = true → hasT v n y = true := fun p => has_fits v p
    generalize hasT v (joinT m x n y).1 (joinT m x n y).2 = r3 at s3 l1
    generalize hasT v m x = r1 at s1 l1 l2
    generalize hasT v n y = r2 at s2 l2
    generalize fitsT m x n y = r4 at f1 l2
    generalize tyL (joinT m x n y).1 (joinT m x n y).2 = j at j1 s3
    generalize tyL m x = a at h1 f1 j1 s1
    generalize tyL n y = b at h2 f1 j1 s2
    obtain ⟨a1, a2⟩ := a
    obtain ⟨b1, b2⟩ := b
    obtain ⟨j7, j8⟩ := j
    obtain ⟨k0, k1, k2, k3, k4, k5⟩ := v
    refine PC_of_PW Tryz.func4 rfl rfl (rs := _) rfl (Nat.le_of_ble_eq_true (by kernel_rfl)) ?_
    (repeat' (first | (first | ((first | refine qA ?_ | refine qB ?_ | refine xN ?_ | refine xE ?_ | refine xT ?_); try show PW _ _ _ _ _ _) | refine ro1 tabOk rfl rfl ?_ | refine ro2 tabOk rfl rfl ?_ | refine ro3 tabOk rfl rfl ?_ | refine rd1 tabOk rfl rfl ?_ | refine rd2 tabOk rfl rfl ?_ | refine rd3 tabOk rfl rfl ?_ | ((first | apply oR rfl rfl | (apply dF rfl rfl rfl; intro _) | (apply dP rfl rfl rfl; intro _) | (apply dL rfl rfl rfl; intro _) | apply dC rfl rfl rfl rfl); (focus (first | exact cqP h0 | exact cqP h1 | exact cqP h2 | exact cqP f1 | exact cqP j1 | exact cqP s1 | exact cqP s2 | exact cqP s3 | exact cJ | exact mG | exact bT | exact nD)); try exact kQ) | refine xS ?_ | refine xR ?_ | refine qxa rfl rfl mixed ?_ | refine qxb rfl rfl mixed ?_ | refine qxc rfl rfl mixed ?_ | refine qxd rfl rfl mixed ?_ | refine xB ?_ | refine xt rfl ?_ | refine xf rfl ?_) | (refine POps_split rfl rfl (fun h => ?_) (fun h => ?_) <;> fail_if_success (first | (have : true = true := h) | (have : false = false := h))) | (refine POpsD_split rfl rfl (fun h => ?_) (fun h => ?_) <;> fail_if_success (first | (have : true = true := h) | (have : false = false := h))) | refine PW_cond rfl (fun h => ?_) (fun h => ?_)))
    all_goals (first | (exfalso; simp_all; done) | ((first | refine Ret_int (vC vT vN) rfl ?_ | refine Ret_bool (vC vT vN) rfl ?_ | refine Ret_g (vC vT vN) rfl ?_ | refine Ret_int (vC (vA (AG rfl) (SZ rfl) rfl rfl (lB rfl)) vN) rfl ?_ | refine Ret_bool (vC (vA (AG rfl) (SZ rfl) rfl rfl (lB rfl)) vN) rfl ?_ | refine Ret_g (vC (vA (AG rfl) (SZ rfl) rfl rfl (lB rfl)) vN) rfl ?_); simp_all; done))
end Go.Proofs.YtlcgcihghmeeoaaGreatFmt


namespace Go.Proofs.YtlcgcihghmeeoaaGreatFmt
open Go Go.Pure Go.Shelf Go.Lib

theorem own : Go.ownKnob Tryz.prog.godebug = none := by kernel_rfl
theorem laidOut : laidOutB Tryz.prog = true := by kernel_rfl
/-- The numbers of a range table's types. -/
def renR : Ren := ⟨fun n => n, fun | 3 => 3 | 49 => 157 | 51 => 134 | 141 => 136 | 193 => 153 | 194 => 154 | 196 => 156 | 198 => 159 | 201 => 162 | n => n, fun n => n⟩
theorem tyR : RTypes Tryz.prog renR := ⟨Tryz.underlying3, Tryz.underlying157, Tryz.underlying134, Tryz.underlying136, Tryz.underlying153, Tryz.underlying154, Tryz.underlying156, Tryz.underlying159, Tryz.underlying162⟩
theorem xR : RExtra Tryz.prog renR := ⟨by kernel_rfl, by kernel_rfl, by kernel_rfl, by kernel_rfl, by kernel_rfl, by kernel_rfl, by kernel_rfl, by kernel_rfl⟩

def numsOf : DataW Unit → Array Value
  | .agg l => (l.filterMap fun d => match d with | .lit (.int k z) => some (Value.int k z) | _ => none).toArray
  | .lit (.int k z) => #[.int k z]
  | _ => #[]
noncomputable abbrev N0 : Nat := (World.settled Tryz.prog default).heap.size
/-- A world for the witness: the listed variables hold what their initialisers lay. -/
noncomputable def laidWorld (os : Os) : World :=
  let N := (World.settled Tryz.prog os).heap.size
  let w0 := World.holding Tryz.prog os ⟨#[
    .cells (rgCells .u16 letterT.r16) 159, .cells (rgCells .u32 letterT.r32) 162,
    .cells #[.slice (some ⟨N, 0, none⟩) letterT.r16.size letterT.r16.size, .slice (some ⟨N + 1, 0, none⟩) letterT.r32.size letterT.r32.size, .int .i64 letterT.off] 156,
    .cells #[.string ⟨#[69, 79, 70]⟩] 395,
    .cells #[.string ⟨#[110, 117, 109, 98, 101, 114, 32, 104, 97, 115, 32, 110, 111, 32, 100, 105, 103, 105, 116, 115]⟩] 395,
    .cells #[.string ⟨#[39, 95, 39, 32, 109, 117, 115, 116, 32, 115, 101, 112, 97, 114, 97, 116, 101, 32, 115, 117, 99, 99, 101, 115, 115, 105, 118, 101, 32, 100, 105, 103, 105, 116, 115]⟩] 395], #[], []⟩
  let put (h : Array Obj) (x : Nat × Array Value) : Array Obj := h.modify x.1 fun
    | .cells _ t frozen => .cells x.2 t frozen
    | o => o
  let h := [(17, numsOf Rows.laid_math_bits_deBruijn32tab), (18, numsOf Rows.laid_math_bits_deBruijn64tab), (1, ((List.range 16).flatMap fun i => [Value.int .u8 (Lib.accLo i), Value.int .u8 (Lib.accHi i)]).toArray),
    (4, #[.iface 377 (.pointer (some ⟨N + 3, 0, none⟩))]), (2, numsOf Rows.laid_unicode_properties), (8, #[.iface 377 (.pointer (some ⟨N + 4, 0, none⟩))]), (7, #[.iface 377 (.pointer (some ⟨N + 5, 0, none⟩))]),
    (22, #[.int .i64 8]), (14, #[.int .i64 40]), (11, #[.int .i64 40]), (9, #[.int .i64 12]), (10, #[.int .i64 80]), (3, #[.pointer (some ⟨N + 2, 0, none⟩)]), (0, (Lib.firstTab.map fun z => Value.int .u8 z).toArray)].foldl put w0.heap
  { w0 with heap := h }

theorem piece0 (os : Os) (args : Array Value) : LaidIn Tryz.prog ((laidWorld os).forCall (fun _ _ => 0) ⟨#[], args, []⟩).memory [("math/bits.deBruijn32tab", Rows.laid_math_bits_deBruijn32tab), ("math/bits.deBruijn64tab", Rows.laid_math_bits_deBruijn64tab), ("unicode/utf8.acceptRanges", Rows.laid_unicode_utf8_acceptRanges), ("io.EOF", Rows.laid_io_EOF), ("unicode.properties", Rows.laid_unicode_properties), ("math/big.errNoDigits", Rows.laid_math_big_errNoDigits), ("math/big.errInvalSep", Rows.laid_math_big_errInvalSep), ("math/big.leafSize", Rows.laid_math_big_leafSize), ("math/big.divRecursiveThreshold", Rows.laid_math_big_divRecursiveThreshold), ("math/big.karatsubaThreshold", Rows.laid_math_big_karatsubaThreshold), ("math/big.basicSqrThreshold", Rows.laid_math_big_basicSqrThreshold), ("math/big.karatsubaSqrThreshold", Rows.laid_math_big_karatsubaSqrThreshold)] [17, 18, 1, 4, N0 + 3, 2, 8, N0 + 4, 7, N0 + 5, 22, 14, 11, 9, 10] :=
  LaidIn.of_run [17, 18, 1, 4, N0 + 3, 2, 8, N0 + 4, 7, N0 + 5, 22, 14, 11, 9, 10] 8 (by kernel_rfl) (by kernel_rfl) (by kernel_rfl) (by kernel_rfl)
theorem piece1 (os : Os) (args : Array Value) : LaidIn Tryz.prog ((laidWorld os).forCall (fun _ _ => 0) ⟨#[], args, []⟩).memory [("unicode.Letter", Lib.rtabData letterT)] [3, N0 + 2, N0, N0 + 1] :=
  laidIn_rtabT (ρ := renR) tyR xR (by kernel_rfl) (by kernel_rfl) letterT (N0 + 2) N0 (N0 + 1) 159 162
    (by kernel_rfl) (by kernel_rfl) (by kernel_rfl) (by kernel_rfl) (by kernel_rfl) (of_decide_eq_true (by kernel_rfl)) (of_decide_eq_true (by kernel_rfl)) (of_decide_eq_true (by kernel_rfl))
theorem piece2 (os : Os) (args : Array Value) : LaidIn Tryz.prog ((laidWorld os).forCall (fun _ _ => 0) ⟨#[], args, []⟩).memory [("unicode/utf8.first", Lib.firstData)] [0] :=
  LaidIn.of_run [0] 8 (by kernel_rfl) (by kernel_rfl) (by kernel_rfl) (by kernel_rfl)
end Go.Proofs.YtlcgcihghmeeoaaGreatFmt


namespace Go.Proofs.YtlcgcihghmeeoaaGreatFmt
open Go Go.Pure Go.Shelf Go.Lib Go.ChangeShapes Go.WideShapes Go.ChangeAt Go.RowKit
open Go.Extern.Stop Go.Stop Go.Extern

theorem laid_all (os : Os) (args : Array Value) : laidMet Tryz.prog Rows.typesHaveRow.laid ((laidWorld os).forCall (fun _ _ => 0) ⟨#[], args, []⟩).memory := by
  have h := ((piece0 os args).append (piece1 os args) (by kernel_rfl)).append (piece2 os args) (by kernel_rfl)
  rw [← Pinned.letter_eq, ← Pinned.utf8First_eq] at h
  exact h.met
theorem stops_are : Tryz.pinned.checked.prog.stops = ["fmt.Sprintf"] := by kernel_rfl
theorem knobs_are : Tryz.pinned.checked.prog.stopKnobs = [] := by kernel_rfl
theorem quiet_all (os : Os) : Stop.quiet Tryz.pinned.checked.prog os := by
  intro k hk
  rw [knobs_are] at hk
  cases hk
theorem val_in {g : GV} (h : GT Tryz.prog 26 g) : ∃ v : VVal, g = v.g :=
  val_inv (ti := 3) (tj := 2) (tb := 4) (ts := 9) (TD := 23) (LV := 24) Tryz.underlying3 Tryz.underlying2 Tryz.underlying4 Tryz.underlying9 ⟨_, Tryz.underlying26, rfl⟩ ⟨_, Tryz.underlying23, rfl⟩ Tryz.underlying24 _ g (Nat.le_refl _) h
theorem ty_in {g : GV} (h : GT Tryz.prog 33 g) : ∃ v : VTy, g = v.g :=
  ty_inv (ti := 3) (LY := 31) Tryz.underlying3 ⟨_, Tryz.underlying33, rfl⟩ Tryz.underlying31 _ g (Nat.le_refl _) h
def arg0 : Array Value := #[.agg #[.int .i64 0, .slice none 0 0], .agg #[.int .i64 0, .slice none 0 0], .agg #[.int .i64 0, .bool false, .int .i64 0, .int .i64 0, .string ⟨#[]⟩, .slice none 0 0]]
theorem reads0 (os : Os) {H : Type} (enc : TypeId × Value → H) : ∃ ds places, DataW.whole enc Tryz.prog ((laidWorld os).forCall (fun _ _ => 0) ⟨#[], arg0, []⟩).memory Tryz.f4.params.toList Rows.typesHaveSpec.vars false arg0.toList 8 = some (ds, [], places) :=
  ⟨[.agg [.lit (.int .i64 0), .nil], .agg [.lit (.int .i64 0), .nil], .agg [.lit (.int .i64 0), .lit (.bool false), .agg [.lit (.int .i64 0), .lit (.int .i64 0)], .lit (.string []), .nil]], [], by kernel_rfl⟩

set_option maxRecDepth 100000 in
theorem typesHave_lifted (os : Os) (started : os.Started) (H : Type) (enc : TypeId × Value → H) :
    ReturnsInTold none {} Tryz.checked os 4 .any Input.okWide ((OpenSpec.ofChange Rows.typesHaveSpec).preRow enc Tryz.prog Tryz.f4 Rows.typesHaveRow.domain false Rows.typesHaveRow.laid) (fun F => ((OpenSpec.ofChange Rows.typesHaveSpec).at F).post enc Tryz.prog Tryz.f4 false true false false) (aloneAtReturn Tryz.prog) nothingAlways := by
  obtain ⟨ds, places, hx⟩ := reads0 os enc
  refine returnsInTold_of_row (C := Tryz.checked) (s := OpenSpec.ofChange Rows.typesHaveSpec) (by kernel_rfl) own started (by kernel_rfl) Tryz.func4
    (OpenSpec.witness_stopped_atRef (enc := enc) (C := Tryz.checked) false (laidWorld os) arg0 rfl (by kernel_rfl) (by kernel_rfl) (by kernel_rfl)
      (OpenSpec.preRow_of_cond 8 hx (by kernel_rfl) (fun k hk => by cases hk) (by kernel_rfl) (laid_all os _))) ?_
  intro F W base args ds gs before _ _ hval hW _ _ _ _ _
  refine law_calls (s := Rows.typesHaveSpec) (set := [3, 4, 2, 9, 31, 33, 24, 23, 26]) (B := 4) (by kernel_rfl) (by kernel_rfl) laidOut rfl rfl Tryz.underlying4 (fun ds hl => ?_) W base args ds gs before hval hW (fun xs hl hl2 hD hT => ?_)
  · match ds, hl with
    | [d0, d1, d2], _ => rfl
  · match xs, hl with
    | [a0, a1, a2], _ =>
      have hz := (hT 2 26 _ rfl rfl).gsz
      obtain ⟨a, rfl⟩ := ty_in (hT 0 33 _ rfl rfl)
      obtain ⟨b, rfl⟩ := ty_in (hT 1 33 _ rfl rfl)
      obtain ⟨v, rfl⟩ := val_in (hT 2 26 _ rfl rfl)
      exact have_pc a b v hz
end Go.Proofs.YtlcgcihghmeeoaaGreatFmt


namespace Go.Proofs.YtlcgcihghmeeoaaGreatFmt
open Go Go.Pure Go.Shelf Go.Lib Go.ChangeShapes Go.WideShapes Go.ChangeAt Go.RowKit
open Go.Extern.Stop Go.Stop Go.Extern

theorem told_all (os : Os) (st : os.Started) (_ : Stop.quiet Tryz.pinned.checked.prog os) (H : Type) (enc : TypeId × Value → H) (_ : ∀ a b, enc a = enc b → a = b) :
    ReturnsInTold Rows.typesHaveRow.shortTexts Rows.typesHaveRow.assume Tryz.pinned.checked os 4 .any Input.okWide ((OpenSpec.ofChange Rows.typesHaveSpec).preRow enc Tryz.pinned.checked.prog Tryz.f4 Rows.typesHaveRow.domain Rows.typesHaveRow.apart Rows.typesHaveRow.laid)
      (fun F => ((OpenSpec.ofChange Rows.typesHaveSpec).at F).post enc Tryz.pinned.checked.prog Tryz.f4 Rows.typesHaveRow.apart Rows.typesHaveRow.fresh Rows.typesHaveRow.handsOn Rows.typesHaveRow.again) (aloneAtReturn Tryz.pinned.checked.prog) (Rows.typesHaveRow.always Tryz.pinned.checked.prog []) :=
  typesHave_lifted os st H enc
theorem q8 : Rows.typesHaveRow.wfByText (OpenSpec.ofChange Rows.typesHaveSpec) = true := by kernel_rfl
theorem q10 : mapsRowed Tryz.pinned.checked.prog = true := by kernel_rfl
theorem q11 : namedTie Tryz.pinned.checked.prog Rows.typesHaveRow.namedList (OpenSpec.ofChange Rows.typesHaveSpec).vars = true := by kernel_rfl
theorem q12 : Tryz.pinned.checked.prog.funcNamed Rows.typesHaveRow.func = some 4 := by kernel_rfl
theorem q13 : (Tryz.f4.params.toList.all fun t => Tryz.pinned.checked.prog.readableRec t) = true := by kernel_rfl
theorem q14 : Tryz.f4.isInstance Tryz.pinned.checked.prog Rows.typesHaveRow.origin Rows.typesHaveRow.targs := of_decide_eq_true (by kernel_rfl)
theorem q15 : Tryz.f4.isWrapper Tryz.pinned.checked.prog Rows.typesHaveRow.wrapper Rows.typesHaveRow.mainSum := of_decide_eq_true (by kernel_rfl)
theorem q1 : Rows.typesHaveRow.stops = Tryz.pinned.checked.prog.stops := stops_are.symm
theorem q2 : Rows.typesHaveRow.knobs = Tryz.pinned.checked.prog.stopKnobs := knobs_are.symm
theorem q16 : Tryz.pinned.checked.prog.envWorded = true := by kernel_rfl
theorem q17 : Rows.typesHaveRow.inPlace = Tryz.pinned.checked.prog.inPlace 4 := by kernel_rfl
theorem q18 : Rows.typesHaveRow.unfollowed = Tryz.pinned.checked.prog.unfollowed 4 := by kernel_rfl
theorem q19 : Rows.typesHaveRow.recurses = Tryz.pinned.checked.prog.recurses 4 := by kernel_rfl
theorem q20 : Rows.typesHaveRow.named = Tryz.pinned.checked.prog.varsNamed 4 := by kernel_rfl
theorem q23 : Rows.typesHaveRow.maps = (Tryz.f4.params.toList ++ (OpenSpec.ofChange Rows.typesHaveSpec).bare.plain.varTypes Tryz.pinned.checked.prog).any (Tryz.pinned.checked.prog.mapsRec ·) := by kernel_rfl
theorem q24 : Rows.typesHaveRow.ifaces = (Tryz.f4.params.toList ++ (OpenSpec.ofChange Rows.typesHaveSpec).bare.plain.varTypes Tryz.pinned.checked.prog).any (Tryz.pinned.checked.prog.ifacesRec ·) := by kernel_rfl
theorem q25 : Rows.typesHaveRow.mapsOut = Tryz.pinned.checked.prog.mapsAmong Tryz.f4.resultTypes.toList := by kernel_rfl
theorem q26 : Rows.typesHaveRow.loops = (Tryz.f4.params.toList ++ (OpenSpec.ofChange Rows.typesHaveSpec).bare.plain.varTypes Tryz.pinned.checked.prog).any (Tryz.pinned.checked.prog.loopsFrom ·) := by kernel_rfl
theorem q27 : Rows.typesHaveRow.wideKeys = (Tryz.f4.params.toList ++ (OpenSpec.ofChange Rows.typesHaveSpec).bare.plain.varTypes Tryz.pinned.checked.prog ++ Tryz.f4.resultTypes.toList).any (Tryz.pinned.checked.prog.wideKeysFrom ·) := by kernel_rfl
theorem q28 : Rows.typesHaveRow.narrowed = (OpenSpec.ofChange Rows.typesHaveSpec).cond.isSome := by kernel_rfl
theorem q29 : ((OpenSpec.ofChange Rows.typesHaveSpec).vars.all fun n => Tryz.pinned.checked.prog.varReadable n) = true := by kernel_rfl
theorem q31 : (Tryz.f4.params.toList.all fun t => !Tryz.pinned.checked.prog.wantsStandIn t) = true := by kernel_rfl
theorem q32 : Stop.anyFmt Rows.typesHaveRow.stops = true := by kernel_rfl
theorem q4 : Rows.typesHaveRow.moreEntering Tryz.pinned.checked.prog Tryz.f4 := OpenClaim.moreEntering_of (by kernel_rfl) (by kernel_rfl) (by kernel_rfl) (by kernel_rfl) (by kernel_rfl) (by kernel_rfl) (by kernel_rfl) (by kernel_rfl) (by kernel_rfl) (by kernel_rfl)
theorem q7 : ∃ os : Os, os.Started ∧ Stop.quiet Tryz.pinned.checked.prog os := ⟨_, WideRow.started_initial, quiet_all _⟩
theorem q33 : Rows.typesHaveRow.veiled = (Tryz.f4.params.toList ++ (OpenSpec.ofChange Rows.typesHaveSpec).bare.plain.varTypes Tryz.pinned.checked.prog ++ Tryz.f4.resultTypes.toList).any (Tryz.pinned.checked.prog.veiledRec ·) := by kernel_rfl
theorem q34 : Rows.typesHaveRow.veiledFits Tryz.pinned.checked.prog Tryz.f4.params.toList (Tryz.f4.params.toList ++ (OpenSpec.ofChange Rows.typesHaveSpec).bare.plain.varTypes Tryz.pinned.checked.prog ++ Tryz.f4.resultTypes.toList) = true := by kernel_rfl

theorem typesHave_told : Rows.TypesHaveToldSaid :=
  Claim7.holds_of_told_tied_any_at .later 4 Tryz.f4 "fmt.Sprintf" [] [] _ _ _ _ _ q8 rfl rfl rfl laidOut q10 rfl ⟨rfl, rfl, rfl, rfl, rfl, rfl, rfl⟩ rfl rfl q11 q12 Tryz.func4 q13 q14 q15 q1 rfl q2 q16
    q17 q18 q19 q20 q23 q24 q25 q26 q27 q28 q29 rfl rfl rfl rfl rfl (by kernel_rfl) (by kernel_rfl) q31 q32 (by kernel_rfl) typesHave_row_tie q4 q7 told_all ⟨q33, q34⟩
#print axioms typesHave_told
end Go.Proofs.YtlcgcihghmeeoaaGreatFmt
