/- What the program's functions compute, each shown once; and plain laws of it. -/
import Derived.Test.YtdicineiaifahaaGreatDoorOwnD
import Derived.Test.YtdicineiaifahaaGreatDoorPureB
import Derived.Test.YtdicineiaifahaaGreatDoorPureH
namespace Go.Proofs.YtdicineiaifahaaGreatDoor
open Go Go.Pure
attribute [local irreducible] PW POps POpsD PO PC Cond

theorem wrap64 {n : Int} (h : -9223372036854775808 ≤ n ∧ n < 9223372036854775808) : IntKind.i64.wrap n = n := by
  simp [IntKind.wrap, IntKind.bits, IntKind.signed]; omega

set_option maxRecDepth 100000 in
set_option maxHeartbeats 4000000 in
theorem bool_pc (b : Bool) : PC Tryz.prog 23 [.g (.bool b)] ⟨[], [], []⟩ (.g (VVal.mk 2 b 0 0 ⟨#[]⟩ []).g) ⟨[], [], []⟩ := by
  refine PC_of_PW Tryz.func23 rfl rfl (rs := _) rfl (Nat.le_of_ble_eq_true (by kernel_rfl)) ?_
  (repeat (first | ((first | refine qA ?_ | refine qB ?_ | refine xN ?_ | refine xE ?_ | refine xT ?_); try show PW _ _ _ _ _ _) | refine ro1 tabOk rfl rfl ?_ | refine ro2 tabOk rfl rfl ?_ | refine ro3 tabOk rfl rfl ?_ | refine rd1 tabOk rfl rfl ?_ | refine rd2 tabOk rfl rfl ?_ | refine rd3 tabOk rfl rfl ?_ | ((first | apply oR rfl rfl | (apply dF rfl rfl rfl; intro _) | (apply dP rfl rfl rfl; intro _) | (apply dL rfl rfl rfl; intro _) | apply dC rfl rfl rfl rfl); (focus (first | exact cJ | exact mG | exact bT | exact nD)); try exact kQ) | refine xS ?_ | refine xR ?_ | refine qxa rfl rfl mixed ?_ | refine qxb rfl rfl mixed ?_ | refine qxi rfl rfl rfl rfl rfl mixed ?_ | refine qxc rfl rfl mixed ?_ | refine qxd rfl rfl mixed ?_ | refine xB ?_ | refine xt rfl ?_ | refine xf rfl ?_))
  (first | refine Ret_int (vC vT vN) rfl ?_ | refine Ret_bool (vC vT vN) rfl ?_ | refine Ret_g (vC vT vN) rfl ?_ | refine Ret_int (vC (vA (AG rfl) (SZ rfl) rfl rfl (lB rfl)) vN) rfl ?_ | refine Ret_bool (vC (vA (AG rfl) (SZ rfl) rfl rfl (lB rfl)) vN) rfl ?_ | refine Ret_g (vC (vA (AG rfl) (SZ rfl) rfl rfl (lB rfl)) vN) rfl ?_)
  rfl

set_option maxRecDepth 100000 in
set_option maxHeartbeats 4000000 in
theorem null_pc : PC Tryz.prog 22 [] ⟨[], [], []⟩ (.g (VVal.mk 1 false 0 0 ⟨#[]⟩ []).g) ⟨[], [], []⟩ := by
  refine PC_of_PW Tryz.func22 rfl rfl (rs := _) rfl (Nat.le_of_ble_eq_true (by kernel_rfl)) ?_
  (repeat (first | ((first | refine qA ?_ | refine qB ?_ | refine xN ?_ | refine xE ?_ | refine xT ?_); try show PW _ _ _ _ _ _) | refine ro1 tabOk rfl rfl ?_ | refine ro2 tabOk rfl rfl ?_ | refine ro3 tabOk rfl rfl ?_ | refine rd1 tabOk rfl rfl ?_ | refine rd2 tabOk rfl rfl ?_ | refine rd3 tabOk rfl rfl ?_ | ((first | apply oR rfl rfl | (apply dF rfl rfl rfl; intro _) | (apply dP rfl rfl rfl; intro _) | (apply dL rfl rfl rfl; intro _) | apply dC rfl rfl rfl rfl); (focus (first | exact cJ | exact mG | exact bT | exact nD)); try exact kQ) | refine xS ?_ | refine xR ?_ | refine qxa rfl rfl mixed ?_ | refine qxb rfl rfl mixed ?_ | refine qxi rfl rfl rfl rfl rfl mixed ?_ | refine qxc rfl rfl mixed ?_ | refine qxd rfl rfl mixed ?_ | refine xB ?_ | refine xt rfl ?_ | refine xf rfl ?_))
  (first | refine Ret_int (vC vT vN) rfl ?_ | refine Ret_bool (vC vT vN) rfl ?_ | refine Ret_g (vC vT vN) rfl ?_ | refine Ret_int (vC (vA (AG rfl) (SZ rfl) rfl rfl (lB rfl)) vN) rfl ?_ | refine Ret_bool (vC (vA (AG rfl) (SZ rfl) rfl rfl (lB rfl)) vN) rfl ?_ | refine Ret_g (vC (vA (AG rfl) (SZ rfl) rfl rfl (lB rfl)) vN) rfl ?_)
  rfl

set_option maxRecDepth 100000 in
set_option maxHeartbeats 4000000 in
theorem told_pc (n : Int) : PC Tryz.prog 25 [.g (.int .i64 n)] ⟨[], [], []⟩ (.g (VVal.mk (tk n) (ty n) 0 0 ⟨#[]⟩ []).g) ⟨[], [], []⟩ := by
  have h0 := null_pc
  have h1 := bool_pc (decide (n > 0))
  unfold tk ty
  by_cases h : n = 0
  · subst h
    refine PC_of_PW Tryz.func25 rfl rfl (rs := _) rfl (Nat.le_of_ble_eq_true (by kernel_rfl)) ?_
    (repeat (first | ((first | refine qA ?_ | refine qB ?_ | refine xN ?_ | refine xE ?_ | refine xT ?_); try show PW _ _ _ _ _ _) | refine ro1 tabOk rfl rfl ?_ | refine ro2 tabOk rfl rfl ?_ | refine ro3 tabOk rfl rfl ?_ | refine rd1 tabOk rfl rfl ?_ | refine rd2 tabOk rfl rfl ?_ | refine rd3 tabOk rfl rfl ?_ | ((first | apply oR rfl rfl | (apply dF rfl rfl rfl; intro _) | (apply dP rfl rfl rfl; intro _) | (apply dL rfl rfl rfl; intro _) | apply dC rfl rfl rfl rfl); (focus (first | exact cqP h0 | exact cJ | exact mG | exact bT | exact nD)); try exact kQ) | refine xS ?_ | refine xR ?_ | refine qxa rfl rfl mixed ?_ | refine qxb rfl rfl mixed ?_ | refine qxi rfl rfl rfl rfl rfl mixed ?_ | refine qxc rfl rfl mixed ?_ | refine qxd rfl rfl mixed ?_ | refine xB ?_ | refine xt rfl ?_ | refine xf rfl ?_))
    (first | refine Ret_int (vC vT vN) rfl ?_ | refine Ret_bool (vC vT vN) rfl ?_ | refine Ret_g (vC vT vN) rfl ?_ | refine Ret_int (vC (vA (AG rfl) (SZ rfl) rfl rfl (lB rfl)) vN) rfl ?_ | refine Ret_bool (vC (vA (AG rfl) (SZ rfl) rfl rfl (lB rfl)) vN) rfl ?_ | refine Ret_g (vC (vA (AG rfl) (SZ rfl) rfl rfl (lB rfl)) vN) rfl ?_)
    rfl
  · rw [if_neg h, if_neg h]
    refine PC_of_PW Tryz.func25 rfl rfl (rs := _) rfl (Nat.le_of_ble_eq_true (by kernel_rfl)) ?_
    (repeat (first | ((first | refine qA ?_ | refine qB ?_ | refine xN ?_ | refine xE ?_ | refine xT ?_); try show PW _ _ _ _ _ _) | refine ro1 tabOk rfl rfl ?_ | refine ro2 tabOk rfl rfl ?_ | refine ro3 tabOk rfl rfl ?_ | refine rd1 tabOk rfl rfl ?_ | refine rd2 tabOk rfl rfl ?_ | refine rd3 tabOk rfl rfl ?_ | ((first | apply oR rfl rfl | (apply dF rfl rfl rfl; intro _) | (apply dP rfl rfl rfl; intro _) | (apply dL rfl rfl rfl; intro _) | apply dC rfl rfl rfl rfl); (focus (first | exact cJ | exact mG | exact bT | exact nD)); try exact kQ) | refine xS ?_ | refine xR ?_ | refine qxa rfl rfl mixed ?_ | refine qxb rfl rfl mixed ?_ | refine qxi rfl rfl rfl rfl rfl mixed ?_ | refine qxc rfl rfl mixed ?_ | refine qxd rfl rfl mixed ?_ | refine xB ?_ | refine xt rfl ?_ | refine xf rfl ?_))
    (first | refine POps_split rfl rfl (fun h => ?_) (fun h => ?_) | refine POpsD_split rfl rfl (fun h => ?_) (fun h => ?_) | refine PW_cond rfl (fun h => ?_) (fun h => ?_))
    · exfalso; simp_all
    · (repeat (first | ((first | refine qA ?_ | refine qB ?_ | refine xN ?_ | refine xE ?_ | refine xT ?_); try show PW _ _ _ _ _ _) | refine ro1 tabOk rfl rfl ?_ | refine ro2 tabOk rfl rfl ?_ | refine ro3 tabOk rfl rfl ?_ | refine rd1 tabOk rfl rfl ?_ | refine rd2 tabOk rfl rfl ?_ | refine rd3 tabOk rfl rfl ?_ | ((first | apply oR rfl rfl | (apply dF rfl rfl rfl; intro _) | (apply dP rfl rfl rfl; intro _) | (apply dL rfl rfl rfl; intro _) | apply dC rfl rfl rfl rfl); (focus (first | exact cqP h1 | exact cJ | exact mG | exact bT | exact nD)); try exact kQ) | refine xS ?_ | refine xR ?_ | refine qxa rfl rfl mixed ?_ | refine qxb rfl rfl mixed ?_ | refine qxi rfl rfl rfl rfl rfl mixed ?_ | refine qxc rfl rfl mixed ?_ | refine qxd rfl rfl mixed ?_ | refine xB ?_ | refine xt rfl ?_ | refine xf rfl ?_))
      (first | refine Ret_int (vC vT vN) rfl ?_ | refine Ret_bool (vC vT vN) rfl ?_ | refine Ret_g (vC vT vN) rfl ?_ | refine Ret_int (vC (vA (AG rfl) (SZ rfl) rfl rfl (lB rfl)) vN) rfl ?_ | refine Ret_bool (vC (vA (AG rfl) (SZ rfl) rfl rfl (lB rfl)) vN) rfl ?_ | refine Ret_g (vC (vA (AG rfl) (SZ rfl) rfl rfl (lB rfl)) vN) rfl ?_)
      rfl

set_option maxRecDepth 100000 in
set_option maxHeartbeats 4000000 in
theorem truth_pc (v : VVal) : PC Tryz.prog 26 [.g v.g] ⟨[], [], []⟩ (.g (.int .i64 (truthV v))) ⟨[], [], []⟩ := by
  obtain ⟨k, y, c, e, t, l⟩ := v
  unfold truthV
  cases y
  all_goals
    refine PC_of_PW Tryz.func26 rfl rfl (rs := _) rfl (Nat.le_of_ble_eq_true (by kernel_rfl)) ?_
    (repeat' (first | (first | ((first | refine qA ?_ | refine qB ?_ | refine xN ?_ | refine xE ?_ | refine xT ?_); try show PW _ _ _ _ _ _) | refine ro1 tabOk rfl rfl ?_ | refine ro2 tabOk rfl rfl ?_ | refine ro3 tabOk rfl rfl ?_ | refine rd1 tabOk rfl rfl ?_ | refine rd2 tabOk rfl rfl ?_ | refine rd3 tabOk rfl rfl ?_ | ((first | apply oR rfl rfl | (apply dF rfl rfl rfl; intro _) | (apply dP rfl rfl rfl; intro _) | (apply dL rfl rfl rfl; intro _) | apply dC rfl rfl rfl rfl); (focus (first | exact cJ | exact mG | exact bT | exact nD)); try exact kQ) | refine xS ?_ | refine xR ?_ | refine qxa rfl rfl mixed ?_ | refine qxb rfl rfl mixed ?_ | refine qxi rfl rfl rfl rfl rfl mixed ?_ | refine qxc rfl rfl mixed ?_ | refine qxd rfl rfl mixed ?_ | refine xB ?_ | refine xt rfl ?_ | refine xf rfl ?_) | (refine POps_split rfl rfl (fun h => ?_) (fun h => ?_) <;> fail_if_success (first | (have : true = true := h) | (have : false = false := h))) | (refine POpsD_split rfl rfl (fun h => ?_) (fun h => ?_) <;> fail_if_success (first | (have : true = true := h) | (have : false = false := h))) | refine PW_cond rfl (fun h => ?_) (fun h => ?_)))
    all_goals ((first | refine Ret_int (vC vT vN) rfl ?_ | refine Ret_bool (vC vT vN) rfl ?_ | refine Ret_g (vC vT vN) rfl ?_ | refine Ret_int (vC (vA (AG rfl) (SZ rfl) rfl rfl (lB rfl)) vN) rfl ?_ | refine Ret_bool (vC (vA (AG rfl) (SZ rfl) rfl rfl (lB rfl)) vN) rfl ?_ | refine Ret_g (vC (vA (AG rfl) (SZ rfl) rfl rfl (lB rfl)) vN) rfl ?_); simp_all; done)

set_option maxRecDepth 100000 in
set_option maxHeartbeats 4000000 in
theorem and_pc (a b : VVal) : PC Tryz.prog 11 [.g a.g, .g b.g] ⟨[], [], []⟩ (.g (VVal.mk (tk (min (truthV a) (truthV b))) (ty (min (truthV a) (truthV b))) 0 0 ⟨#[]⟩ []).g) ⟨[], [], []⟩ := by
  have h1 := truth_pc a
  have h2 := truth_pc b
  rw [show min (truthV a) (truthV b) = if truthV b < truthV a then truthV b else truthV a by split <;> omega]
  have h3 := told_pc (if truthV b < truthV a then truthV b else truthV a)
  generalize truthV a = p at h1 h3
  generalize truthV b = q at h2 h3
  obtain ⟨k, y, c, e, t, l⟩ := a
  obtain ⟨k', y', c', e', t', l'⟩ := b
  refine PC_of_PW Tryz.func11 rfl rfl (rs := _) rfl (Nat.le_of_ble_eq_true (by kernel_rfl)) ?_
  (repeat (first | ((first | refine qA ?_ | refine qB ?_ | refine xN ?_ | refine xE ?_ | refine xT ?_); try show PW _ _ _ _ _ _) | refine ro1 tabOk rfl rfl ?_ | refine ro2 tabOk rfl rfl ?_ | refine ro3 tabOk rfl rfl ?_ | refine rd1 tabOk rfl rfl ?_ | refine rd2 tabOk rfl rfl ?_ | refine rd3 tabOk rfl rfl ?_ | ((first | apply oR rfl rfl | (apply dF rfl rfl rfl; intro _) | (apply dP rfl rfl rfl; intro _) | (apply dL rfl rfl rfl; intro _) | apply dC rfl rfl rfl rfl); (focus (first | exact cqP h1 | exact cqP h2 | exact cqP h3 | exact cJ | exact mG | exact bT | exact nD)); try exact kQ) | refine xS ?_ | refine xR ?_ | refine qxa rfl rfl mixed ?_ | refine qxb rfl rfl mixed ?_ | refine qxi rfl rfl rfl rfl rfl mixed ?_ | refine qxc rfl rfl mixed ?_ | refine qxd rfl rfl mixed ?_ | refine xB ?_ | refine xt rfl ?_ | refine xf rfl ?_))
  (first | refine Ret_int (vC vT vN) rfl ?_ | refine Ret_bool (vC vT vN) rfl ?_ | refine Ret_g (vC vT vN) rfl ?_ | refine Ret_int (vC (vA (AG rfl) (SZ rfl) rfl rfl (lB rfl)) vN) rfl ?_ | refine Ret_bool (vC (vA (AG rfl) (SZ rfl) rfl rfl (lB rfl)) vN) rfl ?_ | refine Ret_g (vC (vA (AG rfl) (SZ rfl) rfl rfl (lB rfl)) vN) rfl ?_)
  rfl

set_option maxRecDepth 100000 in
set_option maxHeartbeats 4000000 in
theorem or_pc (a b : VVal) : PC Tryz.prog 13 [.g a.g, .g b.g] ⟨[], [], []⟩ (.g (VVal.mk (tk (max (truthV a) (truthV b))) (ty (max (truthV a) (truthV b))) 0 0 ⟨#[]⟩ []).g) ⟨[], [], []⟩ := by
  have h1 := truth_pc a
  have h2 := truth_pc b
  rw [show max (truthV a) (truthV b) = if truthV a < truthV b then truthV b else truthV a by split <;> omega]
  have h3 := told_pc (if truthV a < truthV b then truthV b else truthV a)
  generalize truthV a = p at h1 h3
  generalize truthV b = q at h2 h3
  obtain ⟨k, y, c, e, t, l⟩ := a
  obtain ⟨k', y', c', e', t', l'⟩ := b
  refine PC_of_PW Tryz.func13 rfl rfl (rs := _) rfl (Nat.le_of_ble_eq_true (by kernel_rfl)) ?_
  (repeat (first | ((first | refine qA ?_ | refine qB ?_ | refine xN ?_ | refine xE ?_ | refine xT ?_); try show PW _ _ _ _ _ _) | refine ro1 tabOk rfl rfl ?_ | refine ro2 tabOk rfl rfl ?_ | refine ro3 tabOk rfl rfl ?_ | refine rd1 tabOk rfl rfl ?_ | refine rd2 tabOk rfl rfl ?_ | refine rd3 tabOk rfl rfl ?_ | ((first | apply oR rfl rfl | (apply dF rfl rfl rfl; intro _) | (apply dP rfl rfl rfl; intro _) | (apply dL rfl rfl rfl; intro _) | apply dC rfl rfl rfl rfl); (focus (first | exact cqP h1 | exact cqP h2 | exact cqP h3 | exact cJ | exact mG | exact bT | exact nD)); try exact kQ) | refine xS ?_ | refine xR ?_ | refine qxa rfl rfl mixed ?_ | refine qxb rfl rfl mixed ?_ | refine qxi rfl rfl rfl rfl rfl mixed ?_ | refine qxc rfl rfl mixed ?_ | refine qxd rfl rfl mixed ?_ | refine xB ?_ | refine xt rfl ?_ | refine xf rfl ?_))
  (first | refine Ret_int (vC vT vN) rfl ?_ | refine Ret_bool (vC vT vN) rfl ?_ | refine Ret_g (vC vT vN) rfl ?_ | refine Ret_int (vC (vA (AG rfl) (SZ rfl) rfl rfl (lB rfl)) vN) rfl ?_ | refine Ret_bool (vC (vA (AG rfl) (SZ rfl) rfl rfl (lB rfl)) vN) rfl ?_ | refine Ret_g (vC (vA (AG rfl) (SZ rfl) rfl rfl (lB rfl)) vN) rfl ?_)
  rfl

set_option maxRecDepth 100000 in
set_option maxHeartbeats 4000000 in
theorem alive_pc : PC Tryz.prog 5 [] ⟨[], [], []⟩ (.g (.bool true)) ⟨[], [], []⟩ := by
  have h1 := and_pc (.mk 2 true 0 0 ⟨#[]⟩ []) (.mk 1 false 0 0 ⟨#[]⟩ [])
  have h2 := or_pc (.mk 2 true 0 0 ⟨#[]⟩ []) (.mk 1 false 0 0 ⟨#[]⟩ [])
  rw [show min (truthV (.mk 2 true 0 0 ⟨#[]⟩ [])) (truthV (.mk 1 false 0 0 ⟨#[]⟩ [])) = 0 from by decide] at h1
  rw [show max (truthV (.mk 2 true 0 0 ⟨#[]⟩ [])) (truthV (.mk 1 false 0 0 ⟨#[]⟩ [])) = 1 from by decide] at h2
  refine PC_of_PW Tryz.func5 rfl rfl (rs := _) rfl (Nat.le_of_ble_eq_true (by kernel_rfl)) ?_
  (repeat (first | ((first | refine qA ?_ | refine qB ?_ | refine xN ?_ | refine xE ?_ | refine xT ?_); try show PW _ _ _ _ _ _) | refine ro1 tabOk rfl rfl ?_ | refine ro2 tabOk rfl rfl ?_ | refine ro3 tabOk rfl rfl ?_ | refine rd1 tabOk rfl rfl ?_ | refine rd2 tabOk rfl rfl ?_ | refine rd3 tabOk rfl rfl ?_ | ((first | apply oR rfl rfl | (apply dF rfl rfl rfl; intro _) | (apply dP rfl rfl rfl; intro _) | (apply dL rfl rfl rfl; intro _) | apply dC rfl rfl rfl rfl); (focus (first | exact cqP h1 | exact cqP h2 | exact cJ | exact mG | exact bT | exact nD)); try exact kQ) | refine xS ?_ | refine xR ?_ | refine qxa rfl rfl mixed ?_ | refine qxb rfl rfl mixed ?_ | refine qxi rfl rfl rfl rfl rfl mixed ?_ | refine qxc rfl rfl mixed ?_ | refine qxd rfl rfl mixed ?_ | refine xB ?_ | refine xt rfl ?_ | refine xf rfl ?_))
  (first | refine Ret_int (vC vT vN) rfl ?_ | refine Ret_bool (vC vT vN) rfl ?_ | refine Ret_g (vC vT vN) rfl ?_ | refine Ret_int (vC (vA (AG rfl) (SZ rfl) rfl rfl (lB rfl)) vN) rfl ?_ | refine Ret_bool (vC (vA (AG rfl) (SZ rfl) rfl rfl (lB rfl)) vN) rfl ?_ | refine Ret_g (vC (vA (AG rfl) (SZ rfl) rfl rfl (lB rfl)) vN) rfl ?_)
  rfl

set_option maxRecDepth 100000 in
set_option maxHeartbeats 4000000 in
theorem dec_pc (c e : Int) : PC Tryz.prog 29 [.g (.agg [.int .i64 c, .int .i64 e])] ⟨[], [], []⟩ (.g (.int .i64 (wrongD c e))) ⟨[], [], []⟩ := by
  unfold wrongD
  refine PC_of_PW Tryz.func29 rfl rfl (rs := _) rfl (Nat.le_of_ble_eq_true (by kernel_rfl)) ?_
  (repeat' (first | (first | ((first | refine qA ?_ | refine qB ?_ | refine xN ?_ | refine xE ?_ | refine xT ?_); try show PW _ _ _ _ _ _) | refine ro1 tabOk rfl rfl ?_ | refine ro2 tabOk rfl rfl ?_ | refine ro3 tabOk rfl rfl ?_ | refine rd1 tabOk rfl rfl ?_ | refine rd2 tabOk rfl rfl ?_ | refine rd3 tabOk rfl rfl ?_ | ((first | apply oR rfl rfl | (apply dF rfl rfl rfl; intro _) | (apply dP rfl rfl rfl; intro _) | (apply dL rfl rfl rfl; intro _) | apply dC rfl rfl rfl rfl); (focus (first | exact PO_rem rfl rfl rfl (by decide) | exact cJ | exact mG | exact bT | exact nD)); try exact kQ) | refine xS ?_ | refine xR ?_ | refine qxa rfl rfl mixed ?_ | refine qxb rfl rfl mixed ?_ | refine qxi rfl rfl rfl rfl rfl mixed ?_ | refine qxc rfl rfl mixed ?_ | refine qxd rfl rfl mixed ?_ | refine xB ?_ | refine xt rfl ?_ | refine xf rfl ?_) | (refine POps_split rfl rfl (fun h => ?_) (fun h => ?_) <;> fail_if_success (first | (have : true = true := h) | (have : false = false := h))) | (refine POpsD_split rfl rfl (fun h => ?_) (fun h => ?_) <;> fail_if_success (first | (have : true = true := h) | (have : false = false := h))) | refine PW_cond rfl (fun h => ?_) (fun h => ?_)))
  all_goals ((first | refine Ret_int (vC vT vN) rfl ?_ | refine Ret_bool (vC vT vN) rfl ?_ | refine Ret_g (vC vT vN) rfl ?_ | refine Ret_int (vC (vA (AG rfl) (SZ rfl) rfl rfl (lB rfl)) vN) rfl ?_ | refine Ret_bool (vC (vA (AG rfl) (SZ rfl) rfl rfl (lB rfl)) vN) rfl ?_ | refine Ret_g (vC (vA (AG rfl) (SZ rfl) rfl rfl (lB rfl)) vN) rfl ?_); simp_all)
  all_goals omega
end Go.Proofs.YtdicineiaifahaaGreatDoor

