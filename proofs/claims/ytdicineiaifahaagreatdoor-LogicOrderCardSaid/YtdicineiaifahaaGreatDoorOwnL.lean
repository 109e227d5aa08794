/- What the program's functions compute, each shown once; and plain laws of it. -/
import Derived.Test.YtdicineiaifahaaGreatDoorOwnG
import Derived.Test.YtdicineiaifahaaGreatDoorOwnJ
import Derived.Test.YtdicineiaifahaaGreatDoorPureK
import Derived.Test.YtdicineiaifahaaGreatDoorPureC
import Derived.Test.YtdicineiaifahaaGreatDoorOwnD
import Derived.Shelf.Unicode.ValidAny
import Derived.Test.YtdicineiaifahaaGreatDoorPureB
import Derived.Test.YtdicineiaifahaaGreatDoorPureH
import Derived.Lib.LaidIn
import Derived.Lib.LaidU8T
import Derived.PinnedBridge
import Derived.Test.YtdicineiaifahaaGreatDoorCards
import Derived.Test.YtdicineiaifahaaGreatDoorTie
import Derived.Deep.DeepHandedRow
import Derived.Deep.DeepWitnessRowRef
import Derived.Lay
import Derived.OpenVars
import Derived.OpenShut
import Derived.LaidMore
import Derived.LaidOnce
import Derived.SevenTiedAt
import Derived.Clock
import Derived.JoinedCond
import Derived.ProofKit
import Derived.SizedLaws
namespace Go.Proofs.YtdicineiaifahaaGreatDoor
open Go Go.Pure
attribute [local irreducible] PW POps POpsD PO PC Cond

theorem intP_is (z : Int) : ∃ (b : Bool) (ws : List Nat), intP z = [.g (.bool b), .g (.sl (wsG ws))] := ⟨_, _, rfl⟩
set_option maxRecDepth 100000 in
set_option maxHeartbeats 8000000 in
/-- dec.units: how many units of 10^m. -/
theorem units_pc {c e m : Int} (hc : -999999999999999999 ≤ c ∧ c ≤ 999999999999999999) (hm : -40 ≤ m) (hme : m ≤ e) (he : e ≤ 40) : PC Tryz.prog 32 [.g (.agg [.int .i64 c, .int .i64 e]), .g (.int .i64 m)] ⟨[], [], []⟩ (.ptr 0 0) ⟨[intP (decU c e m)], [], []⟩ := by
  have h1 := newInt_pc (z := c) (by omega) (by omega)
  have h2 := ten_pc (n := (e - m).toNat) (by omega)
  have hs : IntKind.i64.wrap (e - m) = ((e - m).toNat : Int) := by rw [w64 (by omega)]; omega
  have h3 := Mul_pc (x := c) (y := ((10 ^ (e - m).toNat : Nat) : Int)) (Nat.le_trans (dig_length_le (k := 1) (by unfold WB; omega)) (by decide)) (by
    rw [Int.natAbs_natCast]
    have a1 : 10 ^ (e - m).toNat ≤ 10 ^ 80 := Nat.pow_le_pow_right (by decide) (by omega)
    have a2 : (10 : Nat) ^ 80 < WB ^ 30 := by decide +kernel
    exact dig_length_le (Nat.lt_of_le_of_lt a1 a2))
  unfold decU
  obtain ⟨b1, w1, e1⟩ := intP_is c
  obtain ⟨b2, w2, e2⟩ := intP_is ((10 ^ (e - m).toNat : Nat) : Int)
  obtain ⟨b3, w3, e3⟩ := intP_is (c * ((10 ^ (e - m).toNat : Nat) : Int))
  rw [e1] at h1 h3
  rw [e2] at h2 h3
  rw [e3] at h3 ⊢
  rw [← hs] at h2
  refine PC.sel (v := .ptr 3 0) (H1 := ⟨[[.g (.int .i64 c), .g (.int .i64 e)], [.g (.bool b1), .g (.sl (wsG w1))], [.g (.bool b2), .g (.sl (wsG w2))], [.g (.bool b3), .g (.sl (wsG w3))]], [], []⟩) ?_ [3] [] [] rfl rfl rfl rfl rfl rfl rfl rfl
  refine PC_of_PW Tryz.func32 rfl rfl (rs := _) rfl (Nat.le_of_ble_eq_true (by kernel_rfl)) ?_
  (repeat (first | ((first | refine qA ?_ | refine qB ?_ | refine xN ?_ | refine xE ?_ | refine xT ?_); try show PW _ _ _ _ _ _) | refine ro1 tabOk rfl rfl ?_ | refine ro2 tabOk rfl rfl ?_ | refine ro3 tabOk rfl rfl ?_ | refine rd1 tabOk rfl rfl ?_ | refine rd2 tabOk rfl rfl ?_ | refine rd3 tabOk rfl rfl ?_ | ((first | apply oR rfl rfl | (apply dF rfl rfl rfl; intro _) | (apply dP rfl rfl rfl; intro _) | (apply dL rfl rfl rfl; intro _) | apply dC rfl rfl rfl rfl); (focus (first | exact cb [] rfl rfl (EN rfl) (h1) rfl rfl rfl rfl rfl rfl rfl rfl rfl rfl rfl | exact cb [] rfl rfl (EN rfl) (h2) rfl rfl rfl rfl rfl rfl rfl rfl rfl rfl rfl | exact cd [] rfl rfl (EN rfl) (h3) rfl rfl rfl rfl rfl rfl rfl rfl rfl rfl rfl | exact cJ | exact mG | exact bT | exact nD)); try exact kQ) | refine xS ?_ | refine xR ?_ | refine qxa rfl rfl mixed ?_ | refine qxb rfl rfl mixed ?_ | refine qxi rfl rfl rfl rfl rfl mixed ?_ | refine qxc rfl rfl mixed ?_ | refine qxd rfl rfl mixed ?_ | refine xB ?_ | refine xt rfl ?_ | refine xf rfl ?_))
  (first | refine Ret_box wN rfl rfl rfl rfl rfl rfl rfl rfl rfl ?_ ?_ ?_ rfl | refine Ret_box (wC vT wN) rfl rfl rfl rfl rfl rfl rfl rfl rfl ?_ ?_ ?_ rfl | refine Ret_box (wC (vA (AG rfl) (SZ rfl) rfl rfl (lB rfl)) wN) rfl rfl rfl rfl rfl rfl rfl rfl rfl ?_ ?_ ?_ rfl | refine Ret_box (wC vT (wC vT wN)) rfl rfl rfl rfl rfl rfl rfl rfl rfl ?_ ?_ ?_ rfl | refine Ret_box (wC (vA (AG rfl) (SZ rfl) rfl rfl (lB rfl)) (wC vT wN)) rfl rfl rfl rfl rfl rfl rfl rfl rfl ?_ ?_ ?_ rfl)
  all_goals rfl

set_option maxRecDepth 100000 in
set_option maxHeartbeats 8000000 in
/-- dec.right, of two numbers. -/
theorem right_pc {c e d f : Int} : PC Tryz.prog 31 [.g (.sl [.agg [.int .i64 c, .int .i64 e], .agg [.int .i64 d, .int .i64 f]])] ⟨[], [], []⟩ (.g (.int .i64 (if wrongD c e = 0 then wrongD d f else wrongD c e))) ⟨[], [], []⟩ := by
  have h1 := dec_pc c e
  have h2 := dec_pc d f
  generalize wrongD c e = x at h1
  generalize wrongD d f = z at h2
  by_cases hx : x = 0
  · subst hx
    rw [if_pos rfl]
    by_cases hz : z = 0
    · subst hz
      refine PC_of_PW Tryz.func31 rfl rfl (rs := _) rfl (Nat.le_of_ble_eq_true (by kernel_rfl)) ?_
      (repeat (first | ((first | refine qA ?_ | refine qB ?_ | refine xN ?_ | refine xE ?_ | refine xT ?_); try show PW _ _ _ _ _ _) | refine ro1 tabOk rfl rfl ?_ | refine ro2 tabOk rfl rfl ?_ | refine ro3 tabOk rfl rfl ?_ | refine rd1 tabOk rfl rfl ?_ | refine rd2 tabOk rfl rfl ?_ | refine rd3 tabOk rfl rfl ?_ | ((first | apply oR rfl rfl | (apply dF rfl rfl rfl; intro _) | (apply dP rfl rfl rfl; intro _) | (apply dL rfl rfl rfl; intro _) | apply dC rfl rfl rfl rfl); (focus (first | exact cJ | exact mG | exact bT | exact nD)); try exact kQ) | refine xS ?_ | refine xR ?_ | refine qxa rfl rfl mixed ?_ | refine qxb rfl rfl mixed ?_ | refine qxi rfl rfl rfl rfl rfl mixed ?_ | refine qxc rfl rfl mixed ?_ | refine qxd rfl rfl mixed ?_ | refine xB ?_ | refine xt rfl ?_ | refine xf rfl ?_))
      refine PW_loop_n 3 ?_
      (repeat (first | ((first | refine qA ?_ | refine qB ?_ | refine xN ?_ | refine xE ?_ | refine xT ?_); try show PW _ _ _ _ _ _) | refine ro1 tabOk rfl rfl ?_ | refine ro2 tabOk rfl rfl ?_ | refine ro3 tabOk rfl rfl ?_ | refine rd1 tabOk rfl rfl ?_ | refine rd2 tabOk rfl rfl ?_ | refine rd3 tabOk rfl rfl ?_ | ((first | apply oR rfl rfl | (apply dF rfl rfl rfl; intro _) | (apply dP rfl rfl rfl; intro _) | (apply dL rfl rfl rfl; intro _) | apply dC rfl rfl rfl rfl); (focus (first | exact cqP h1 | exact cqP h2 | exact iA rfl (EL rfl) (SZ rfl) rfl rfl (by decide) rfl rfl | exact cJ | exact mG | exact bT | exact nD)); try exact kQ) | refine xS ?_ | refine xR ?_ | refine qxa rfl rfl mixed ?_ | refine qxb rfl rfl mixed ?_ | refine qxi rfl rfl rfl rfl rfl mixed ?_ | refine qxc rfl rfl mixed ?_ | refine qxd rfl rfl mixed ?_ | refine xB ?_ | refine xt rfl ?_ | refine xf rfl ?_))
      (first | refine Ret_int (vC vT vN) rfl ?_ | refine Ret_bool (vC vT vN) rfl ?_ | refine Ret_g (vC vT vN) rfl ?_ | refine Ret_int (vC (vA (AG rfl) (SZ rfl) rfl rfl (lB rfl)) vN) rfl ?_ | refine Ret_bool (vC (vA (AG rfl) (SZ rfl) rfl rfl (lB rfl)) vN) rfl ?_ | refine Ret_g (vC (vA (AG rfl) (SZ rfl) rfl rfl (lB rfl)) vN) rfl ?_)
      rfl
    · refine PC_of_PW Tryz.func31 rfl rfl (rs := _) rfl (Nat.le_of_ble_eq_true (by kernel_rfl)) ?_
      (repeat (first | ((first | refine qA ?_ | refine qB ?_ | refine xN ?_ | refine xE ?_ | refine xT ?_); try show PW _ _ _ _ _ _) | refine ro1 tabOk rfl rfl ?_ | refine ro2 tabOk rfl rfl ?_ | refine ro3 tabOk rfl rfl ?_ | refine rd1 tabOk rfl rfl ?_ | refine rd2 tabOk rfl rfl ?_ | refine rd3 tabOk rfl rfl ?_ | ((first | apply oR rfl rfl | (apply dF rfl rfl rfl; intro _) | (apply dP rfl rfl rfl; intro _) | (apply dL rfl rfl rfl; intro _) | apply dC rfl rfl rfl rfl); (focus (first | exact cJ | exact mG | exact bT | exact nD)); try exact kQ) | refine xS ?_ | refine xR ?_ | refine qxa rfl rfl mixed ?_ | refine qxb rfl rfl mixed ?_ | refine qxi rfl rfl rfl rfl rfl mixed ?_ | refine qxc rfl rfl mixed ?_ | refine qxd rfl rfl mixed ?_ | refine xB ?_ | refine xt rfl ?_ | refine xf rfl ?_))
      refine PW_loop_n 3 ?_
      (repeat' (first | (first | ((first | refine qA ?_ | refine qB ?_ | refine xN ?_ | refine xE ?_ | refine xT ?_); try show PW _ _ _ _ _ _) | refine ro1 tabOk rfl rfl ?_ | refine ro2 tabOk rfl rfl ?_ | refine ro3 tabOk rfl rfl ?_ | refine rd1 tabOk rfl rfl ?_ | refine rd2 tabOk rfl rfl ?_ | refine rd3 tabOk rfl rfl ?_ | ((first | apply oR rfl rfl | (apply dF rfl rfl rfl; intro _) | (apply dP rfl rfl rfl; intro _) | (apply dL rfl rfl rfl; intro _) | apply dC rfl rfl rfl rfl); (focus (first | exact cqP h1 | exact cqP h2 | exact iA rfl (EL rfl) (SZ rfl) rfl rfl (by decide) rfl rfl | exact cJ | exact mG | exact bT | exact nD)); try exact kQ) | refine xS ?_ | refine xR ?_ | refine qxa rfl rfl mixed ?_ | refine qxb rfl rfl mixed ?_ | refine qxi rfl rfl rfl rfl rfl mixed ?_ | refine qxc rfl rfl mixed ?_ | refine qxd rfl rfl mixed ?_ | refine xB ?_ | refine xt rfl ?_ | refine xf rfl ?_) | (refine POps_split rfl rfl (fun h => ?_) (fun h => ?_) <;> fail_if_success (first | (have : true = true := h) | (have : false = false := h))) | (refine POpsD_split rfl rfl (fun h => ?_) (fun h => ?_) <;> fail_if_success (first | (have : true = true := h) | (have : false = false := h))) | refine PW_cond rfl (fun h => ?_) (fun h => ?_)))
      all_goals (first | (exfalso; first | (simp_all; done) | (simp_all; omega)) | ((first | refine Ret_int (vC vT vN) rfl ?_ | refine Ret_bool (vC vT vN) rfl ?_ | refine Ret_g (vC vT vN) rfl ?_ | refine Ret_int (vC (vA (AG rfl) (SZ rfl) rfl rfl (lB rfl)) vN) rfl ?_ | refine Ret_bool (vC (vA (AG rfl) (SZ rfl) rfl rfl (lB rfl)) vN) rfl ?_ | refine Ret_g (vC (vA (AG rfl) (SZ rfl) rfl rfl (lB rfl)) vN) rfl ?_); rfl))
  · rw [if_neg hx]
    refine PC_of_PW Tryz.func31 rfl rfl (rs := _) rfl (Nat.le_of_ble_eq_true (by kernel_rfl)) ?_
    (repeat (first | ((first | refine qA ?_ | refine qB ?_ | refine xN ?_ | refine xE ?_ | refine xT ?_); try show PW _ _ _ _ _ _) | refine ro1 tabOk rfl rfl ?_ | refine ro2 tabOk rfl rfl ?_ | refine ro3 tabOk rfl rfl ?_ | refine rd1 tabOk rfl rfl ?_ | refine rd2 tabOk rfl rfl ?_ | refine rd3 tabOk rfl rfl ?_ | ((first | apply oR rfl rfl | (apply dF rfl rfl rfl; intro _) | (apply dP rfl rfl rfl; intro _) | (apply dL rfl rfl rfl; intro _) | apply dC rfl rfl rfl rfl); (focus (first | exact cJ | exact mG | exact bT | exact nD)); try exact kQ) | refine xS ?_ | refine xR ?_ | refine qxa rfl rfl mixed ?_ | refine qxb rfl rfl mixed ?_ | refine qxi rfl rfl rfl rfl rfl mixed ?_ | refine qxc rfl rfl mixed ?_ | refine qxd rfl rfl mixed ?_ | refine xB ?_ | refine xt rfl ?_ | refine xf rfl ?_))
    refine PW_loop_n 3 ?_
    (repeat' (first | (first | ((first | refine qA ?_ | refine qB ?_ | refine xN ?_ | refine xE ?_ | refine xT ?_); try show PW _ _ _ _ _ _) | refine ro1 tabOk rfl rfl ?_ | refine ro2 tabOk rfl rfl ?_ | refine ro3 tabOk rfl rfl ?_ | refine rd1 tabOk rfl rfl ?_ | refine rd2 tabOk rfl rfl ?_ | refine rd3 tabOk rfl rfl ?_ | ((first | apply oR rfl rfl | (apply dF rfl rfl rfl; intro _) | (apply dP rfl rfl rfl; intro _) | (apply dL rfl rfl rfl; intro _) | apply dC rfl rfl rfl rfl); (focus (first | exact cqP h1 | exact iA rfl (EL rfl) (SZ rfl) rfl rfl (by decide) rfl rfl | exact cJ | exact mG | exact bT | exact nD)); try exact kQ) | refine xS ?_ | refine xR ?_ | refine qxa rfl rfl mixed ?_ | refine qxb rfl rfl mixed ?_ | refine qxi rfl rfl rfl rfl rfl mixed ?_ | refine qxc rfl rfl mixed ?_ | refine qxd rfl rfl mixed ?_ | refine xB ?_ | refine xt rfl ?_ | refine xf rfl ?_) | (refine POps_split rfl rfl (fun h => ?_) (fun h => ?_) <;> fail_if_success (first | (have : true = true := h) | (have : false = false := h))) | (refine POpsD_split rfl rfl (fun h => ?_) (fun h => ?_) <;> fail_if_success (first | (have : true = true := h) | (have : false = false := h))) | refine PW_cond rfl (fun h => ?_) (fun h => ?_)))
    all_goals (first | (exfalso; first | (simp_all; done) | (simp_all; omega)) | ((first | refine Ret_int (vC vT vN) rfl ?_ | refine Ret_bool (vC vT vN) rfl ?_ | refine Ret_g (vC vT vN) rfl ?_ | refine Ret_int (vC (vA (AG rfl) (SZ rfl) rfl rfl (lB rfl)) vN) rfl ?_ | refine Ret_bool (vC (vA (AG rfl) (SZ rfl) rfl rfl (lB rfl)) vN) rfl ?_ | refine Ret_g (vC (vA (AG rfl) (SZ rfl) rfl rfl (lB rfl)) vN) rfl ?_); rfl))

theorem decU_len {c e m : Int} (hc : -999999999999999999 ≤ c ∧ c ≤ 999999999999999999) (h : (e - m).toNat ≤ 80) : (dig (decU c e m).natAbs).length ≤ 100000 := by
  unfold decU
  rw [Int.natAbs_mul, Int.natAbs_natCast]
  have a1 : 10 ^ (e - m).toNat ≤ 10 ^ 80 := Nat.pow_le_pow_right (by decide) h
  have a2 : (10 : Nat) ^ 18 * 10 ^ 80 < WB ^ 30 := by decide +kernel
  have a3 : c.natAbs ≤ 10 ^ 18 := by have : (10 : Nat) ^ 18 = 1000000000000000000 := by decide +kernel
                                     omega
  exact Nat.le_trans (dig_length_le (Nat.lt_of_le_of_lt (Nat.mul_le_mul a3 a1) a2)) (by decide)

set_option maxRecDepth 100000 in
set_option maxHeartbeats 8000000 in
/-- dec.Cmp, of right numbers. -/
theorem dcmp_pc {c e d f : Int} (h1 : wrongD c e = 0) (h2 : wrongD d f = 0) : PC Tryz.prog 21 [.g (.agg [.int .i64 c, .int .i64 e]), .g (.agg [.int .i64 d, .int .i64 f])] ⟨[], [], []⟩ (.tuple [.g (.int .i64 (cmpD c e d f)), .g (.int .i64 0)]) ⟨[], [], []⟩ := by
  have a := (wrongD_ok h1).1
  have b := (wrongD_ok h2).1
  have hr := right_pc (c := c) (e := e) (d := d) (f := f)
  rw [if_pos h1, h2] at hr
  have hu1 := units_pc (c := c) (e := e) (m := min e f) (by omega) (by omega) (by omega) (by omega)
  have hu2 := units_pc (c := d) (e := f) (m := min e f) (by omega) (by omega) (by omega) (by omega)
  have hc := intCmp_pc (x := decU c e (min e f)) (y := decU d f (min e f)) (decU_len (by omega) (by omega)) (decU_len (by omega) (by omega))
  change PC _ _ _ _ (.g (.int .i64 (cmpD c e d f))) _ at hc
  obtain ⟨b1, w1, e1⟩ := intP_is (decU c e (min e f))
  obtain ⟨b2, w2, e2⟩ := intP_is (decU d f (min e f))
  rw [e1] at hu1 hc
  rw [e2] at hu2 hc
  generalize cmpD c e d f = r at hc
  rw [show min e f = if f < e then f else e by split <;> omega] at hu1 hu2
  refine PC_of_PW Tryz.func21 rfl rfl (rs := _) rfl (Nat.le_of_ble_eq_true (by kernel_rfl)) ?_
  (repeat (first | ((first | refine qA ?_ | refine qB ?_ | refine xN ?_ | refine xE ?_ | refine xT ?_); try show PW _ _ _ _ _ _) | refine ro1 tabOk rfl rfl ?_ | refine ro2 tabOk rfl rfl ?_ | refine ro3 tabOk rfl rfl ?_ | refine rd1 tabOk rfl rfl ?_ | refine rd2 tabOk rfl rfl ?_ | refine rd3 tabOk rfl rfl ?_ | ((first | apply oR rfl rfl | (apply dF rfl rfl rfl; intro _) | (apply dP rfl rfl rfl; intro _) | (apply dL rfl rfl rfl; intro _) | apply dC rfl rfl rfl rfl); (focus (first | exact cqP hr | exact cb [] rfl rfl (EN rfl) (hu1) rfl rfl rfl rfl rfl rfl rfl rfl rfl rfl rfl | exact cb [] rfl rfl (EN rfl) (hu2) rfl rfl rfl rfl rfl rfl rfl rfl rfl rfl rfl | exact cd [] rfl rfl (EN rfl) (hc) rfl rfl rfl rfl rfl rfl rfl rfl rfl rfl rfl | exact cJ | exact mG | exact bT | exact nD)); try exact kQ) | refine xS ?_ | refine xR ?_ | refine qxa rfl rfl mixed ?_ | refine qxb rfl rfl mixed ?_ | refine qxi rfl rfl rfl rfl rfl mixed ?_ | refine qxc rfl rfl mixed ?_ | refine qxd rfl rfl mixed ?_ | refine xB ?_ | refine xt rfl ?_ | refine xf rfl ?_))
  (first | refine Ret2 (vC vT (vC vT vN)) rfl ?_ ?_ | refine Ret2 (vC (vA (AG rfl) (SZ rfl) rfl rfl (lB rfl)) (vC vT vN)) rfl ?_ ?_ | refine Ret2 (vC vT (vC (vA (AG rfl) (SZ rfl) rfl rfl (lB rfl)) vN)) rfl ?_ ?_)
  all_goals rfl

set_option maxRecDepth 100000 in
set_option maxHeartbeats 8000000 in
/-- dec.Cmp, of numbers that are not right. -/
theorem dcmp_bad {c e d f : Int} (h : ¬ (wrongD c e = 0 ∧ wrongD d f = 0)) : ∃ w : Int, w ≠ 0 ∧ PC Tryz.prog 21 [.g (.agg [.int .i64 c, .int .i64 e]), .g (.agg [.int .i64 d, .int .i64 f])] ⟨[], [], []⟩ (.tuple [.g (.int .i64 0), .g (.int .i64 w)]) ⟨[], [], []⟩ := by
  have hr := right_pc (c := c) (e := e) (d := d) (f := f)
  have hw : (if wrongD c e = 0 then wrongD d f else wrongD c e) ≠ 0 := by
    split
    · rename_i h1; exact fun h2 => h ⟨h1, h2⟩
    · assumption
  generalize (if wrongD c e = 0 then wrongD d f else wrongD c e) = w at hr hw
  refine ⟨w, hw, ?_⟩
  refine PC_of_PW Tryz.func21 rfl rfl (rs := _) rfl (Nat.le_of_ble_eq_true (by kernel_rfl)) ?_
  (repeat' (first | (first | ((first | refine qA ?_ | refine qB ?_ | refine xN ?_ | refine xE ?_ | refine xT ?_); try show PW _ _ _ _ _ _) | refine ro1 tabOk rfl rfl ?_ | refine ro2 tabOk rfl rfl ?_ | refine ro3 tabOk rfl rfl ?_ | refine rd1 tabOk rfl rfl ?_ | refine rd2 tabOk rfl rfl ?_ | refine rd3 tabOk rfl rfl ?_ | ((first | apply oR rfl rfl | (apply dF rfl rfl rfl; intro _) | (apply dP rfl rfl rfl; intro _) | (apply dL rfl rfl rfl; intro _) | apply dC rfl rfl rfl rfl); (focus (first | exact cqP hr | exact cJ | exact mG | exact bT | exact nD)); try exact kQ) | refine xU [4] rfl ?_ | refine xR ?_ | refine qxa rfl rfl mixed ?_ | refine qxb rfl rfl mixed ?_ | refine qxi rfl rfl rfl rfl rfl mixed ?_ | refine qxc rfl rfl mixed ?_ | refine qxd rfl rfl mixed ?_ | refine xB ?_ | refine xt rfl ?_ | refine xf rfl ?_) | (refine POps_split rfl rfl (fun h => ?_) (fun h => ?_) <;> fail_if_success (first | (have : true = true := h) | (have : false = false := h))) | (refine POpsD_split rfl rfl (fun h => ?_) (fun h => ?_) <;> fail_if_success (first | (have : true = true := h) | (have : false = false := h))) | refine PW_cond rfl (fun h => ?_) (fun h => ?_)))
  all_goals (first | (exfalso; first | (simp_all; done) | (simp_all; omega)) | ((first | refine Ret2 (vC vT (vC vT vN)) rfl ?_ ?_ | refine Ret2 (vC (vA (AG rfl) (SZ rfl) rfl rfl (lB rfl)) (vC vT vN)) rfl ?_ ?_ | refine Ret2 (vC vT (vC (vA (AG rfl) (SZ rfl) rfl rfl (lB rfl)) vN)) rfl ?_ ?_) <;> rfl))
end Go.Proofs.YtdicineiaifahaaGreatDoor


namespace Go.Proofs.YtdicineiaifahaaGreatDoor
open Go Go.Pure
attribute [local irreducible] PW POps POpsD PO PC Cond

set_option maxRecDepth 100000 in
set_option maxHeartbeats 8000000 in
theorem equal_pc : ∀ (a b : VVal), gsz a.g → gsz b.g → PC Tryz.prog 8 [.g a.g, .g b.g] ⟨[], [], []⟩ (.g (VVal.mk (tk (eqV a b)) (ty (eqV a b)) 0 0 ⟨#[]⟩ []).g) ⟨[], [], []⟩
  | .mk k y c e t l, .mk k' y' c' e' t' l', ha, hb => by
    obtain ⟨hla, hma⟩ := VVal.gsz_list ha
    obtain ⟨hlb, hmb⟩ := VVal.gsz_list hb
    have ih : ∀ x ∈ l, ∀ z ∈ l', PC Tryz.prog 8 [.g x.g, .g z.g] ⟨[], [], []⟩ (.g (VVal.mk (tk (eqV x z)) (ty (eqV x z)) 0 0 ⟨#[]⟩ []).g) ⟨[], [], []⟩ := fun x hx z hz => equal_pc x z (hma x hx) (hmb z hz)
    have g1 : (VVal.gs l).length = l.length := by simp [VVal.gs_eq]
    have g2 : (VVal.gs l').length = l'.length := by simp [VVal.gs_eq]
    have n0 := null_pc
    have bF := bool_pc false
    have bT := bool_pc true
    have b2 := bool_pc (y == y')
    have b3 : ∀ r : Bool, PC Tryz.prog 23 [.g (.bool r)] ⟨[], [], []⟩ (.g (VVal.mk 2 r 0 0 ⟨#[]⟩ []).g) ⟨[], [], []⟩ := bool_pc
    rw [eqV_eq]
    by_cases hk : k = k'
    · subst hk
      rw [if_pos rfl]
      by_cases k2 : k = 2
      · subst k2
        rw [if_pos rfl, ← toldV_eq, told_tB]
        refine PC_of_PW Tryz.func8 rfl rfl (rs := _) rfl (Nat.le_of_ble_eq_true (by kernel_rfl)) ?_
        (repeat (first | ((first | refine qA ?_ | refine qB ?_ | refine xN ?_ | refine xE ?_ | refine xT ?_); try show PW _ _ _ _ _ _) | refine ro1 tabOk rfl rfl ?_ | refine ro2 tabOk rfl rfl ?_ | refine ro3 tabOk rfl rfl ?_ | refine rd1 tabOk rfl rfl ?_ | refine rd2 tabOk rfl rfl ?_ | refine rd3 tabOk rfl rfl ?_ | ((first | apply oR rfl rfl | (apply dF rfl rfl rfl; intro _) | (apply dP rfl rfl rfl; intro _) | (apply dL rfl rfl rfl; intro _) | apply dC rfl rfl rfl rfl); (focus (first | exact cqP b2 | exact cJ | exact mG | exact bT | exact nD)); try exact kQ) | refine xS ?_ | refine xR ?_ | refine qxa rfl rfl mixed ?_ | refine qxb rfl rfl mixed ?_ | refine qxi rfl rfl rfl rfl rfl mixed ?_ | refine qxc rfl rfl mixed ?_ | refine qxd rfl rfl mixed ?_ | refine xB ?_ | refine xt rfl ?_ | refine xf rfl ?_))
        (first | refine Ret_int (vC vT vN) rfl ?_ | refine Ret_bool (vC vT vN) rfl ?_ | refine Ret_g (vC vT vN) rfl ?_ | refine Ret_int (vC (vA (AG rfl) (SZ rfl) rfl rfl (lB rfl)) vN) rfl ?_ | refine Ret_bool (vC (vA (AG rfl) (SZ rfl) rfl rfl (lB rfl)) vN) rfl ?_ | refine Ret_g (vC (vA (AG rfl) (SZ rfl) rfl rfl (lB rfl)) vN) rfl ?_)
        rfl
      · rw [if_neg k2]
        by_cases k3 : k = 3
        · subst k3
          rw [if_pos rfl, ← toldV_eq, told_tB]
          refine PC_of_PW Tryz.func8 rfl rfl (rs := _) rfl (Nat.le_of_ble_eq_true (by kernel_rfl)) ?_
          (repeat' (first | (first | ((first | refine qA ?_ | refine qB ?_ | refine xN ?_ | refine xE ?_ | refine xT ?_); try show PW _ _ _ _ _ _) | refine ro1 tabOk rfl rfl ?_ | refine ro2 tabOk rfl rfl ?_ | refine ro3 tabOk rfl rfl ?_ | refine rd1 tabOk rfl rfl ?_ | refine rd2 tabOk rfl rfl ?_ | refine rd3 tabOk rfl rfl ?_ | ((first | apply oR rfl rfl | (apply dF rfl rfl rfl; intro _) | (apply dP rfl rfl rfl; intro _) | (apply dL rfl rfl rfl; intro _) | apply dC rfl rfl rfl rfl); (focus (first | exact cqP (b3 _) | exact cJ | exact mG | exact bT | exact nD)); try exact kQ) | refine xS ?_ | refine xR ?_ | refine qxa rfl rfl mixed ?_ | refine qxb rfl rfl mixed ?_ | refine qxi rfl rfl rfl rfl rfl mixed ?_ | refine qxc rfl rfl mixed ?_ | refine qxd rfl rfl mixed ?_ | refine xB ?_ | refine xt rfl ?_ | refine xf rfl ?_) | (refine POps_split rfl rfl (fun h => ?_) (fun h => ?_) <;> fail_if_success (first | (have : true = true := h) | (have : false = false := h))) | (refine POpsD_split rfl rfl (fun h => ?_) (fun h => ?_) <;> fail_if_success (first | (have : true = true := h) | (have : false = false := h))) | refine PW_cond rfl (fun h => ?_) (fun h => ?_)))
          all_goals ((first | refine Ret_int (vC vT vN) rfl ?_ | refine Ret_bool (vC vT vN) rfl ?_ | refine Ret_g (vC vT vN) rfl ?_ | refine Ret_int (vC (vA (AG rfl) (SZ rfl) rfl rfl (lB rfl)) vN) rfl ?_ | refine Ret_bool (vC (vA (AG rfl) (SZ rfl) rfl rfl (lB rfl)) vN) rfl ?_ | refine Ret_g (vC (vA (AG rfl) (SZ rfl) rfl rfl (lB rfl)) vN) rfl ?_); refine congrArg (fun r => (VVal.mk 2 r 0 0 ⟨#[]⟩ []).g) ?_; rw [Bool.eq_iff_iff]; simp)
        · rw [if_neg k3]
          by_cases k4 : k = 4
          · subst k4
            rw [if_pos rfl, ← toldV_eq, told_tB]
            refine PC_of_PW Tryz.func8 rfl rfl (rs := _) rfl (Nat.le_of_ble_eq_true (by kernel_rfl)) ?_
            (repeat (first | ((first | refine qA ?_ | refine qB ?_ | refine xN ?_ | refine xE ?_ | refine xT ?_); try show PW _ _ _ _ _ _) | refine ro1 tabOk rfl rfl ?_ | refine ro2 tabOk rfl rfl ?_ | refine ro3 tabOk rfl rfl ?_ | refine rd1 tabOk rfl rfl ?_ | refine rd2 tabOk rfl rfl ?_ | refine rd3 tabOk rfl rfl ?_ | ((first | apply oR rfl rfl | (apply dF rfl rfl rfl; intro _) | (apply dP rfl rfl rfl; intro _) | (apply dL rfl rfl rfl; intro _) | apply dC rfl rfl rfl rfl); (focus (first | exact cqP (b3 _) | exact cJ | exact mG | exact bT | exact nD)); try exact kQ) | refine xS ?_ | refine xR ?_ | refine qxa rfl rfl mixed ?_ | refine qxb rfl rfl mixed ?_ | refine qxi rfl rfl rfl rfl rfl mixed ?_ | refine qxc rfl rfl mixed ?_ | refine qxd rfl rfl mixed ?_ | refine xB ?_ | refine xt rfl ?_ | refine xf rfl ?_))
            (first | refine Ret_int (vC vT vN) rfl ?_ | refine Ret_bool (vC vT vN) rfl ?_ | refine Ret_g (vC vT vN) rfl ?_ | refine Ret_int (vC (vA (AG rfl) (SZ rfl) rfl rfl (lB rfl)) vN) rfl ?_ | refine Ret_bool (vC (vA (AG rfl) (SZ rfl) rfl rfl (lB rfl)) vN) rfl ?_ | refine Ret_g (vC (vA (AG rfl) (SZ rfl) rfl rfl (lB rfl)) vN) rfl ?_)
            rfl
          · rw [if_neg k4]
            by_cases k5 : k = 5
            · subst k5
              rw [if_pos rfl]
              by_cases hl : l.length = l'.length
              · rw [if_pos hl]
                refine PC_of_PW Tryz.func8 rfl rfl (rs := _) rfl (Nat.le_of_ble_eq_true (by kernel_rfl)) ?_
                (repeat' (first | (first | ((first | refine qA ?_ | refine qB ?_ | refine xN ?_ | refine xE ?_ | refine xT ?_); try show PW _ _ _ _ _ _) | refine ro1 tabOk rfl rfl ?_ | refine ro2 tabOk rfl rfl ?_ | refine ro3 tabOk rfl rfl ?_ | refine rd1 tabOk rfl rfl ?_ | refine rd2 tabOk rfl rfl ?_ | refine rd3 tabOk rfl rfl ?_ | ((first | apply oR rfl rfl | (apply dF rfl rfl rfl; intro _) | (apply dP rfl rfl rfl; intro _) | (apply dL rfl rfl rfl; intro _) | apply dC rfl rfl rfl rfl); (focus (first | exact cqP bT | exact cJ | exact mG | exact bT | exact nD)); try exact kQ) | refine xU [15] rfl ?_ | refine xR ?_ | refine qxa rfl rfl mixed ?_ | refine qxb rfl rfl mixed ?_ | refine qxi rfl rfl rfl rfl rfl mixed ?_ | refine qxc rfl rfl mixed ?_ | refine qxd rfl rfl mixed ?_ | refine xB ?_ | refine xt rfl ?_ | refine xf rfl ?_) | (refine POps_split rfl rfl (fun h => ?_) (fun h => ?_) <;> fail_if_success (first | (have : true = true := h) | (have : false = false := h))) | (refine POpsD_split rfl rfl (fun h => ?_) (fun h => ?_) <;> fail_if_success (first | (have : true = true := h) | (have : false = false := h))) | refine PW_cond rfl (fun h => ?_) (fun h => ?_)))
                all_goals (first | (exfalso; simp_all; done) | skip)
                (repeat (first | ((first | refine qA ?_ | refine qB ?_ | refine xN ?_ | refine xE ?_ | refine xT ?_); try show PW _ _ _ _ _ _) | refine ro1 tabOk rfl rfl ?_ | refine ro2 tabOk rfl rfl ?_ | refine ro3 tabOk rfl rfl ?_ | refine rd1 tabOk rfl rfl ?_ | refine rd2 tabOk rfl rfl ?_ | refine rd3 tabOk rfl rfl ?_ | ((first | apply oR rfl rfl | (apply dF rfl rfl rfl; intro _) | (apply dP rfl rfl rfl; intro _) | (apply dL rfl rfl rfl; intro _) | apply dC rfl rfl rfl rfl); (focus (first | exact cqP bT | exact cJ | exact mG | exact bT | exact nD)); try exact kQ) | refine xS ?_ | refine xR ?_ | refine qxa rfl rfl mixed ?_ | refine qxb rfl rfl mixed ?_ | refine qxi rfl rfl rfl rfl rfl mixed ?_ | refine qxc rfl rfl mixed ?_ | refine qxd rfl rfl mixed ?_ | refine xB ?_ | refine xt rfl ?_ | refine xf rfl ?_))
                refine PW_loop (S := Nat × Int) (fun s => slots [(2, .ptr 0 0), (3, .ptr 1 0), (4, .ptr 2 0), (5, .ptr 3 0), (61, .g (.int .i64 l.length)), (62, .g (.int .i64 s.1))])
                  (fun s => ⟨[[.g (.int .i64 5), .g (.bool y), .g (.int .i64 c), .g (.int .i64 e), .g (.str t), .g (.sl (VVal.gs l))], [.g (.int .i64 5), .g (.bool y'), .g (.int .i64 c'), .g (.int .i64 e'), .g (.str t'), .g (.sl (VVal.gs l'))],
                    [.g (.int .i64 0), .g (.bool false), .g (.int .i64 0), .g (.int .i64 0), .g (.str ⟨#[]⟩), .nils], [.g (.int .i64 (tk s.2)), .g (.bool (ty s.2)), .g (.int .i64 0), .g (.int .i64 0), .g (.str ⟨#[]⟩), .g (.sl [])]], [], []⟩)
                  (fun s => s.1 ≤ l.length ∧ rng s.2 ∧ eqVs (l.drop s.1) (l'.drop s.1) s.2 = eqVs l l' 1) (fun s => l.length - s.1) (0, 1) ⟨Nat.zero_le _, by simp [rng], rfl⟩
                  (SlotsOk.le ⟨.inl rfl, .inl rfl, .inl rfl, .inl rfl, .inl (congrArg (fun k : Nat => PV.g (.int .i64 k)) g1), .inl rfl, trivial⟩) (HLe.of_eq rfl) (fun s hs => ?_)
                obtain ⟨i, acc⟩ := s
                obtain ⟨hi, hr, hgo⟩ := hs
                dsimp only at hi hr hgo
                clear h
                (repeat (first | ((first | refine qA ?_ | refine qB ?_ | refine xN ?_ | refine xE ?_ | refine xT ?_); try show PW _ _ _ _ _ _) | refine ro1 tabOk rfl rfl ?_ | refine ro2 tabOk rfl rfl ?_ | refine ro3 tabOk rfl rfl ?_ | refine rd1 tabOk rfl rfl ?_ | refine rd2 tabOk rfl rfl ?_ | refine rd3 tabOk rfl rfl ?_ | ((first | apply oR rfl rfl | (apply dF rfl rfl rfl; intro _) | (apply dP rfl rfl rfl; intro _) | (apply dL rfl rfl rfl; intro _) | apply dC rfl rfl rfl rfl); (focus (first | exact cJ | exact mG | exact bT | exact nD)); try exact kQ) | refine xS ?_ | refine xR ?_ | refine qxa rfl rfl mixed ?_ | refine qxb rfl rfl mixed ?_ | refine qxi rfl rfl rfl rfl rfl mixed ?_ | refine qxc rfl rfl mixed ?_ | refine qxd rfl rfl mixed ?_ | refine xB ?_ | refine xt rfl ?_ | refine xf rfl ?_))
                (first | refine POps_split rfl rfl (fun h => ?_) (fun h => ?_) | refine POpsD_split rfl rfl (fun h => ?_) (fun h => ?_) | refine PW_cond rfl (fun h => ?_) (fun h => ?_))
                · have hlt : i < l.length := by have := of_decide_eq_true h; omega
                  have hlt' : i < l'.length := by omega
                  have hg : (VVal.gs l)[((i : Int)).toNat]? = some l[i].g := by rw [VVal.gs_eq]; exact map_get hlt
                  have hg' : (VVal.gs l')[((i : Int)).toNat]? = some l'[i].g := by rw [VVal.gs_eq]; exact map_get hlt'
                  have ih := ih l[i] (List.getElem_mem hlt) l'[i] (List.getElem_mem hlt')
                  have hre := eqV_rng l[i] l'[i]
                  rw [List.drop_eq_getElem_cons hlt, List.drop_eq_getElem_cons hlt', eqVs] at hgo
                  generalize l[i] = x at hg ih hgo hre
                  generalize l'[i] = z at hg' ih hgo hre
                  generalize eqV x z = r at ih hgo hre
                  have hA := and_pc (.mk (tk acc) (ty acc) 0 0 ⟨#[]⟩ []) (.mk (tk r) (ty r) 0 0 ⟨#[]⟩ [])
                  rw [truth_told hr, truth_told hre] at hA
                  obtain ⟨x0, x1, x2, x3, x4, x5⟩ := x
                  obtain ⟨z0, z1, z2, z3, z4, z5⟩ := z
                  clear h
                  (repeat (first | ((first | refine qA ?_ | refine qB ?_ | refine xN ?_ | refine xE ?_ | refine xT ?_); try show PW _ _ _ _ _ _) | refine ro1 tabOk rfl rfl ?_ | refine ro2 tabOk rfl rfl ?_ | refine ro3 tabOk rfl rfl ?_ | refine rd1 tabOk rfl rfl ?_ | refine rd2 tabOk rfl rfl ?_ | refine rd3 tabOk rfl rfl ?_ | ((first | apply oR rfl rfl | (apply dF rfl rfl rfl; intro _) | (apply dP rfl rfl rfl; intro _) | (apply dL rfl rfl rfl; intro _) | apply dC rfl rfl rfl rfl); (focus (first | exact cqP ih | exact cqP hA | exact iA rfl (EL rfl) (SZ rfl) rfl rfl (Int.natCast_nonneg _) hg rfl | exact iA rfl (EL rfl) (SZ rfl) rfl rfl (Int.natCast_nonneg _) hg' rfl | exact cJ | exact mG | exact bT | exact nD)); try exact kQ) | refine xS ?_ | refine xR ?_ | refine qxa rfl rfl mixed ?_ | refine qxb rfl rfl mixed ?_ | refine qxi rfl rfl rfl rfl rfl mixed ?_ | refine qxc rfl rfl mixed ?_ | refine qxd rfl rfl mixed ?_ | refine xB ?_ | refine xt rfl ?_ | refine xf rfl ?_))
                  exact ⟨(i + 1, min acc r), ⟨hlt, rng_min hr hre, hgo⟩, by dsimp only; omega, SlotsOk.le ⟨.inl rfl, .inl rfl, .inl rfl, .inl rfl, .inl rfl, .inl (congrArg (fun k => PV.g (.int .i64 k)) (wrap64 (by simp only [maxLen] at hla; omega))), trivial⟩, HLe.of_eq rfl⟩
                · have hi' : i = l.length := by have := of_decide_eq_false h; omega
                  subst hi'
                  rw [List.drop_length, hl, List.drop_length, eqVs] at hgo
                  subst hgo
                  (repeat (first | ((first | refine qA ?_ | refine qB ?_ | refine xN ?_ | refine xE ?_ | refine xT ?_); try show PW _ _ _ _ _ _) | refine ro1 tabOk rfl rfl ?_ | refine ro2 tabOk rfl rfl ?_ | refine ro3 tabOk rfl rfl ?_ | refine rd1 tabOk rfl rfl ?_ | refine rd2 tabOk rfl rfl ?_ | refine rd3 tabOk rfl rfl ?_ | ((first | apply oR rfl rfl | (apply dF rfl rfl rfl; intro _) | (apply dP rfl rfl rfl; intro _) | (apply dL rfl rfl rfl; intro _) | apply dC rfl rfl rfl rfl); (focus (first | exact cJ | exact mG | exact bT | exact nD)); try exact kQ) | refine xS ?_ | refine xR ?_ | refine qxa rfl rfl mixed ?_ | refine qxb rfl rfl mixed ?_ | refine qxi rfl rfl rfl rfl rfl mixed ?_ | refine qxc rfl rfl mixed ?_ | refine qxd rfl rfl mixed ?_ | refine xB ?_ | refine xt rfl ?_ | refine xf rfl ?_))
                  (first | refine Ret_int (vC vT vN) rfl ?_ | refine Ret_bool (vC vT vN) rfl ?_ | refine Ret_g (vC vT vN) rfl ?_ | refine Ret_int (vC (vA (AG rfl) (SZ rfl) rfl rfl (lB rfl)) vN) rfl ?_ | refine Ret_bool (vC (vA (AG rfl) (SZ rfl) rfl rfl (lB rfl)) vN) rfl ?_ | refine Ret_g (vC (vA (AG rfl) (SZ rfl) rfl rfl (lB rfl)) vN) rfl ?_)
                  rfl
                  all_goals simp
              · rw [if_neg hl, ← toldV_eq, show toldV (-1) = .mk 2 false 0 0 ⟨#[]⟩ [] from rfl]
                refine PC_of_PW Tryz.func8 rfl rfl (rs := _) rfl (Nat.le_of_ble_eq_true (by kernel_rfl)) ?_
                (repeat' (first | (first | ((first | refine qA ?_ | refine qB ?_ | refine xN ?_ | refine xE ?_ | refine xT ?_); try show PW _ _ _ _ _ _) | refine ro1 tabOk rfl rfl ?_ | refine ro2 tabOk rfl rfl ?_ | refine ro3 tabOk rfl rfl ?_ | refine rd1 tabOk rfl rfl ?_ | refine rd2 tabOk rfl rfl ?_ | refine rd3 tabOk rfl rfl ?_ | ((first | apply oR rfl rfl | (apply dF rfl rfl rfl; intro _) | (apply dP rfl rfl rfl; intro _) | (apply dL rfl rfl rfl; intro _) | apply dC rfl rfl rfl rfl); (focus (first | exact cqP bF | exact cJ | exact mG | exact bT | exact nD)); try exact kQ) | refine xU [15] rfl ?_ | refine xR ?_ | refine qxa rfl rfl mixed ?_ | refine qxb rfl rfl mixed ?_ | refine qxi rfl rfl rfl rfl rfl mixed ?_ | refine qxc rfl rfl mixed ?_ | refine qxd rfl rfl mixed ?_ | refine xB ?_ | refine xt rfl ?_ | refine xf rfl ?_) | (refine POps_split rfl rfl (fun h => ?_) (fun h => ?_) <;> fail_if_success (first | (have : true = true := h) | (have : false = false := h))) | (refine POpsD_split rfl rfl (fun h => ?_) (fun h => ?_) <;> fail_if_success (first | (have : true = true := h) | (have : false = false := h))) | refine PW_cond rfl (fun h => ?_) (fun h => ?_)))
                all_goals (first | (exfalso; simp_all; omega) | ((first | refine Ret_int (vC vT vN) rfl ?_ | refine Ret_bool (vC vT vN) rfl ?_ | refine Ret_g (vC vT vN) rfl ?_ | refine Ret_int (vC (vA (AG rfl) (SZ rfl) rfl rfl (lB rfl)) vN) rfl ?_ | refine Ret_bool (vC (vA (AG rfl) (SZ rfl) rfl rfl (lB rfl)) vN) rfl ?_ | refine Ret_g (vC (vA (AG rfl) (SZ rfl) rfl rfl (lB rfl)) vN) rfl ?_); rfl))
            · rw [if_neg k5, ← toldV_eq, show toldV 1 = .mk 2 true 0 0 ⟨#[]⟩ [] from rfl]
              refine PC_of_PW Tryz.func8 rfl rfl (rs := _) rfl (Nat.le_of_ble_eq_true (by kernel_rfl)) ?_
              (repeat' (first | (first | ((first | refine qA ?_ | refine qB ?_ | refine xN ?_ | refine xE ?_ | refine xT ?_); try show PW _ _ _ _ _ _) | refine ro1 tabOk rfl rfl ?_ | refine ro2 tabOk rfl rfl ?_ | refine ro3 tabOk rfl rfl ?_ | refine rd1 tabOk rfl rfl ?_ | refine rd2 tabOk rfl rfl ?_ | refine rd3 tabOk rfl rfl ?_ | ((first | apply oR rfl rfl | (apply dF rfl rfl rfl; intro _) | (apply dP rfl rfl rfl; intro _) | (apply dL rfl rfl rfl; intro _) | apply dC rfl rfl rfl rfl); (focus (first | exact cqP bT | exact cJ | exact mG | exact bT | exact nD)); try exact kQ) | refine xU [13] rfl ?_ | refine xR ?_ | refine qxa rfl rfl mixed ?_ | refine qxb rfl rfl mixed ?_ | refine qxi rfl rfl rfl rfl rfl mixed ?_ | refine qxc rfl rfl mixed ?_ | refine qxd rfl rfl mixed ?_ | refine xB ?_ | refine xt rfl ?_ | refine xf rfl ?_) | (refine POps_split rfl rfl (fun h => ?_) (fun h => ?_) <;> fail_if_success (first | (have : true = true := h) | (have : false = false := h))) | (refine POpsD_split rfl rfl (fun h => ?_) (fun h => ?_) <;> fail_if_success (first | (have : true = true := h) | (have : false = false := h))) | refine PW_cond rfl (fun h => ?_) (fun h => ?_)))
              all_goals (first | (exfalso; simp_all; done) | ((first | refine Ret_int (vC vT vN) rfl ?_ | refine Ret_bool (vC vT vN) rfl ?_ | refine Ret_g (vC vT vN) rfl ?_ | refine Ret_int (vC (vA (AG rfl) (SZ rfl) rfl rfl (lB rfl)) vN) rfl ?_ | refine Ret_bool (vC (vA (AG rfl) (SZ rfl) rfl rfl (lB rfl)) vN) rfl ?_ | refine Ret_g (vC (vA (AG rfl) (SZ rfl) rfl rfl (lB rfl)) vN) rfl ?_); rfl))
    · rw [if_neg hk]
      by_cases k1 : k = 1 ∨ k' = 1
      · rw [if_pos k1, ← toldV_eq, show toldV (-1) = .mk 2 false 0 0 ⟨#[]⟩ [] from rfl]
        refine PC_of_PW Tryz.func8 rfl rfl (rs := _) rfl (Nat.le_of_ble_eq_true (by kernel_rfl)) ?_
        (repeat' (first | (first | ((first | refine qA ?_ | refine qB ?_ | refine xN ?_ | refine xE ?_ | refine xT ?_); try show PW _ _ _ _ _ _) | refine ro1 tabOk rfl rfl ?_ | refine ro2 tabOk rfl rfl ?_ | refine ro3 tabOk rfl rfl ?_ | refine rd1 tabOk rfl rfl ?_ | refine rd2 tabOk rfl rfl ?_ | refine rd3 tabOk rfl rfl ?_ | ((first | apply oR rfl rfl | (apply dF rfl rfl rfl; intro _) | (apply dP rfl rfl rfl; intro _) | (apply dL rfl rfl rfl; intro _) | apply dC rfl rfl rfl rfl); (focus (first | exact cqP bF | exact cJ | exact mG | exact bT | exact nD)); try exact kQ) | refine xU [4] rfl ?_ | refine xR ?_ | refine qxa rfl rfl mixed ?_ | refine qxb rfl rfl mixed ?_ | refine qxi rfl rfl rfl rfl rfl mixed ?_ | refine qxc rfl rfl mixed ?_ | refine qxd rfl rfl mixed ?_ | refine xB ?_ | refine xt rfl ?_ | refine xf rfl ?_) | (refine POps_split rfl rfl (fun h => ?_) (fun h => ?_) <;> fail_if_success (first | (have : true = true := h) | (have : false = false := h))) | (refine POpsD_split rfl rfl (fun h => ?_) (fun h => ?_) <;> fail_if_success (first | (have : true = true := h) | (have : false = false := h))) | refine PW_cond rfl (fun h => ?_) (fun h => ?_)))
        all_goals (first | (exfalso; simp_all; done) | ((first | refine Ret_int (vC vT vN) rfl ?_ | refine Ret_bool (vC vT vN) rfl ?_ | refine Ret_g (vC vT vN) rfl ?_ | refine Ret_int (vC (vA (AG rfl) (SZ rfl) rfl rfl (lB rfl)) vN) rfl ?_ | refine Ret_bool (vC (vA (AG rfl) (SZ rfl) rfl rfl (lB rfl)) vN) rfl ?_ | refine Ret_g (vC (vA (AG rfl) (SZ rfl) rfl rfl (lB rfl)) vN) rfl ?_); rfl))
      · rw [if_neg k1, ← toldV_eq, show toldV 0 = .mk 1 false 0 0 ⟨#[]⟩ [] from rfl]
        refine PC_of_PW Tryz.func8 rfl rfl (rs := _) rfl (Nat.le_of_ble_eq_true (by kernel_rfl)) ?_
        (repeat' (first | (first | ((first | refine qA ?_ | refine qB ?_ | refine xN ?_ | refine xE ?_ | refine xT ?_); try show PW _ _ _ _ _ _) | refine ro1 tabOk rfl rfl ?_ | refine ro2 tabOk rfl rfl ?_ | refine ro3 tabOk rfl rfl ?_ | refine rd1 tabOk rfl rfl ?_ | refine rd2 tabOk rfl rfl ?_ | refine rd3 tabOk rfl rfl ?_ | ((first | apply oR rfl rfl | (apply dF rfl rfl rfl; intro _) | (apply dP rfl rfl rfl; intro _) | (apply dL rfl rfl rfl; intro _) | apply dC rfl rfl rfl rfl); (focus (first | exact cqP n0 | exact cJ | exact mG | exact bT | exact nD)); try exact kQ) | refine xU [5] rfl ?_ | refine xR ?_ | refine qxa rfl rfl mixed ?_ | refine qxb rfl rfl mixed ?_ | refine qxi rfl rfl rfl rfl rfl mixed ?_ | refine qxc rfl rfl mixed ?_ | refine qxd rfl rfl mixed ?_ | refine xB ?_ | refine xt rfl ?_ | refine xf rfl ?_) | (refine POps_split rfl rfl (fun h => ?_) (fun h => ?_) <;> fail_if_success (first | (have : true = true := h) | (have : false = false := h))) | (refine POpsD_split rfl rfl (fun h => ?_) (fun h => ?_) <;> fail_if_success (first | (have : true = true := h) | (have : false = false := h))) | refine PW_cond rfl (fun h => ?_) (fun h => ?_)))
        all_goals (first | (exfalso; simp_all; done) | ((first | refine Ret_int (vC vT vN) rfl ?_ | refine Ret_bool (vC vT vN) rfl ?_ | refine Ret_g (vC vT vN) rfl ?_ | refine Ret_int (vC (vA (AG rfl) (SZ rfl) rfl rfl (lB rfl)) vN) rfl ?_ | refine Ret_bool (vC (vA (AG rfl) (SZ rfl) rfl rfl (lB rfl)) vN) rfl ?_ | refine Ret_g (vC (vA (AG rfl) (SZ rfl) rfl rfl (lB rfl)) vN) rfl ?_); rfl))
end Go.Proofs.YtdicineiaifahaaGreatDoor


namespace Go.Proofs.YtdicineiaifahaaGreatDoor
open Go Go.Pure
attribute [local irreducible] PW POps POpsD PO PC Cond

theorem EN17 : enterB Tryz.prog 30 = true := by kernel_rfl

set_option maxRecDepth 100000 in
set_option maxHeartbeats 8000000 in
theorem look_pat {V : ByteArray → Bool} (hV : ∀ s : ByteArray, s.size ≤ maxLen → PC Tryz.prog 30 [.g (.str s)] ⟨[], [], []⟩ (.g (.bool (V s))) ⟨[], [], []⟩) :
    ∀ (v : VVal) (n d : Nat), gsz v.g → n ≤ 2000 → d ≤ 21 → PC Tryz.prog 20 [.ptr 0 0, .pat v.g.cells, .g (.int .i64 d)] ⟨[[.g (.int .i64 n)]], [], []⟩ (.g (.int .i64 (lookV V v n d).2)) ⟨[[.g (.int .i64 ((lookV V v n d).1 : Nat))]], [], []⟩
  | .mk k y c e t l, n, d, hz, hn, hd => by
    obtain ⟨hla, hma⟩ := VVal.gsz_list hz
    have hts : t.size ≤ maxLen := by simp only [VVal.g, gsz, gszs] at hz; exact hz.2.2.2.2.1
    have g1 : (VVal.gs l).length = l.length := by simp [VVal.gs_eq]
    have hw : IntKind.i64.wrap ((n : Int) + 1) = ((n + 1 : Nat) : Int) := by rw [wrap64 (by omega)]; omega
    have hD := dec_pc c e
    have hT := hV t hts
    rw [lookV_eq]
    by_cases h1 : 2000 < n + 1 ∨ 20 < d
    · rw [if_pos h1]
      refine PC_of_PW Tryz.func20 rfl rfl (rs := _) rfl (Nat.le_of_ble_eq_true (by kernel_rfl)) ?_
      (repeat' (first | (first | ((first | refine qA ?_ | refine qB ?_ | refine xN ?_ | refine xE ?_ | refine xT ?_); try show PW _ _ _ _ _ _) | refine ro1 tabOk rfl rfl ?_ | refine ro2 tabOk rfl rfl ?_ | refine ro3 tabOk rfl rfl ?_ | refine rd1 tabOk rfl rfl ?_ | refine rd2 tabOk rfl rfl ?_ | refine rd3 tabOk rfl rfl ?_ | ((first | apply oR rfl rfl | (apply dF rfl rfl rfl; intro _) | (apply dP rfl rfl rfl; intro _) | (apply dL rfl rfl rfl; intro _) | apply dC rfl rfl rfl rfl); (focus (first | exact cJ | exact mG | exact bT | exact nD)); try exact kQ) | refine xU [4] rfl ?_ | refine xR ?_ | refine qxa rfl rfl mixed ?_ | refine qxb rfl rfl mixed ?_ | refine qxi rfl rfl rfl rfl rfl mixed ?_ | refine qxc rfl rfl mixed ?_ | refine qxd rfl rfl mixed ?_ | refine xB ?_ | refine xt rfl ?_ | refine xf rfl ?_) | (refine POps_split rfl rfl (fun h => ?_) (fun h => ?_) <;> fail_if_success (first | (have : true = true := h) | (have : false = false := h))) | (refine POpsD_split rfl rfl (fun h => ?_) (fun h => ?_) <;> fail_if_success (first | (have : true = true := h) | (have : false = false := h))) | refine PW_cond rfl (fun h => ?_) (fun h => ?_)))
      all_goals (first | (exfalso; first | (simp_all; done) | (simp_all; omega)) | ((first | refine Ret_box wN rfl rfl rfl rfl rfl rfl rfl rfl rfl ?_ ?_ ?_ rfl | refine Ret_box (wC vT wN) rfl rfl rfl rfl rfl rfl rfl rfl rfl ?_ ?_ ?_ rfl | refine Ret_box (wC (vA (AG rfl) (SZ rfl) rfl rfl (lB rfl)) wN) rfl rfl rfl rfl rfl rfl rfl rfl rfl ?_ ?_ ?_ rfl | refine Ret_box (wC vT (wC vT wN)) rfl rfl rfl rfl rfl rfl rfl rfl rfl ?_ ?_ ?_ rfl | refine Ret_box (wC (vA (AG rfl) (SZ rfl) rfl rfl (lB rfl)) (wC vT wN)) rfl rfl rfl rfl rfl rfl rfl rfl rfl ?_ ?_ ?_ rfl); all_goals first | rfl | exact congrArg (fun z => [[PV.g (.int .i64 z)]]) hw))
    · rw [if_neg h1]
      by_cases h2 : k = 1 ∨ k = 2
      · rw [if_pos h2]
        refine PC_of_PW Tryz.func20 rfl rfl (rs := _) rfl (Nat.le_of_ble_eq_true (by kernel_rfl)) ?_
        (repeat' (first | (first | ((first | refine qA ?_ | refine qB ?_ | refine xN ?_ | refine xE ?_ | refine xT ?_); try show PW _ _ _ _ _ _) | refine ro1 tabOk rfl rfl ?_ | refine ro2 tabOk rfl rfl ?_ | refine ro3 tabOk rfl rfl ?_ | refine rd1 tabOk rfl rfl ?_ | refine rd2 tabOk rfl rfl ?_ | refine rd3 tabOk rfl rfl ?_ | ((first | apply oR rfl rfl | (apply dF rfl rfl rfl; intro _) | (apply dP rfl rfl rfl; intro _) | (apply dL rfl rfl rfl; intro _) | apply dC rfl rfl rfl rfl); (focus (first | exact cJ | exact mG | exact bT | exact nD)); try exact kQ) | refine xU [9] rfl ?_ | refine xR ?_ | refine qxa rfl rfl mixed ?_ | refine qxb rfl rfl mixed ?_ | refine qxi rfl rfl rfl rfl rfl mixed ?_ | refine qxc rfl rfl mixed ?_ | refine qxd rfl rfl mixed ?_ | refine xB ?_ | refine xt rfl ?_ | refine xf rfl ?_) | (refine POps_split rfl rfl (fun h => ?_) (fun h => ?_) <;> fail_if_success (first | (have : true = true := h) | (have : false = false := h))) | (refine POpsD_split rfl rfl (fun h => ?_) (fun h => ?_) <;> fail_if_success (first | (have : true = true := h) | (have : false = false := h))) | refine PW_cond rfl (fun h => ?_) (fun h => ?_)))
        all_goals (first | (exfalso; first | (simp_all; done) | (simp_all; omega)) | ((first | refine Ret_box wN rfl rfl rfl rfl rfl rfl rfl rfl rfl ?_ ?_ ?_ rfl | refine Ret_box (wC vT wN) rfl rfl rfl rfl rfl rfl rfl rfl rfl ?_ ?_ ?_ rfl | refine Ret_box (wC (vA (AG rfl) (SZ rfl) rfl rfl (lB rfl)) wN) rfl rfl rfl rfl rfl rfl rfl rfl rfl ?_ ?_ ?_ rfl | refine Ret_box (wC vT (wC vT wN)) rfl rfl rfl rfl rfl rfl rfl rfl rfl ?_ ?_ ?_ rfl | refine Ret_box (wC (vA (AG rfl) (SZ rfl) rfl rfl (lB rfl)) (wC vT wN)) rfl rfl rfl rfl rfl rfl rfl rfl rfl ?_ ?_ ?_ rfl); all_goals first | rfl | exact congrArg (fun z => [[PV.g (.int .i64 z)]]) hw))
      · rw [if_neg h2]
        by_cases h3 : k = 3
        · subst h3
          rw [if_pos rfl]
          refine PC_of_PW Tryz.func20 rfl rfl (rs := _) rfl (Nat.le_of_ble_eq_true (by kernel_rfl)) ?_
          (repeat' (first | (first | ((first | refine qA ?_ | refine qB ?_ | refine xN ?_ | refine xE ?_ | refine xT ?_); try show PW _ _ _ _ _ _) | refine ro1 tabOk rfl rfl ?_ | refine ro2 tabOk rfl rfl ?_ | refine ro3 tabOk rfl rfl ?_ | refine rd1 tabOk rfl rfl ?_ | refine rd2 tabOk rfl rfl ?_ | refine rd3 tabOk rfl rfl ?_ | ((first | apply oR rfl rfl | (apply dF rfl rfl rfl; intro _) | (apply dP rfl rfl rfl; intro _) | (apply dL rfl rfl rfl; intro _) | apply dC rfl rfl rfl rfl); (focus (first | exact cqP hD | exact cJ | exact mG | exact bT | exact nD)); try exact kQ) | refine xU [11] rfl ?_ | refine xR ?_ | refine qxa rfl rfl mixed ?_ | refine qxb rfl rfl mixed ?_ | refine qxi rfl rfl rfl rfl rfl mixed ?_ | refine qxc rfl rfl mixed ?_ | refine qxd rfl rfl mixed ?_ | refine xB ?_ | refine xt rfl ?_ | refine xf rfl ?_) | (refine POps_split rfl rfl (fun h => ?_) (fun h => ?_) <;> fail_if_success (first | (have : true = true := h) | (have : false = false := h))) | (refine POpsD_split rfl rfl (fun h => ?_) (fun h => ?_) <;> fail_if_success (first | (have : true = true := h) | (have : false = false := h))) | refine PW_cond rfl (fun h => ?_) (fun h => ?_)))
          all_goals (first | (exfalso; first | (simp_all; done) | (simp_all; omega)) | ((first | refine Ret_box wN rfl rfl rfl rfl rfl rfl rfl rfl rfl ?_ ?_ ?_ rfl | refine Ret_box (wC vT wN) rfl rfl rfl rfl rfl rfl rfl rfl rfl ?_ ?_ ?_ rfl | refine Ret_box (wC (vA (AG rfl) (SZ rfl) rfl rfl (lB rfl)) wN) rfl rfl rfl rfl rfl rfl rfl rfl rfl ?_ ?_ ?_ rfl | refine Ret_box (wC vT (wC vT wN)) rfl rfl rfl rfl rfl rfl rfl rfl rfl ?_ ?_ ?_ rfl | refine Ret_box (wC (vA (AG rfl) (SZ rfl) rfl rfl (lB rfl)) (wC vT wN)) rfl rfl rfl rfl rfl rfl rfl rfl rfl ?_ ?_ ?_ rfl); all_goals first | rfl | exact congrArg (fun z => [[PV.g (.int .i64 z)]]) hw))
        · rw [if_neg h3]
          by_cases h4 : k = 4
          · subst h4
            rw [if_pos rfl]
            refine PC_of_PW Tryz.func20 rfl rfl (rs := _) rfl (Nat.le_of_ble_eq_true (by kernel_rfl)) ?_
            (repeat' (first | (first | ((first | refine qA ?_ | refine qB ?_ | refine xN ?_ | refine xE ?_ | refine xT ?_); try show PW _ _ _ _ _ _) | refine ro1 tabOk rfl rfl ?_ | refine ro2 tabOk rfl rfl ?_ | refine ro3 tabOk rfl rfl ?_ | refine rd1 tabOk rfl rfl ?_ | refine rd2 tabOk rfl rfl ?_ | refine rd3 tabOk rfl rfl ?_ | ((first | apply oR rfl rfl | (apply dF rfl rfl rfl; intro _) | (apply dP rfl rfl rfl; intro _) | (apply dL rfl rfl rfl; intro _) | apply dC rfl rfl rfl rfl); (focus (first | exact cl rfl rfl EN17 hT rfl rfl rfl | exact cJ | exact mG | exact bT | exact nD)); try exact kQ) | refine xU [16] rfl ?_ | refine xR ?_ | refine qxa rfl rfl mixed ?_ | refine qxb rfl rfl mixed ?_ | refine qxi rfl rfl rfl rfl rfl mixed ?_ | refine qxc rfl rfl mixed ?_ | refine qxd rfl rfl mixed ?_ | refine xB ?_ | refine xt rfl ?_ | refine xf rfl ?_) | (refine POps_split rfl rfl (fun h => ?_) (fun h => ?_) <;> fail_if_success (first | (have : true = true := h) | (have : false = false := h))) | (refine POpsD_split rfl rfl (fun h => ?_) (fun h => ?_) <;> fail_if_success (first | (have : true = true := h) | (have : false = false := h))) | refine PW_cond rfl (fun h => ?_) (fun h => ?_)))
            all_goals (first | (exfalso; first | (simp_all; done) | (simp_all; omega)) | ((first | refine Ret_box wN rfl rfl rfl rfl rfl rfl rfl rfl rfl ?_ ?_ ?_ rfl | refine Ret_box (wC vT wN) rfl rfl rfl rfl rfl rfl rfl rfl rfl ?_ ?_ ?_ rfl | refine Ret_box (wC (vA (AG rfl) (SZ rfl) rfl rfl (lB rfl)) wN) rfl rfl rfl rfl rfl rfl rfl rfl rfl ?_ ?_ ?_ rfl | refine Ret_box (wC vT (wC vT wN)) rfl rfl rfl rfl rfl rfl rfl rfl rfl ?_ ?_ ?_ rfl | refine Ret_box (wC (vA (AG rfl) (SZ rfl) rfl rfl (lB rfl)) (wC vT wN)) rfl rfl rfl rfl rfl rfl rfl rfl rfl ?_ ?_ ?_ rfl); all_goals first | rfl | exact congrArg (fun z => [[PV.g (.int .i64 z)]]) hw | (simp_all; done) | (refine congrArg (fun z => PV.g (.int .i64 z)) ?_; simp_all; omega)))
          · rw [if_neg h4]
            by_cases h5 : k = 5
            · subst h5
              rw [if_pos rfl]
              by_cases h6 : 200 < l.length
              · rw [if_pos h6]
                refine PC_of_PW Tryz.func20 rfl rfl (rs := _) rfl (Nat.le_of_ble_eq_true (by kernel_rfl)) ?_
                (repeat' (first | (first | ((first | refine qA ?_ | refine qB ?_ | refine xN ?_ | refine xE ?_ | refine xT ?_); try show PW _ _ _ _ _ _) | refine ro1 tabOk rfl rfl ?_ | refine ro2 tabOk rfl rfl ?_ | refine ro3 tabOk rfl rfl ?_ | refine rd1 tabOk rfl rfl ?_ | refine rd2 tabOk rfl rfl ?_ | refine rd3 tabOk rfl rfl ?_ | ((first | apply oR rfl rfl | (apply dF rfl rfl rfl; intro _) | (apply dP rfl rfl rfl; intro _) | (apply dL rfl rfl rfl; intro _) | apply dC rfl rfl rfl rfl); (focus (first | exact cJ | exact mG | exact bT | exact nD)); try exact kQ) | refine xU [18] rfl ?_ | refine xR ?_ | refine qxa rfl rfl mixed ?_ | refine qxb rfl rfl mixed ?_ | refine qxi rfl rfl rfl rfl rfl mixed ?_ | refine qxc rfl rfl mixed ?_ | refine qxd rfl rfl mixed ?_ | refine xB ?_ | refine xt rfl ?_ | refine xf rfl ?_) | (refine POps_split rfl rfl (fun h => ?_) (fun h => ?_) <;> fail_if_success (first | (have : true = true := h) | (have : false = false := h))) | (refine POpsD_split rfl rfl (fun h => ?_) (fun h => ?_) <;> fail_if_success (first | (have : true = true := h) | (have : false = false := h))) | refine PW_cond rfl (fun h => ?_) (fun h => ?_)))
                all_goals (first | (exfalso; first | (simp_all; done) | (simp_all; omega)) | ((first | refine Ret_box wN rfl rfl rfl rfl rfl rfl rfl rfl rfl ?_ ?_ ?_ rfl | refine Ret_box (wC vT wN) rfl rfl rfl rfl rfl rfl rfl rfl rfl ?_ ?_ ?_ rfl | refine Ret_box (wC (vA (AG rfl) (SZ rfl) rfl rfl (lB rfl)) wN) rfl rfl rfl rfl rfl rfl rfl rfl rfl ?_ ?_ ?_ rfl | refine Ret_box (wC vT (wC vT wN)) rfl rfl rfl rfl rfl rfl rfl rfl rfl ?_ ?_ ?_ rfl | refine Ret_box (wC (vA (AG rfl) (SZ rfl) rfl rfl (lB rfl)) (wC vT wN)) rfl rfl rfl rfl rfl rfl rfl rfl rfl ?_ ?_ ?_ rfl); all_goals first | rfl | exact congrArg (fun z => [[PV.g (.int .i64 z)]]) hw))
              · rw [if_neg h6]
                have ih : ∀ x ∈ l, ∀ n : Nat, n ≤ 2000 → PC Tryz.prog 20 [.ptr 0 0, .pat x.g.cells, .g (.int .i64 ((d + 1 : Nat) : Int))] ⟨[[.g (.int .i64 n)]], [], []⟩ (.g (.int .i64 (lookV V x n (d + 1)).2)) ⟨[[.g (.int .i64 ((lookV V x n (d + 1)).1 : Nat))]], [], []⟩ := fun x hx n hn => look_pat hV x n (d + 1) (hma x hx) hn (by omega)
                have hwd : IntKind.i64.wrap ((d : Int) + 1) = ((d + 1 : Nat) : Int) := by rw [wrap64 (by omega)]; omega
                generalize hR : lookVs V l (n + 1) (d + 1) = R
                refine PC_of_PW Tryz.func20 rfl rfl (rs := _) rfl (Nat.le_of_ble_eq_true (by kernel_rfl)) ?_
                (repeat' (first | (first | ((first | refine qA ?_ | refine qB ?_ | refine xN ?_ | refine xE ?_ | refine xT ?_); try show PW _ _ _ _ _ _) | refine ro1 tabOk rfl rfl ?_ | refine ro2 tabOk rfl rfl ?_ | refine ro3 tabOk rfl rfl ?_ | refine rd1 tabOk rfl rfl ?_ | refine rd2 tabOk rfl rfl ?_ | refine rd3 tabOk rfl rfl ?_ | ((first | apply oR rfl rfl | (apply dF rfl rfl rfl; intro _) | (apply dP rfl rfl rfl; intro _) | (apply dL rfl rfl rfl; intro _) | apply dC rfl rfl rfl rfl); (focus (first | exact cJ | exact mG | exact bT | exact nD)); try exact kQ) | refine xU [18] rfl ?_ | refine xR ?_ | refine qxa rfl rfl mixed ?_ | refine qxb rfl rfl mixed ?_ | refine qxi rfl rfl rfl rfl rfl mixed ?_ | refine qxc rfl rfl mixed ?_ | refine qxd rfl rfl mixed ?_ | refine xB ?_ | refine xt rfl ?_ | refine xf rfl ?_) | (refine POps_split rfl rfl (fun h => ?_) (fun h => ?_) <;> fail_if_success (first | (have : true = true := h) | (have : false = false := h))) | (refine POpsD_split rfl rfl (fun h => ?_) (fun h => ?_) <;> fail_if_success (first | (have : true = true := h) | (have : false = false := h))) | refine PW_cond rfl (fun h => ?_) (fun h => ?_)))
                all_goals (first | (exfalso; first | (simp_all; done) | (simp_all; omega)) | skip)
                (repeat (first | ((first | refine qA ?_ | refine qB ?_ | refine xN ?_ | refine xE ?_ | refine xT ?_); try show PW _ _ _ _ _ _) | refine ro1 tabOk rfl rfl ?_ | refine ro2 tabOk rfl rfl ?_ | refine ro3 tabOk rfl rfl ?_ | refine rd1 tabOk rfl rfl ?_ | refine rd2 tabOk rfl rfl ?_ | refine rd3 tabOk rfl rfl ?_ | ((first | apply oR rfl rfl | (apply dF rfl rfl rfl; intro _) | (apply dP rfl rfl rfl; intro _) | (apply dL rfl rfl rfl; intro _) | apply dC rfl rfl rfl rfl); (focus (first | exact cJ | exact mG | exact bT | exact nD)); try exact kQ) | refine xS ?_ | refine xR ?_ | refine qxa rfl rfl mixed ?_ | refine qxb rfl rfl mixed ?_ | refine qxi rfl rfl rfl rfl rfl mixed ?_ | refine qxc rfl rfl mixed ?_ | refine qxd rfl rfl mixed ?_ | refine xB ?_ | refine xt rfl ?_ | refine xf rfl ?_))
                refine PW_loop (S := Nat × Nat) (fun s => slots [(0, .ptr 0 0), (1, .pat (VVal.mk 5 y c e t l).g.cells), (2, .g (.int .i64 d)), (67, .g (.int .i64 l.length)), (68, .g (.int .i64 s.1))])
                  (fun s => ⟨[[.g (.int .i64 (s.2 : Nat))]], [], []⟩) (fun s => s.1 ≤ l.length ∧ s.2 ≤ 2000 ∧ lookVs V (l.drop s.1) s.2 (d + 1) = R) (fun s => l.length - s.1) (0, n + 1) ⟨Nat.zero_le _, by dsimp only; omega, hR⟩
                  (SlotsOk.le ⟨.inl rfl, .inl rfl, .inl rfl, .inl (congrArg (fun k : Nat => PV.g (.int .i64 k)) g1), .inl rfl, trivial⟩) (HLe.of_eq ?_) (fun s hs => ?_)
                · exact congrArg (fun z => PH.mk [[PV.g (.int .i64 z)]] [] []) hw
                obtain ⟨i, m⟩ := s
                obtain ⟨hi, hm, hgo⟩ := hs
                dsimp only at hi hm hgo
                clear h
                (repeat (first | ((first | refine qA ?_ | refine qB ?_ | refine xN ?_ | refine xE ?_ | refine xT ?_); try show PW _ _ _ _ _ _) | refine ro1 tabOk rfl rfl ?_ | refine ro2 tabOk rfl rfl ?_ | refine ro3 tabOk rfl rfl ?_ | refine rd1 tabOk rfl rfl ?_ | refine rd2 tabOk rfl rfl ?_ | refine rd3 tabOk rfl rfl ?_ | ((first | apply oR rfl rfl | (apply dF rfl rfl rfl; intro _) | (apply dP rfl rfl rfl; intro _) | (apply dL rfl rfl rfl; intro _) | apply dC rfl rfl rfl rfl); (focus (first | exact cJ | exact mG | exact bT | exact nD)); try exact kQ) | refine xS ?_ | refine xR ?_ | refine qxa rfl rfl mixed ?_ | refine qxb rfl rfl mixed ?_ | refine qxi rfl rfl rfl rfl rfl mixed ?_ | refine qxc rfl rfl mixed ?_ | refine qxd rfl rfl mixed ?_ | refine xB ?_ | refine xt rfl ?_ | refine xf rfl ?_))
                (first | refine POps_split rfl rfl (fun h => ?_) (fun h => ?_) | refine POpsD_split rfl rfl (fun h => ?_) (fun h => ?_) | refine PW_cond rfl (fun h => ?_) (fun h => ?_))
                · have hlt : i < l.length := by have := of_decide_eq_true h; omega
                  have hg : (VVal.gs l)[((i : Int)).toNat]? = some l[i].g := by rw [VVal.gs_eq]; exact map_get hlt
                  have ih := ih l[i] (List.getElem_mem hlt) m hm
                  have hok := lookV_ok (V := V) l[i] m (d + 1)
                  rw [List.drop_eq_getElem_cons hlt, lookVs] at hgo
                  generalize l[i] = x at hg ih hgo hok
                  generalize lookV V x m (d + 1) = r at ih hgo hok
                  obtain ⟨r1, r2⟩ := r
                  obtain ⟨x0, x1, x2, x3, x4, x5⟩ := x
                  dsimp only at ih hgo hok
                  rw [← hwd] at ih
                  clear h
                  (repeat (first | ((first | refine qA ?_ | refine qB ?_ | refine xN ?_ | refine xE ?_ | refine xT ?_); try show PW _ _ _ _ _ _) | refine ro1 tabOk rfl rfl ?_ | refine ro2 tabOk rfl rfl ?_ | refine ro3 tabOk rfl rfl ?_ | refine rd1 tabOk rfl rfl ?_ | refine rd2 tabOk rfl rfl ?_ | refine rd3 tabOk rfl rfl ?_ | ((first | apply oR rfl rfl | (apply dF rfl rfl rfl; intro _) | (apply dP rfl rfl rfl; intro _) | (apply dL rfl rfl rfl; intro _) | apply dC rfl rfl rfl rfl); (focus (first | exact cb [] rfl rfl (EN rfl) (ih) rfl rfl rfl rfl rfl rfl rfl rfl rfl rfl rfl | exact iA rfl (EL rfl) (SZ rfl) rfl rfl (Int.natCast_nonneg _) hg rfl | exact cJ | exact mG | exact bT | exact nD)); try exact kQ) | refine xS ?_ | refine xR ?_ | refine qxa rfl rfl mixed ?_ | refine qxb rfl rfl mixed ?_ | refine qxi rfl rfl rfl rfl rfl mixed ?_ | refine qxc rfl rfl mixed ?_ | refine qxd rfl rfl mixed ?_ | refine xB ?_ | refine xt rfl ?_ | refine xf rfl ?_))
                  (first | refine POps_split rfl rfl (fun h => ?_) (fun h => ?_) | refine POpsD_split rfl rfl (fun h => ?_) (fun h => ?_) | refine PW_cond rfl (fun h => ?_) (fun h => ?_))
                  · have hne : ¬ r2 = 0 := by simpa [bne] using h
                    rw [if_neg hne] at hgo
                    subst hgo
                    (repeat (first | ((first | refine qA ?_ | refine qB ?_ | refine xN ?_ | refine xE ?_ | refine xT ?_); try show PW _ _ _ _ _ _) | refine ro1 tabOk rfl rfl ?_ | refine ro2 tabOk rfl rfl ?_ | refine ro3 tabOk rfl rfl ?_ | refine rd1 tabOk rfl rfl ?_ | refine rd2 tabOk rfl rfl ?_ | refine rd3 tabOk rfl rfl ?_ | ((first | apply oR rfl rfl | (apply dF rfl rfl rfl; intro _) | (apply dP rfl rfl rfl; intro _) | (apply dL rfl rfl rfl; intro _) | apply dC rfl rfl rfl rfl); (focus (first | exact cJ | exact mG | exact bT | exact nD)); try exact kQ) | refine xS ?_ | refine xR ?_ | refine qxa rfl rfl mixed ?_ | refine qxb rfl rfl mixed ?_ | refine qxi rfl rfl rfl rfl rfl mixed ?_ | refine qxc rfl rfl mixed ?_ | refine qxd rfl rfl mixed ?_ | refine xB ?_ | refine xt rfl ?_ | refine xf rfl ?_))
                    (first | refine Ret_box wN rfl rfl rfl rfl rfl rfl rfl rfl rfl ?_ ?_ ?_ rfl | refine Ret_box (wC vT wN) rfl rfl rfl rfl rfl rfl rfl rfl rfl ?_ ?_ ?_ rfl | refine Ret_box (wC (vA (AG rfl) (SZ rfl) rfl rfl (lB rfl)) wN) rfl rfl rfl rfl rfl rfl rfl rfl rfl ?_ ?_ ?_ rfl | refine Ret_box (wC vT (wC vT wN)) rfl rfl rfl rfl rfl rfl rfl rfl rfl ?_ ?_ ?_ rfl | refine Ret_box (wC (vA (AG rfl) (SZ rfl) rfl rfl (lB rfl)) (wC vT wN)) rfl rfl rfl rfl rfl rfl rfl rfl rfl ?_ ?_ ?_ rfl)
                    all_goals rfl
                  · have he : r2 = 0 := by simpa [bne] using h
                    rw [if_pos he] at hgo
                    (repeat (first | ((first | refine qA ?_ | refine qB ?_ | refine xN ?_ | refine xE ?_ | refine xT ?_); try show PW _ _ _ _ _ _) | refine ro1 tabOk rfl rfl ?_ | refine ro2 tabOk rfl rfl ?_ | refine ro3 tabOk rfl rfl ?_ | refine rd1 tabOk rfl rfl ?_ | refine rd2 tabOk rfl rfl ?_ | refine rd3 tabOk rfl rfl ?_ | ((first | apply oR rfl rfl | (apply dF rfl rfl rfl; intro _) | (apply dP rfl rfl rfl; intro _) | (apply dL rfl rfl rfl; intro _) | apply dC rfl rfl rfl rfl); (focus (first | exact cJ | exact mG | exact bT | exact nD)); try exact kQ) | refine xS ?_ | refine xR ?_ | refine qxa rfl rfl mixed ?_ | refine qxb rfl rfl mixed ?_ | refine qxi rfl rfl rfl rfl rfl mixed ?_ | refine qxc rfl rfl mixed ?_ | refine qxd rfl rfl mixed ?_ | refine xB ?_ | refine xt rfl ?_ | refine xf rfl ?_))
                    exact ⟨(i + 1, r1), ⟨hlt, (hok he).2, hgo⟩, by dsimp only; omega, SlotsOk.le ⟨.inl rfl, .inl rfl, .inl rfl, .inl rfl, .inl (congrArg (fun k => PV.g (.int .i64 k)) (wrap64 (by omega))), trivial⟩, HLe.of_eq rfl⟩
                · have hi' : i = l.length := by have := of_decide_eq_false h; omega
                  subst hi'
                  rw [List.drop_length, lookVs] at hgo
                  subst hgo
                  (repeat (first | ((first | refine qA ?_ | refine qB ?_ | refine xN ?_ | refine xE ?_ | refine xT ?_); try show PW _ _ _ _ _ _) | refine ro1 tabOk rfl rfl ?_ | refine ro2 tabOk rfl rfl ?_ | refine ro3 tabOk rfl rfl ?_ | refine rd1 tabOk rfl rfl ?_ | refine rd2 tabOk rfl rfl ?_ | refine rd3 tabOk rfl rfl ?_ | ((first | apply oR rfl rfl | (apply dF rfl rfl rfl; intro _) | (apply dP rfl rfl rfl; intro _) | (apply dL rfl rfl rfl; intro _) | apply dC rfl rfl rfl rfl); (focus (first | exact cJ | exact mG | exact bT | exact nD)); try exact kQ) | refine xS ?_ | refine xR ?_ | refine qxa rfl rfl mixed ?_ | refine qxb rfl rfl mixed ?_ | refine qxi rfl rfl rfl rfl rfl mixed ?_ | refine qxc rfl rfl mixed ?_ | refine qxd rfl rfl mixed ?_ | refine xB ?_ | refine xt rfl ?_ | refine xf rfl ?_))
                  (first | refine Ret_box wN rfl rfl rfl rfl rfl rfl rfl rfl rfl ?_ ?_ ?_ rfl | refine Ret_box (wC vT wN) rfl rfl rfl rfl rfl rfl rfl rfl rfl ?_ ?_ ?_ rfl | refine Ret_box (wC (vA (AG rfl) (SZ rfl) rfl rfl (lB rfl)) wN) rfl rfl rfl rfl rfl rfl rfl rfl rfl ?_ ?_ ?_ rfl | refine Ret_box (wC vT (wC vT wN)) rfl rfl rfl rfl rfl rfl rfl rfl rfl ?_ ?_ ?_ rfl | refine Ret_box (wC (vA (AG rfl) (SZ rfl) rfl rfl (lB rfl)) (wC vT wN)) rfl rfl rfl rfl rfl rfl rfl rfl rfl ?_ ?_ ?_ rfl)
                  all_goals rfl
            · rw [if_neg h5]
              refine PC_of_PW Tryz.func20 rfl rfl (rs := _) rfl (Nat.le_of_ble_eq_true (by kernel_rfl)) ?_
              (repeat' (first | (first | ((first | refine qA ?_ | refine qB ?_ | refine xN ?_ | refine xE ?_ | refine xT ?_); try show PW _ _ _ _ _ _) | refine ro1 tabOk rfl rfl ?_ | refine ro2 tabOk rfl rfl ?_ | refine ro3 tabOk rfl rfl ?_ | refine rd1 tabOk rfl rfl ?_ | refine rd2 tabOk rfl rfl ?_ | refine rd3 tabOk rfl rfl ?_ | ((first | apply oR rfl rfl | (apply dF rfl rfl rfl; intro _) | (apply dP rfl rfl rfl; intro _) | (apply dL rfl rfl rfl; intro _) | apply dC rfl rfl rfl rfl); (focus (first | exact cJ | exact mG | exact bT | exact nD)); try exact kQ) | refine xU [16] rfl ?_ | refine xR ?_ | refine qxa rfl rfl mixed ?_ | refine qxb rfl rfl mixed ?_ | refine qxi rfl rfl rfl rfl rfl mixed ?_ | refine qxc rfl rfl mixed ?_ | refine qxd rfl rfl mixed ?_ | refine xB ?_ | refine xt rfl ?_ | refine xf rfl ?_) | (refine POps_split rfl rfl (fun h => ?_) (fun h => ?_) <;> fail_if_success (first | (have : true = true := h) | (have : false = false := h))) | (refine POpsD_split rfl rfl (fun h => ?_) (fun h => ?_) <;> fail_if_success (first | (have : true = true := h) | (have : false = false := h))) | refine PW_cond rfl (fun h => ?_) (fun h => ?_)))
              all_goals (first | (exfalso; first | (simp_all; done) | (simp_all; omega)) | ((first | refine Ret_box wN rfl rfl rfl rfl rfl rfl rfl rfl rfl ?_ ?_ ?_ rfl | refine Ret_box (wC vT wN) rfl rfl rfl rfl rfl rfl rfl rfl rfl ?_ ?_ ?_ rfl | refine Ret_box (wC (vA (AG rfl) (SZ rfl) rfl rfl (lB rfl)) wN) rfl rfl rfl rfl rfl rfl rfl rfl rfl ?_ ?_ ?_ rfl | refine Ret_box (wC vT (wC vT wN)) rfl rfl rfl rfl rfl rfl rfl rfl rfl ?_ ?_ ?_ rfl | refine Ret_box (wC (vA (AG rfl) (SZ rfl) rfl rfl (lB rfl)) (wC vT wN)) rfl rfl rfl rfl rfl rfl rfl rfl rfl ?_ ?_ ?_ rfl); all_goals first | rfl | exact congrArg (fun z => [[PV.g (.int .i64 z)]]) hw))
end Go.Proofs.YtdicineiaifahaaGreatDoor


namespace Go.Proofs.YtdicineiaifahaaGreatDoor
open Go Go.Pure
attribute [local irreducible] PW POps POpsD PO PC Cond

set_option maxRecDepth 100000 in
set_option maxHeartbeats 8000000 in
theorem look_ptr {V : ByteArray → Bool} (hV : ∀ s : ByteArray, s.size ≤ maxLen → PC Tryz.prog 30 [.g (.str s)] ⟨[], [], []⟩ (.g (.bool (V s))) ⟨[], [], []⟩) (k : Int) (y : Bool) (c e : Int) (t : ByteArray) (l : List VVal) (hz : gsz (VVal.mk k y c e t l).g) :
    PC Tryz.prog 20 [.ptr 0 0, .ptr 1 0, .g (.int .i64 1)] ⟨[[.g (.int .i64 0)], [.g (.int .i64 k), .g (.bool y), .g (.int .i64 c), .g (.int .i64 e), .g (.str t), .g (.sl (VVal.gs l))]], [], []⟩
      (.g (.int .i64 (lookV V (.mk k y c e t l) 0 1).2)) ⟨[[.g (.int .i64 ((lookV V (.mk k y c e t l) 0 1).1 : Nat))], [.g (.int .i64 k), .g (.bool y), .g (.int .i64 c), .g (.int .i64 e), .g (.str t), .g (.sl (VVal.gs l))]], [], []⟩ := by
  obtain ⟨hla, hma⟩ := VVal.gsz_list hz
  have hts : t.size ≤ maxLen := by simp only [VVal.g, gsz, gszs] at hz; exact hz.2.2.2.2.1
  have g1 : (VVal.gs l).length = l.length := by simp [VVal.gs_eq]
  have hD := dec_pc c e
  have hT := hV t hts
  rw [lookV_eq, if_neg (by decide)]
  by_cases h2 : k = 1 ∨ k = 2
  · rw [if_pos h2]
    rcases h2 with rfl | rfl
    all_goals
      refine PC_of_PW Tryz.func20 rfl rfl (rs := _) rfl (Nat.le_of_ble_eq_true (by kernel_rfl)) ?_
      (repeat (first | ((first | refine qA ?_ | refine qB ?_ | refine xN ?_ | refine xE ?_ | refine xT ?_); try show PW _ _ _ _ _ _) | refine ro1 tabOk rfl rfl ?_ | refine ro2 tabOk rfl rfl ?_ | refine ro3 tabOk rfl rfl ?_ | refine rd1 tabOk rfl rfl ?_ | refine rd2 tabOk rfl rfl ?_ | refine rd3 tabOk rfl rfl ?_ | ((first | apply oR rfl rfl | (apply dF rfl rfl rfl; intro _) | (apply dP rfl rfl rfl; intro _) | (apply dL rfl rfl rfl; intro _) | apply dC rfl rfl rfl rfl); (focus (first | exact cJ | exact mG | exact bT | exact nD)); try exact kQ) | refine xS ?_ | refine xR ?_ | refine qxa rfl rfl mixed ?_ | refine qxb rfl rfl mixed ?_ | refine qxi rfl rfl rfl rfl rfl mixed ?_ | refine qxc rfl rfl mixed ?_ | refine qxd rfl rfl mixed ?_ | refine xB ?_ | refine xt rfl ?_ | refine xf rfl ?_))
      (first | refine Ret_box wN rfl rfl rfl rfl rfl rfl rfl rfl rfl ?_ ?_ ?_ rfl | refine Ret_box (wC vT wN) rfl rfl rfl rfl rfl rfl rfl rfl rfl ?_ ?_ ?_ rfl | refine Ret_box (wC (vA (AG rfl) (SZ rfl) rfl rfl (lB rfl)) wN) rfl rfl rfl rfl rfl rfl rfl rfl rfl ?_ ?_ ?_ rfl | refine Ret_box (wC vT (wC vT wN)) rfl rfl rfl rfl rfl rfl rfl rfl rfl ?_ ?_ ?_ rfl | refine Ret_box (wC (vA (AG rfl) (SZ rfl) rfl rfl (lB rfl)) (wC vT wN)) rfl rfl rfl rfl rfl rfl rfl rfl rfl ?_ ?_ ?_ rfl)
      all_goals rfl
  · rw [if_neg h2]
    by_cases h3 : k = 3
    · subst h3
      rw [if_pos rfl]
      refine PC_of_PW Tryz.func20 rfl rfl (rs := _) rfl (Nat.le_of_ble_eq_true (by kernel_rfl)) ?_
      (repeat (first | ((first | refine qA ?_ | refine qB ?_ | refine xN ?_ | refine xE ?_ | refine xT ?_); try show PW _ _ _ _ _ _) | refine ro1 tabOk rfl rfl ?_ | refine ro2 tabOk rfl rfl ?_ | refine ro3 tabOk rfl rfl ?_ | refine rd1 tabOk rfl rfl ?_ | refine rd2 tabOk rfl rfl ?_ | refine rd3 tabOk rfl rfl ?_ | ((first | apply oR rfl rfl | (apply dF rfl rfl rfl; intro _) | (apply dP rfl rfl rfl; intro _) | (apply dL rfl rfl rfl; intro _) | apply dC rfl rfl rfl rfl); (focus (first | exact cqP hD | exact cJ | exact mG | exact bT | exact nD)); try exact kQ) | refine xS ?_ | refine xR ?_ | refine qxa rfl rfl mixed ?_ | refine qxb rfl rfl mixed ?_ | refine qxi rfl rfl rfl rfl rfl mixed ?_ | refine qxc rfl rfl mixed ?_ | refine qxd rfl rfl mixed ?_ | refine xB ?_ | refine xt rfl ?_ | refine xf rfl ?_))
      (first | refine Ret_box wN rfl rfl rfl rfl rfl rfl rfl rfl rfl ?_ ?_ ?_ rfl | refine Ret_box (wC vT wN) rfl rfl rfl rfl rfl rfl rfl rfl rfl ?_ ?_ ?_ rfl | refine Ret_box (wC (vA (AG rfl) (SZ rfl) rfl rfl (lB rfl)) wN) rfl rfl rfl rfl rfl rfl rfl rfl rfl ?_ ?_ ?_ rfl | refine Ret_box (wC vT (wC vT wN)) rfl rfl rfl rfl rfl rfl rfl rfl rfl ?_ ?_ ?_ rfl | refine Ret_box (wC (vA (AG rfl) (SZ rfl) rfl rfl (lB rfl)) (wC vT wN)) rfl rfl rfl rfl rfl rfl rfl rfl rfl ?_ ?_ ?_ rfl)
      all_goals rfl
    · rw [if_neg h3]
      by_cases h4 : k = 4
      · subst h4
        rw [if_pos rfl]
        refine PC_of_PW Tryz.func20 rfl rfl (rs := _) rfl (Nat.le_of_ble_eq_true (by kernel_rfl)) ?_
        (repeat' (first | (first | ((first | refine qA ?_ | refine qB ?_ | refine xN ?_ | refine xE ?_ | refine xT ?_); try show PW _ _ _ _ _ _) | refine ro1 tabOk rfl rfl ?_ | refine ro2 tabOk rfl rfl ?_ | refine ro3 tabOk rfl rfl ?_ | refine rd1 tabOk rfl rfl ?_ | refine rd2 tabOk rfl rfl ?_ | refine rd3 tabOk rfl rfl ?_ | ((first | apply oR rfl rfl | (apply dF rfl rfl rfl; intro _) | (apply dP rfl rfl rfl; intro _) | (apply dL rfl rfl rfl; intro _) | apply dC rfl rfl rfl rfl); (focus (first | exact cl rfl rfl EN17 hT rfl rfl rfl | exact cJ | exact mG | exact bT | exact nD)); try exact kQ) | refine xU [16] rfl ?_ | refine xR ?_ | refine qxa rfl rfl mixed ?_ | refine qxb rfl rfl mixed ?_ | refine qxi rfl rfl rfl rfl rfl mixed ?_ | refine qxc rfl rfl mixed ?_ | refine qxd rfl rfl mixed ?_ | refine xB ?_ | refine xt rfl ?_ | refine xf rfl ?_) | (refine POps_split rfl rfl (fun h => ?_) (fun h => ?_) <;> fail_if_success (first | (have : true = true := h) | (have : false = false := h))) | (refine POpsD_split rfl rfl (fun h => ?_) (fun h => ?_) <;> fail_if_success (first | (have : true = true := h) | (have : false = false := h))) | refine PW_cond rfl (fun h => ?_) (fun h => ?_)))
        all_goals (first | (exfalso; first | (simp_all; done) | (simp_all; omega)) | ((first | refine Ret_box wN rfl rfl rfl rfl rfl rfl rfl rfl rfl ?_ ?_ ?_ rfl | refine Ret_box (wC vT wN) rfl rfl rfl rfl rfl rfl rfl rfl rfl ?_ ?_ ?_ rfl | refine Ret_box (wC (vA (AG rfl) (SZ rfl) rfl rfl (lB rfl)) wN) rfl rfl rfl rfl rfl rfl rfl rfl rfl ?_ ?_ ?_ rfl | refine Ret_box (wC vT (wC vT wN)) rfl rfl rfl rfl rfl rfl rfl rfl rfl ?_ ?_ ?_ rfl | refine Ret_box (wC (vA (AG rfl) (SZ rfl) rfl rfl (lB rfl)) (wC vT wN)) rfl rfl rfl rfl rfl rfl rfl rfl rfl ?_ ?_ ?_ rfl); all_goals first | rfl | (simp_all; done) | (refine congrArg (fun z => PV.g (.int .i64 z)) ?_; simp_all; omega)))
      · rw [if_neg h4]
        by_cases h5 : k = 5
        · subst h5
          rw [if_pos rfl]
          by_cases h6 : 200 < l.length
          · rw [if_pos h6]
            refine PC_of_PW Tryz.func20 rfl rfl (rs := _) rfl (Nat.le_of_ble_eq_true (by kernel_rfl)) ?_
            (repeat' (first | (first | ((first | refine qA ?_ | refine qB ?_ | refine xN ?_ | refine xE ?_ | refine xT ?_); try show PW _ _ _ _ _ _) | refine ro1 tabOk rfl rfl ?_ | refine ro2 tabOk rfl rfl ?_ | refine ro3 tabOk rfl rfl ?_ | refine rd1 tabOk rfl rfl ?_ | refine rd2 tabOk rfl rfl ?_ | refine rd3 tabOk rfl rfl ?_ | ((first | apply oR rfl rfl | (apply dF rfl rfl rfl; intro _) | (apply dP rfl rfl rfl; intro _) | (apply dL rfl rfl rfl; intro _) | apply dC rfl rfl rfl rfl); (focus (first | exact cJ | exact mG | exact bT | exact nD)); try exact kQ) | refine xU [18] rfl ?_ | refine xR ?_ | refine qxa rfl rfl mixed ?_ | refine qxb rfl rfl mixed ?_ | refine qxi rfl rfl rfl rfl rfl mixed ?_ | refine qxc rfl rfl mixed ?_ | refine qxd rfl rfl mixed ?_ | refine xB ?_ | refine xt rfl ?_ | refine xf rfl ?_) | (refine POps_split rfl rfl (fun h => ?_) (fun h => ?_) <;> fail_if_success (first | (have : true = true := h) | (have : false = false := h))) | (refine POpsD_split rfl rfl (fun h => ?_) (fun h => ?_) <;> fail_if_success (first | (have : true = true := h) | (have : false = false := h))) | refine PW_cond rfl (fun h => ?_) (fun h => ?_)))
            all_goals (first | (exfalso; first | (simp_all; done) | (simp_all; omega)) | ((first | refine Ret_box wN rfl rfl rfl rfl rfl rfl rfl rfl rfl ?_ ?_ ?_ rfl | refine Ret_box (wC vT wN) rfl rfl rfl rfl rfl rfl rfl rfl rfl ?_ ?_ ?_ rfl | refine Ret_box (wC (vA (AG rfl) (SZ rfl) rfl rfl (lB rfl)) wN) rfl rfl rfl rfl rfl rfl rfl rfl rfl ?_ ?_ ?_ rfl | refine Ret_box (wC vT (wC vT wN)) rfl rfl rfl rfl rfl rfl rfl rfl rfl ?_ ?_ ?_ rfl | refine Ret_box (wC (vA (AG rfl) (SZ rfl) rfl rfl (lB rfl)) (wC vT wN)) rfl rfl rfl rfl rfl rfl rfl rfl rfl ?_ ?_ ?_ rfl); all_goals rfl))
          · rw [if_neg h6]
            have ih : ∀ x ∈ l, ∀ n : Nat, n ≤ 2000 → PC Tryz.prog 20 [.ptr 0 0, .pat x.g.cells, .g (.int .i64 2)] ⟨[[.g (.int .i64 n)]], [], []⟩ (.g (.int .i64 (lookV V x n 2).2)) ⟨[[.g (.int .i64 ((lookV V x n 2).1 : Nat))]], [], []⟩ := fun x hx n hn => look_pat hV x n 2 (hma x hx) hn (by omega)
            generalize hR : lookVs V l (0 + 1) (1 + 1) = R
            refine PC_of_PW Tryz.func20 rfl rfl (rs := _) rfl (Nat.le_of_ble_eq_true (by kernel_rfl)) ?_
            (repeat' (first | (first | ((first | refine qA ?_ | refine qB ?_ | refine xN ?_ | refine xE ?_ | refine xT ?_); try show PW _ _ _ _ _ _) | refine ro1 tabOk rfl rfl ?_ | refine ro2 tabOk rfl rfl ?_ | refine ro3 tabOk rfl rfl ?_ | refine rd1 tabOk rfl rfl ?_ | refine rd2 tabOk rfl rfl ?_ | refine rd3 tabOk rfl rfl ?_ | ((first | apply oR rfl rfl | (apply dF rfl rfl rfl; intro _) | (apply dP rfl rfl rfl; intro _) | (apply dL rfl rfl rfl; intro _) | apply dC rfl rfl rfl rfl); (focus (first | exact cJ | exact mG | exact bT | exact nD)); try exact kQ) | refine xU [18] rfl ?_ | refine xR ?_ | refine qxa rfl rfl mixed ?_ | refine qxb rfl rfl mixed ?_ | refine qxi rfl rfl rfl rfl rfl mixed ?_ | refine qxc rfl rfl mixed ?_ | refine qxd rfl rfl mixed ?_ | refine xB ?_ | refine xt rfl ?_ | refine xf rfl ?_) | (refine POps_split rfl rfl (fun h => ?_) (fun h => ?_) <;> fail_if_success (first | (have : true = true := h) | (have : false = false := h))) | (refine POpsD_split rfl rfl (fun h => ?_) (fun h => ?_) <;> fail_if_success (first | (have : true = true := h) | (have : false = false := h))) | refine PW_cond rfl (fun h => ?_) (fun h => ?_)))
            all_goals (first | (exfalso; first | (simp_all; done) | (simp_all; omega)) | skip)
            (repeat (first | ((first | refine qA ?_ | refine qB ?_ | refine xN ?_ | refine xE ?_ | refine xT ?_); try show PW _ _ _ _ _ _) | refine ro1 tabOk rfl rfl ?_ | refine ro2 tabOk rfl rfl ?_ | refine ro3 tabOk rfl rfl ?_ | refine rd1 tabOk rfl rfl ?_ | refine rd2 tabOk rfl rfl ?_ | refine rd3 tabOk rfl rfl ?_ | ((first | apply oR rfl rfl | (apply dF rfl rfl rfl; intro _) | (apply dP rfl rfl rfl; intro _) | (apply dL rfl rfl rfl; intro _) | apply dC rfl rfl rfl rfl); (focus (first | exact cJ | exact mG | exact bT | exact nD)); try exact kQ) | refine xS ?_ | refine xR ?_ | refine qxa rfl rfl mixed ?_ | refine qxb rfl rfl mixed ?_ | refine qxi rfl rfl rfl rfl rfl mixed ?_ | refine qxc rfl rfl mixed ?_ | refine qxd rfl rfl mixed ?_ | refine xB ?_ | refine xt rfl ?_ | refine xf rfl ?_))
            refine PW_loop (S := Nat × Nat) (fun s => slots [(0, .ptr 0 0), (1, .ptr 1 0), (2, .g (.int .i64 1)), (67, .g (.int .i64 l.length)), (68, .g (.int .i64 s.1))])
              (fun s => ⟨[[.g (.int .i64 (s.2 : Nat))], [.g (.int .i64 5), .g (.bool y), .g (.int .i64 c), .g (.int .i64 e), .g (.str t), .g (.sl (VVal.gs l))]], [], []⟩) (fun s => s.1 ≤ l.length ∧ s.2 ≤ 2000 ∧ lookVs V (l.drop s.1) s.2 2 = R) (fun s => l.length - s.1) (0, 1) ⟨Nat.zero_le _, by dsimp only; omega, hR⟩
              (SlotsOk.le ⟨.inl rfl, .inl rfl, .inl rfl, .inl (congrArg (fun k : Nat => PV.g (.int .i64 k)) g1), .inl rfl, trivial⟩) (HLe.of_eq rfl) (fun s hs => ?_)
            obtain ⟨i, m⟩ := s
            obtain ⟨hi, hm, hgo⟩ := hs
            dsimp only at hi hm hgo
            clear h
            (repeat (first | ((first | refine qA ?_ | refine qB ?_ | refine xN ?_ | refine xE ?_ | refine xT ?_); try show PW _ _ _ _ _ _) | refine ro1 tabOk rfl rfl ?_ | refine ro2 tabOk rfl rfl ?_ | refine ro3 tabOk rfl rfl ?_ | refine rd1 tabOk rfl rfl ?_ | refine rd2 tabOk rfl rfl ?_ | refine rd3 tabOk rfl rfl ?_ | ((first | apply oR rfl rfl | (apply dF rfl rfl rfl; intro _) | (apply dP rfl rfl rfl; intro _) | (apply dL rfl rfl rfl; intro _) | apply dC rfl rfl rfl rfl); (focus (first | exact cJ | exact mG | exact bT | exact nD)); try exact kQ) | refine xS ?_ | refine xR ?_ | refine qxa rfl rfl mixed ?_ | refine qxb rfl rfl mixed ?_ | refine qxi rfl rfl rfl rfl rfl mixed ?_ | refine qxc rfl rfl mixed ?_ | refine qxd rfl rfl mixed ?_ | refine xB ?_ | refine xt rfl ?_ | refine xf rfl ?_))
            (first | refine POps_split rfl rfl (fun h => ?_) (fun h => ?_) | refine POpsD_split rfl rfl (fun h => ?_) (fun h => ?_) | refine PW_cond rfl (fun h => ?_) (fun h => ?_))
            · have hlt : i < l.length := by have := of_decide_eq_true h; omega
              have hg : (VVal.gs l)[((i : Int)).toNat]? = some l[i].g := by rw [VVal.gs_eq]; exact map_get hlt
              have ih := ih l[i] (List.getElem_mem hlt) m hm
              have hok := lookV_ok (V := V) l[i] m 2
              rw [List.drop_eq_getElem_cons hlt, lookVs] at hgo
              generalize l[i] = x at hg ih hgo hok
              generalize lookV V x m 2 = r at ih hgo hok
              obtain ⟨r1, r2⟩ := r
              obtain ⟨x0, x1, x2, x3, x4, x5⟩ := x
              dsimp only at ih hgo hok
              clear h
              (repeat (first | ((first | refine qA ?_ | refine qB ?_ | refine xN ?_ | refine xE ?_ | refine xT ?_); try show PW _ _ _ _ _ _) | refine ro1 tabOk rfl rfl ?_ | refine ro2 tabOk rfl rfl ?_ | refine ro3 tabOk rfl rfl ?_ | refine rd1 tabOk rfl rfl ?_ | refine rd2 tabOk rfl rfl ?_ | refine rd3 tabOk rfl rfl ?_ | ((first | apply oR rfl rfl | (apply dF rfl rfl rfl; intro _) | (apply dP rfl rfl rfl; intro _) | (apply dL rfl rfl rfl; intro _) | apply dC rfl rfl rfl rfl); (focus (first | exact cb [] rfl rfl (EN rfl) (ih) rfl rfl rfl rfl rfl rfl rfl rfl rfl rfl rfl | exact iA rfl (EL rfl) (SZ rfl) rfl rfl (Int.natCast_nonneg _) hg rfl | exact cJ | exact mG | exact bT | exact nD)); try exact kQ) | refine xS ?_ | refine xR ?_ | refine qxa rfl rfl mixed ?_ | refine qxb rfl rfl mixed ?_ | refine qxi rfl rfl rfl rfl rfl mixed ?_ | refine qxc rfl rfl mixed ?_ | refine qxd rfl rfl mixed ?_ | refine xB ?_ | refine xt rfl ?_ | refine xf rfl ?_))
              (first | refine POps_split rfl rfl (fun h => ?_) (fun h => ?_) | refine POpsD_split rfl rfl (fun h => ?_) (fun h => ?_) | refine PW_cond rfl (fun h => ?_) (fun h => ?_))
              · have hne : ¬ r2 = 0 := by simpa [bne] using h
                rw [if_neg hne] at hgo
                subst hgo
                (repeat (first | ((first | refine qA ?_ | refine qB ?_ | refine xN ?_ | refine xE ?_ | refine xT ?_); try show PW _ _ _ _ _ _) | refine ro1 tabOk rfl rfl ?_ | refine ro2 tabOk rfl rfl ?_ | refine ro3 tabOk rfl rfl ?_ | refine rd1 tabOk rfl rfl ?_ | refine rd2 tabOk rfl rfl ?_ | refine rd3 tabOk rfl rfl ?_ | ((first | apply oR rfl rfl | (apply dF rfl rfl rfl; intro _) | (apply dP rfl rfl rfl; intro _) | (apply dL rfl rfl rfl; intro _) | apply dC rfl rfl rfl rfl); (focus (first | exact cJ | exact mG | exact bT | exact nD)); try exact kQ) | refine xS ?_ | refine xR ?_ | refine qxa rfl rfl mixed ?_ | refine qxb rfl rfl mixed ?_ | refine qxi rfl rfl rfl rfl rfl mixed ?_ | refine qxc rfl rfl mixed ?_ | refine qxd rfl rfl mixed ?_ | refine xB ?_ | refine xt rfl ?_ | refine xf rfl ?_))
                (first | refine Ret_box wN rfl rfl rfl rfl rfl rfl rfl rfl rfl ?_ ?_ ?_ rfl | refine Ret_box (wC vT wN) rfl rfl rfl rfl rfl rfl rfl rfl rfl ?_ ?_ ?_ rfl | refine Ret_box (wC (vA (AG rfl) (SZ rfl) rfl rfl (lB rfl)) wN) rfl rfl rfl rfl rfl rfl rfl rfl rfl ?_ ?_ ?_ rfl | refine Ret_box (wC vT (wC vT wN)) rfl rfl rfl rfl rfl rfl rfl rfl rfl ?_ ?_ ?_ rfl | refine Ret_box (wC (vA (AG rfl) (SZ rfl) rfl rfl (lB rfl)) (wC vT wN)) rfl rfl rfl rfl rfl rfl rfl rfl rfl ?_ ?_ ?_ rfl)
                all_goals rfl
              · have he : r2 = 0 := by simpa [bne] using h
                rw [if_pos he] at hgo
                (repeat (first | ((first | refine qA ?_ | refine qB ?_ | refine xN ?_ | refine xE ?_ | refine xT ?_); try show PW _ _ _ _ _ _) | refine ro1 tabOk rfl rfl ?_ | refine ro2 tabOk rfl rfl ?_ | refine ro3 tabOk rfl rfl ?_ | refine rd1 tabOk rfl rfl ?_ | refine rd2 tabOk rfl rfl ?_ | refine rd3 tabOk rfl rfl ?_ | ((first | apply oR rfl rfl | (apply dF rfl rfl rfl; intro _) | (apply dP rfl rfl rfl; intro _) | (apply dL rfl rfl rfl; intro _) | apply dC rfl rfl rfl rfl); (focus (first | exact cJ | exact mG | exact bT | exact nD)); try exact kQ) | refine xS ?_ | refine xR ?_ | refine qxa rfl rfl mixed ?_ | refine qxb rfl rfl mixed ?_ | refine qxi rfl rfl rfl rfl rfl mixed ?_ | refine qxc rfl rfl mixed ?_ | refine qxd rfl rfl mixed ?_ | refine xB ?_ | refine xt rfl ?_ | refine xf rfl ?_))
                exact ⟨(i + 1, r1), ⟨hlt, (hok he).2, hgo⟩, by dsimp only; omega, SlotsOk.le ⟨.inl rfl, .inl rfl, .inl rfl, .inl rfl, .inl (congrArg (fun k => PV.g (.int .i64 k)) (wrap64 (by omega))), trivial⟩, HLe.of_eq rfl⟩
            · have hi' : i = l.length := by have := of_decide_eq_false h; omega
              subst hi'
              rw [List.drop_length, lookVs] at hgo
              subst hgo
              (repeat (first | ((first | refine qA ?_ | refine qB ?_ | refine xN ?_ | refine xE ?_ | refine xT ?_); try show PW _ _ _ _ _ _) | refine ro1 tabOk rfl rfl ?_ | refine ro2 tabOk rfl rfl ?_ | refine ro3 tabOk rfl rfl ?_ | refine rd1 tabOk rfl rfl ?_ | refine rd2 tabOk rfl rfl ?_ | refine rd3 tabOk rfl rfl ?_ | ((first | apply oR rfl rfl | (apply dF rfl rfl rfl; intro _) | (apply dP rfl rfl rfl; intro _) | (apply dL rfl rfl rfl; intro _) | apply dC rfl rfl rfl rfl); (focus (first | exact cJ | exact mG | exact bT | exact nD)); try exact kQ) | refine xS ?_ | refine xR ?_ | refine qxa rfl rfl mixed ?_ | refine qxb rfl rfl mixed ?_ | refine qxi rfl rfl rfl rfl rfl mixed ?_ | refine qxc rfl rfl mixed ?_ | refine qxd rfl rfl mixed ?_ | refine xB ?_ | refine xt rfl ?_ | refine xf rfl ?_))
              (first | refine Ret_box wN rfl rfl rfl rfl rfl rfl rfl rfl rfl ?_ ?_ ?_ rfl | refine Ret_box (wC vT wN) rfl rfl rfl rfl rfl rfl rfl rfl rfl ?_ ?_ ?_ rfl | refine Ret_box (wC (vA (AG rfl) (SZ rfl) rfl rfl (lB rfl)) wN) rfl rfl rfl rfl rfl rfl rfl rfl rfl ?_ ?_ ?_ rfl | refine Ret_box (wC vT (wC vT wN)) rfl rfl rfl rfl rfl rfl rfl rfl rfl ?_ ?_ ?_ rfl | refine Ret_box (wC (vA (AG rfl) (SZ rfl) rfl rfl (lB rfl)) (wC vT wN)) rfl rfl rfl rfl rfl rfl rfl rfl rfl ?_ ?_ ?_ rfl)
              all_goals rfl
        · rw [if_neg h5]
          refine PC_of_PW Tryz.func20 rfl rfl (rs := _) rfl (Nat.le_of_ble_eq_true (by kernel_rfl)) ?_
          (repeat' (first | (first | ((first | refine qA ?_ | refine qB ?_ | refine xN ?_ | refine xE ?_ | refine xT ?_); try show PW _ _ _ _ _ _) | refine ro1 tabOk rfl rfl ?_ | refine ro2 tabOk rfl rfl ?_ | refine ro3 tabOk rfl rfl ?_ | refine rd1 tabOk rfl rfl ?_ | refine rd2 tabOk rfl rfl ?_ | refine rd3 tabOk rfl rfl ?_ | ((first | apply oR rfl rfl | (apply dF rfl rfl rfl; intro _) | (apply dP rfl rfl rfl; intro _) | (apply dL rfl rfl rfl; intro _) | apply dC rfl rfl rfl rfl); (focus (first | exact cJ | exact mG | exact bT | exact nD)); try exact kQ) | refine xU [16] rfl ?_ | refine xR ?_ | refine qxa rfl rfl mixed ?_ | refine qxb rfl rfl mixed ?_ | refine qxi rfl rfl rfl rfl rfl mixed ?_ | refine qxc rfl rfl mixed ?_ | refine qxd rfl rfl mixed ?_ | refine xB ?_ | refine xt rfl ?_ | refine xf rfl ?_) | (refine POps_split rfl rfl (fun h => ?_) (fun h => ?_) <;> fail_if_success (first | (have : true = true := h) | (have : false = false := h))) | (refine POpsD_split rfl rfl (fun h => ?_) (fun h => ?_) <;> fail_if_success (first | (have : true = true := h) | (have : false = false := h))) | refine PW_cond rfl (fun h => ?_) (fun h => ?_)))
          all_goals (first | (exfalso; first | (simp_all; done) | (simp_all; omega)) | ((first | refine Ret_box wN rfl rfl rfl rfl rfl rfl rfl rfl rfl ?_ ?_ ?_ rfl | refine Ret_box (wC vT wN) rfl rfl rfl rfl rfl rfl rfl rfl rfl ?_ ?_ ?_ rfl | refine Ret_box (wC (vA (AG rfl) (SZ rfl) rfl rfl (lB rfl)) wN) rfl rfl rfl rfl rfl rfl rfl rfl rfl ?_ ?_ ?_ rfl | refine Ret_box (wC vT (wC vT wN)) rfl rfl rfl rfl rfl rfl rfl rfl rfl ?_ ?_ ?_ rfl | refine Ret_box (wC (vA (AG rfl) (SZ rfl) rfl rfl (lB rfl)) (wC vT wN)) rfl rfl rfl rfl rfl rfl rfl rfl rfl ?_ ?_ ?_ rfl); all_goals rfl))

set_option maxRecDepth 100000 in
set_option maxHeartbeats 8000000 in
theorem wrong_pc {V : ByteArray → Bool} (hV : ∀ s : ByteArray, s.size ≤ maxLen → PC Tryz.prog 30 [.g (.str s)] ⟨[], [], []⟩ (.g (.bool (V s))) ⟨[], [], []⟩) (v : VVal) (hz : gsz v.g) :
    PC Tryz.prog 6 [.g v.g] ⟨[], [], []⟩ (.g (.int .i64 (lookV V v 0 1).2)) ⟨[], [], []⟩ := by
  obtain ⟨k, y, c, e, t, l⟩ := v
  have h := look_ptr hV k y c e t l hz
  generalize lookV V (.mk k y c e t l) 0 1 = r at h
  obtain ⟨r1, r2⟩ := r
  dsimp only at h
  refine PC_of_PW Tryz.func6 rfl rfl (rs := _) rfl (Nat.le_of_ble_eq_true (by kernel_rfl)) ?_
  (repeat (first | ((first | refine qA ?_ | refine qB ?_ | refine xN ?_ | refine xE ?_ | refine xT ?_); try show PW _ _ _ _ _ _) | refine ro1 tabOk rfl rfl ?_ | refine ro2 tabOk rfl rfl ?_ | refine ro3 tabOk rfl rfl ?_ | refine rd1 tabOk rfl rfl ?_ | refine rd2 tabOk rfl rfl ?_ | refine rd3 tabOk rfl rfl ?_ | ((first | apply oR rfl rfl | (apply dF rfl rfl rfl; intro _) | (apply dP rfl rfl rfl; intro _) | (apply dL rfl rfl rfl; intro _) | apply dC rfl rfl rfl rfl); (focus (first | exact cb [] rfl rfl (EN rfl) (h) rfl rfl rfl rfl rfl rfl rfl rfl rfl rfl rfl | exact cJ | exact mG | exact bT | exact nD)); try exact kQ) | refine xS ?_ | refine xR ?_ | refine qxa rfl rfl mixed ?_ | refine qxb rfl rfl mixed ?_ | refine qxi rfl rfl rfl rfl rfl mixed ?_ | refine qxc rfl rfl mixed ?_ | refine qxd rfl rfl mixed ?_ | refine xB ?_ | refine xt rfl ?_ | refine xf rfl ?_))
  (first | refine Ret_int (vC vT vN) rfl ?_ | refine Ret_bool (vC vT vN) rfl ?_ | refine Ret_g (vC vT vN) rfl ?_ | refine Ret_int (vC (vA (AG rfl) (SZ rfl) rfl rfl (lB rfl)) vN) rfl ?_ | refine Ret_bool (vC (vA (AG rfl) (SZ rfl) rfl rfl (lB rfl)) vN) rfl ?_ | refine Ret_g (vC (vA (AG rfl) (SZ rfl) rfl rfl (lB rfl)) vN) rfl ?_)
  rfl

end Go.Proofs.YtdicineiaifahaaGreatDoor


namespace Go.Proofs.YtdicineiaifahaaGreatDoor
open Go Go.Pure
attribute [local irreducible] PW POps POpsD PO PC Cond

set_option maxRecDepth 100000 in
set_option maxHeartbeats 8000000 in
/-- logic.Less. -/
theorem less_pc (a b : VVal) : PC Tryz.prog 7 [.g a.g, .g b.g] ⟨[], [], []⟩ (.g (VVal.mk (tk (lessV a b)) (ty (lessV a b)) 0 0 ⟨#[]⟩ []).g) ⟨[], [], []⟩ := by
  obtain ⟨k, y, c, e, t, l⟩ := a
  obtain ⟨k', y', c', e', t', l'⟩ := b
  by_cases h3 : k = 3 ∧ k' = 3
  · obtain ⟨rfl, rfl⟩ := h3
    by_cases hw : wrongD c e = 0 ∧ wrongD c' e' = 0
    · have hd := dcmp_pc hw.1 hw.2
      have hl : lessV (.mk 3 y c e t l) (.mk 3 y' c' e' t' l') = tB (decide (cmpD c e c' e' < 0)) := by simp [lessV, hw.1, hw.2]
      rw [hl]
      generalize cmpD c e c' e' = r at hd
      have hb := bool_pc (decide (r < 0))
      have hk : tk (tB (decide (r < 0))) = 2 ∧ ty (tB (decide (r < 0))) = decide (r < 0) := by cases decide (r < 0) <;> decide
      rw [hk.1, hk.2]
      refine PC_of_PW Tryz.func7 rfl rfl (rs := _) rfl (Nat.le_of_ble_eq_true (by kernel_rfl)) ?_
      (repeat (first | ((first | refine qA ?_ | refine qB ?_ | refine xN ?_ | refine xE ?_ | refine xT ?_); try show PW _ _ _ _ _ _) | refine ro1 tabOk rfl rfl ?_ | refine ro2 tabOk rfl rfl ?_ | refine ro3 tabOk rfl rfl ?_ | refine rd1 tabOk rfl rfl ?_ | refine rd2 tabOk rfl rfl ?_ | refine rd3 tabOk rfl rfl ?_ | ((first | apply oR rfl rfl | (apply dF rfl rfl rfl; intro _) | (apply dP rfl rfl rfl; intro _) | (apply dL rfl rfl rfl; intro _) | apply dC rfl rfl rfl rfl); (focus (first | exact cqP hd | exact cqP hb | exact cJ | exact mG | exact bT | exact nD)); try exact kQ) | refine xS ?_ | refine xR ?_ | refine qxa rfl rfl mixed ?_ | refine qxb rfl rfl mixed ?_ | refine qxi rfl rfl rfl rfl rfl mixed ?_ | refine qxc rfl rfl mixed ?_ | refine qxd rfl rfl mixed ?_ | refine xB ?_ | refine xt rfl ?_ | refine xf rfl ?_))
      (first | refine Ret_int (vC vT vN) rfl ?_ | refine Ret_bool (vC vT vN) rfl ?_ | refine Ret_g (vC vT vN) rfl ?_ | refine Ret_int (vC (vA (AG rfl) (SZ rfl) rfl rfl (lB rfl)) vN) rfl ?_ | refine Ret_bool (vC (vA (AG rfl) (SZ rfl) rfl rfl (lB rfl)) vN) rfl ?_ | refine Ret_g (vC (vA (AG rfl) (SZ rfl) rfl rfl (lB rfl)) vN) rfl ?_)
      rfl
    · obtain ⟨w, hw0, hd⟩ := dcmp_bad hw
      have hn := null_pc
      have hl : lessV (.mk 3 y c e t l) (.mk 3 y' c' e' t' l') = 0 := by rw [lessV_eq, if_pos ⟨rfl, rfl⟩, if_pos (by omega)]
      rw [hl]
      clear hl
      refine PC_of_PW Tryz.func7 rfl rfl (rs := _) rfl (Nat.le_of_ble_eq_true (by kernel_rfl)) ?_
      (repeat' (first | (first | ((first | refine qA ?_ | refine qB ?_ | refine xN ?_ | refine xE ?_ | refine xT ?_); try show PW _ _ _ _ _ _) | refine ro1 tabOk rfl rfl ?_ | refine ro2 tabOk rfl rfl ?_ | refine ro3 tabOk rfl rfl ?_ | refine rd1 tabOk rfl rfl ?_ | refine rd2 tabOk rfl rfl ?_ | refine rd3 tabOk rfl rfl ?_ | ((first | apply oR rfl rfl | (apply dF rfl rfl rfl; intro _) | (apply dP rfl rfl rfl; intro _) | (apply dL rfl rfl rfl; intro _) | apply dC rfl rfl rfl rfl); (focus (first | exact cqP hd | exact cqP hn | exact cJ | exact mG | exact bT | exact nD)); try exact kQ) | refine xU [5] rfl ?_ | refine xR ?_ | refine qxa rfl rfl mixed ?_ | refine qxb rfl rfl mixed ?_ | refine qxi rfl rfl rfl rfl rfl mixed ?_ | refine qxc rfl rfl mixed ?_ | refine qxd rfl rfl mixed ?_ | refine xB ?_ | refine xt rfl ?_ | refine xf rfl ?_) | (refine POps_split rfl rfl (fun h => ?_) (fun h => ?_) <;> fail_if_success (first | (have : true = true := h) | (have : false = false := h))) | (refine POpsD_split rfl rfl (fun h => ?_) (fun h => ?_) <;> fail_if_success (first | (have : true = true := h) | (have : false = false := h))) | refine PW_cond rfl (fun h => ?_) (fun h => ?_)))
      all_goals (first | (exfalso; first | (simp_all; done) | (simp_all; omega)) | ((first | refine Ret_int (vC vT vN) rfl ?_ | refine Ret_bool (vC vT vN) rfl ?_ | refine Ret_g (vC vT vN) rfl ?_ | refine Ret_int (vC (vA (AG rfl) (SZ rfl) rfl rfl (lB rfl)) vN) rfl ?_ | refine Ret_bool (vC (vA (AG rfl) (SZ rfl) rfl rfl (lB rfl)) vN) rfl ?_ | refine Ret_g (vC (vA (AG rfl) (SZ rfl) rfl rfl (lB rfl)) vN) rfl ?_); rfl))
  · by_cases h4 : k = 4 ∧ k' = 4
    · obtain ⟨rfl, rfl⟩ := h4
      have hl : lessV (.mk 4 y c e t l) (.mk 4 y' c' e' t' l') = tB (Op.bytesLess t.toList t'.toList) := by simp [lessV]
      rw [hl]
      have hb := bool_pc (Op.bytesLess t.toList t'.toList)
      have hk : tk (tB (Op.bytesLess t.toList t'.toList)) = 2 ∧ ty (tB (Op.bytesLess t.toList t'.toList)) = Op.bytesLess t.toList t'.toList := by cases Op.bytesLess t.toList t'.toList <;> decide
      rw [hk.1, hk.2]
      refine PC_of_PW Tryz.func7 rfl rfl (rs := _) rfl (Nat.le_of_ble_eq_true (by kernel_rfl)) ?_
      (repeat (first | ((first | refine qA ?_ | refine qB ?_ | refine xN ?_ | refine xE ?_ | refine xT ?_); try show PW _ _ _ _ _ _) | refine ro1 tabOk rfl rfl ?_ | refine ro2 tabOk rfl rfl ?_ | refine ro3 tabOk rfl rfl ?_ | refine rd1 tabOk rfl rfl ?_ | refine rd2 tabOk rfl rfl ?_ | refine rd3 tabOk rfl rfl ?_ | ((first | apply oR rfl rfl | (apply dF rfl rfl rfl; intro _) | (apply dP rfl rfl rfl; intro _) | (apply dL rfl rfl rfl; intro _) | apply dC rfl rfl rfl rfl); (focus (first | exact cqP hb | exact cJ | exact mG | exact bT | exact nD)); try exact kQ) | refine xS ?_ | refine xR ?_ | refine qxa rfl rfl mixed ?_ | refine qxb rfl rfl mixed ?_ | refine qxi rfl rfl rfl rfl rfl mixed ?_ | refine qxc rfl rfl mixed ?_ | refine qxd rfl rfl mixed ?_ | refine xB ?_ | refine xt rfl ?_ | refine xf rfl ?_))
      (first | refine Ret_int (vC vT vN) rfl ?_ | refine Ret_bool (vC vT vN) rfl ?_ | refine Ret_g (vC vT vN) rfl ?_ | refine Ret_int (vC (vA (AG rfl) (SZ rfl) rfl rfl (lB rfl)) vN) rfl ?_ | refine Ret_bool (vC (vA (AG rfl) (SZ rfl) rfl rfl (lB rfl)) vN) rfl ?_ | refine Ret_g (vC (vA (AG rfl) (SZ rfl) rfl rfl (lB rfl)) vN) rfl ?_)
      rfl
    · have hl : lessV (.mk k y c e t l) (.mk k' y' c' e' t' l') = 0 := by rw [lessV_eq, if_neg h3, if_neg h4]
      rw [hl]
      have hn := null_pc
      clear hl
      refine PC_of_PW Tryz.func7 rfl rfl (rs := _) rfl (Nat.le_of_ble_eq_true (by kernel_rfl)) ?_
      (repeat' (first | (first | ((first | refine qA ?_ | refine qB ?_ | refine xN ?_ | refine xE ?_ | refine xT ?_); try show PW _ _ _ _ _ _) | refine ro1 tabOk rfl rfl ?_ | refine ro2 tabOk rfl rfl ?_ | refine ro3 tabOk rfl rfl ?_ | refine rd1 tabOk rfl rfl ?_ | refine rd2 tabOk rfl rfl ?_ | refine rd3 tabOk rfl rfl ?_ | ((first | apply oR rfl rfl | (apply dF rfl rfl rfl; intro _) | (apply dP rfl rfl rfl; intro _) | (apply dL rfl rfl rfl; intro _) | apply dC rfl rfl rfl rfl); (focus (first | exact cqP hn | exact cJ | exact mG | exact bT | exact nD)); try exact kQ) | refine xU [2, 7] rfl ?_ | refine xR ?_ | refine qxa rfl rfl mixed ?_ | refine qxb rfl rfl mixed ?_ | refine qxi rfl rfl rfl rfl rfl mixed ?_ | refine qxc rfl rfl mixed ?_ | refine qxd rfl rfl mixed ?_ | refine xB ?_ | refine xt rfl ?_ | refine xf rfl ?_) | (refine POps_split rfl rfl (fun h => ?_) (fun h => ?_) <;> fail_if_success (first | (have : true = true := h) | (have : false = false := h))) | (refine POpsD_split rfl rfl (fun h => ?_) (fun h => ?_) <;> fail_if_success (first | (have : true = true := h) | (have : false = false := h))) | refine PW_cond rfl (fun h => ?_) (fun h => ?_)))
      all_goals (first | (exfalso; first | (simp_all; done) | (simp_all; omega)) | ((first | refine Ret_int (vC vT vN) rfl ?_ | refine Ret_bool (vC vT vN) rfl ?_ | refine Ret_g (vC vT vN) rfl ?_ | refine Ret_int (vC (vA (AG rfl) (SZ rfl) rfl rfl (lB rfl)) vN) rfl ?_ | refine Ret_bool (vC (vA (AG rfl) (SZ rfl) rfl rfl (lB rfl)) vN) rfl ?_ | refine Ret_g (vC (vA (AG rfl) (SZ rfl) rfl rfl (lB rfl)) vN) rfl ?_); rfl))
end Go.Proofs.YtdicineiaifahaaGreatDoor


namespace Go.Proofs.YtdicineiaifahaaGreatDoor
open Go Go.Pure
attribute [local irreducible] PW POps POpsD PO PC Cond

theorem tB_tk (p : Bool) : tk (tB p) = 2 ∧ ty (tB p) = p := by cases p <;> decide

set_option maxRecDepth 100000 in
set_option maxHeartbeats 8000000 in
/-- verdictlaw2.LogicOrder. -/
theorem order_law {V : ByteArray → Bool} (hV : ∀ s : ByteArray, s.size ≤ maxLen → PC Tryz.prog 30 [.g (.str s)] ⟨[], [], []⟩ (.g (.bool (V s))) ⟨[], [], []⟩) (a b c : VVal) (ha : gsz a.g) (hb : gsz b.g) (hc : gsz c.g) :
    PC Tryz.prog 3 [.g a.g, .g b.g, .g c.g] ⟨[], [], []⟩ (.g (.bool true)) ⟨[], [], []⟩ := by
  have w1 := wrong_pc hV a ha
  have w2 := wrong_pc hV b hb
  have w3 := wrong_pc hV c hc
  obtain ⟨k, y, c0, e, t, l⟩ := a
  obtain ⟨k', y', c', e', t', l'⟩ := b
  obtain ⟨k2, y2, c2, e2, t2, l2⟩ := c
  by_cases hok : ((lookV V (.mk k y c0 e t l) 0 1).2 = 0 ∧ (lookV V (.mk k' y' c' e' t' l') 0 1).2 = 0 ∧ (lookV V (.mk k2 y2 c2 e2 t2 l2) 0 1).2 = 0) ∧ k = k' ∧ k' = k2 ∧ (k = 3 ∨ k = 4)
  · obtain ⟨⟨h1, h2, h3⟩, rfl, rfl, hk⟩ := hok
    have l1 := less_pc (.mk k y c0 e t l) (.mk k y' c' e' t' l')
    have l2' := less_pc (.mk k y' c' e' t' l') (.mk k y c0 e t l)
    have l3 := less_pc (.mk k y' c' e' t' l') (.mk k y2 c2 e2 t2 l2)
    have l4 := less_pc (.mk k y c0 e t l) (.mk k y2 c2 e2 t2 l2)
    have l5 := equal_pc (.mk k y c0 e t l) (.mk k y' c' e' t' l') ha hb
    obtain ⟨p, q, r, e1, e2', e3, hpqr⟩ := order_one hk h1 h2
    have htr := order_trans (V := V) hk h1 h2 h3
    have hty : ∀ n : Int, ty n = true → n = 1 ∨ ¬ (n = 0 ∨ n = 1 ∨ n = -1) := by
      intro n hn
      by_cases h : n = 0 ∨ n = 1 ∨ n = -1
      · rcases h with rfl | rfl | rfl
        · simp [ty] at hn
        · exact .inl rfl
        · exact absurd hn (by decide)
      · exact .inr h
    rw [h1] at w1
    rw [h2] at w2
    rw [h3] at w3
    rw [e1, (tB_tk p).1, (tB_tk p).2] at l1
    rw [e2', (tB_tk q).1, (tB_tk q).2] at l2'
    rw [e3, (tB_tk r).1, (tB_tk r).2] at l5
    rw [e1] at htr
    have hfin : p = true → ty (lessV (.mk k y' c' e' t' l') (.mk k y2 c2 e2 t2 l2)) = true → ty (lessV (.mk k y c0 e t l) (.mk k y2 c2 e2 t2 l2)) = true := by
      intro hp hbc
      have := htr (by rw [hp]; rfl)
      rcases hty _ hbc with h | h
      · rw [this h]; rfl
      · exact absurd (lessV_rng _ _) h
    generalize ty (lessV (.mk k y' c' e' t' l') (.mk k y2 c2 e2 t2 l2)) = u at l3 hfin
    generalize ty (lessV (.mk k y c0 e t l) (.mk k y2 c2 e2 t2 l2)) = v at l4 hfin
    generalize tk (lessV (.mk k y' c' e' t' l') (.mk k y2 c2 e2 t2 l2)) = u1 at l3
    generalize tk (lessV (.mk k y c0 e t l) (.mk k y2 c2 e2 t2 l2)) = v1 at l4
    clear htr hty e1 e2' e3 hV h1 h2 h3 ha hb hc
    have hk' : (k != 3) = false ∨ ((k != 3) = true ∧ (k != 4) = false) := by
      rcases hk with rfl | rfl
      · exact .inl (by decide)
      · exact .inr ⟨by decide, by decide⟩
    rcases hk with rfl | rfl <;> cases p <;> cases q <;> cases r <;> first | (exfalso; revert hpqr; decide) | skip
    all_goals
      refine PC_of_PW Tryz.func3 rfl rfl (rs := _) rfl (Nat.le_of_ble_eq_true (by kernel_rfl)) ?_
      (repeat' (first | (first | ((first | refine qA ?_ | refine qB ?_ | refine xN ?_ | refine xE ?_ | refine xT ?_); try show PW _ _ _ _ _ _) | refine ro1 tabOk rfl rfl ?_ | refine ro2 tabOk rfl rfl ?_ | refine ro3 tabOk rfl rfl ?_ | refine rd1 tabOk rfl rfl ?_ | refine rd2 tabOk rfl rfl ?_ | refine rd3 tabOk rfl rfl ?_ | ((first | apply oR rfl rfl | (apply dF rfl rfl rfl; intro _) | (apply dP rfl rfl rfl; intro _) | (apply dL rfl rfl rfl; intro _) | apply dC rfl rfl rfl rfl); (focus (first | exact cqP alive_pc | exact cqP w1 | exact cqP w2 | exact cqP w3 | exact cqP l1 | exact cqP l2' | exact cqP l3 | exact cqP l4 | exact cqP l5 | exact cJ | exact mG | exact bT | exact nD)); try exact kQ) | refine xU [7] rfl ?_ | refine xR ?_ | refine qxa rfl rfl mixed ?_ | refine qxb rfl rfl mixed ?_ | refine qxi rfl rfl rfl rfl rfl mixed ?_ | refine qxc rfl rfl mixed ?_ | refine qxd rfl rfl mixed ?_ | refine xB ?_ | refine xt rfl ?_ | refine xf rfl ?_) | (refine POps_split rfl rfl (fun h => ?_) (fun h => ?_) <;> fail_if_success (first | (have : true = true := h) | (have : false = false := h))) | (refine POpsD_split rfl rfl (fun h => ?_) (fun h => ?_) <;> fail_if_success (first | (have : true = true := h) | (have : false = false := h))) | refine PW_cond rfl (fun h => ?_) (fun h => ?_)))
      all_goals (first | (exfalso; simp_all; done) | skip)
      (repeat (first | ((first | refine qA ?_ | refine qB ?_ | refine xN ?_ | refine xE ?_ | refine xT ?_); try show PW _ _ _ _ _ _) | refine ro1 tabOk rfl rfl ?_ | refine ro2 tabOk rfl rfl ?_ | refine ro3 tabOk rfl rfl ?_ | refine rd1 tabOk rfl rfl ?_ | refine rd2 tabOk rfl rfl ?_ | refine rd3 tabOk rfl rfl ?_ | ((first | apply oR rfl rfl | (apply dF rfl rfl rfl; intro _) | (apply dP rfl rfl rfl; intro _) | (apply dL rfl rfl rfl; intro _) | apply dC rfl rfl rfl rfl); (focus (first | exact cqP l3 | exact cJ | exact mG | exact bT | exact nD)); try exact kQ) | refine xS ?_ | refine xR ?_ | refine qxa rfl rfl mixed ?_ | refine qxb rfl rfl mixed ?_ | refine qxi rfl rfl rfl rfl rfl mixed ?_ | refine qxc rfl rfl mixed ?_ | refine qxd rfl rfl mixed ?_ | refine xB ?_ | refine xt rfl ?_ | refine xf rfl ?_))
      refine PW_loop_n 4 ?_
      (repeat' (first | (first | ((first | refine qA ?_ | refine qB ?_ | refine xN ?_ | refine xE ?_ | refine xT ?_); try show PW _ _ _ _ _ _) | refine ro1 tabOk rfl rfl ?_ | refine ro2 tabOk rfl rfl ?_ | refine ro3 tabOk rfl rfl ?_ | refine rd1 tabOk rfl rfl ?_ | refine rd2 tabOk rfl rfl ?_ | refine rd3 tabOk rfl rfl ?_ | ((first | apply oR rfl rfl | (apply dF rfl rfl rfl; intro _) | (apply dP rfl rfl rfl; intro _) | (apply dL rfl rfl rfl; intro _) | apply dC rfl rfl rfl rfl); (focus (first | exact iA rfl (EL rfl) (SZ rfl) rfl rfl (by decide) rfl rfl | exact cJ | exact mG | exact bT | exact nD)); try exact kQ) | refine xS ?_ | refine xR ?_ | refine qxa rfl rfl mixed ?_ | refine qxb rfl rfl mixed ?_ | refine qxi rfl rfl rfl rfl rfl mixed ?_ | refine qxc rfl rfl mixed ?_ | refine qxd rfl rfl mixed ?_ | refine xB ?_ | refine xt rfl ?_ | refine xf rfl ?_) | (refine POps_split rfl rfl (fun h => ?_) (fun h => ?_) <;> fail_if_success (first | (have : true = true := h) | (have : false = false := h))) | (refine POpsD_split rfl rfl (fun h => ?_) (fun h => ?_) <;> fail_if_success (first | (have : true = true := h) | (have : false = false := h))) | refine PW_cond rfl (fun h => ?_) (fun h => ?_)))
      all_goals (first | (exfalso; simp_all; done) | ((first | refine Ret_int (vC vT vN) rfl ?_ | refine Ret_bool (vC vT vN) rfl ?_ | refine Ret_g (vC vT vN) rfl ?_ | refine Ret_int (vC (vA (AG rfl) (SZ rfl) rfl rfl (lB rfl)) vN) rfl ?_ | refine Ret_bool (vC (vA (AG rfl) (SZ rfl) rfl rfl (lB rfl)) vN) rfl ?_ | refine Ret_g (vC (vA (AG rfl) (SZ rfl) rfl rfl (lB rfl)) vN) rfl ?_); first | rfl | (simp_all; done)))
  · generalize (lookV V (.mk k y c0 e t l) 0 1).2 = x1 at w1 hok
    generalize (lookV V (.mk k' y' c' e' t' l') 0 1).2 = x2 at w2 hok
    generalize (lookV V (.mk k2 y2 c2 e2 t2 l2) 0 1).2 = x3 at w3 hok
    refine PC_of_PW Tryz.func3 rfl rfl (rs := _) rfl (Nat.le_of_ble_eq_true (by kernel_rfl)) ?_
    (repeat' (first | (first | ((first | refine qA ?_ | refine qB ?_ | refine xN ?_ | refine xE ?_ | refine xT ?_); try show PW _ _ _ _ _ _) | refine ro1 tabOk rfl rfl ?_ | refine ro2 tabOk rfl rfl ?_ | refine ro3 tabOk rfl rfl ?_ | refine rd1 tabOk rfl rfl ?_ | refine rd2 tabOk rfl rfl ?_ | refine rd3 tabOk rfl rfl ?_ | ((first | apply oR rfl rfl | (apply dF rfl rfl rfl; intro _) | (apply dP rfl rfl rfl; intro _) | (apply dL rfl rfl rfl; intro _) | apply dC rfl rfl rfl rfl); (focus (first | exact cqP alive_pc | exact cqP w1 | exact cqP w2 | exact cqP w3 | exact cJ | exact mG | exact bT | exact nD)); try exact kQ) | refine xU [5] rfl ?_ | refine xR ?_ | refine qxa rfl rfl mixed ?_ | refine qxb rfl rfl mixed ?_ | refine qxi rfl rfl rfl rfl rfl mixed ?_ | refine qxc rfl rfl mixed ?_ | refine qxd rfl rfl mixed ?_ | refine xB ?_ | refine xt rfl ?_ | refine xf rfl ?_) | (refine POps_split rfl rfl (fun h => ?_) (fun h => ?_) <;> fail_if_success (first | (have : true = true := h) | (have : false = false := h))) | (refine POpsD_split rfl rfl (fun h => ?_) (fun h => ?_) <;> fail_if_success (first | (have : true = true := h) | (have : false = false := h))) | refine PW_cond rfl (fun h => ?_) (fun h => ?_)))
    all_goals (first | (exfalso; first | (simp_all; done) | (simp_all; omega)) | ((first | refine Ret_int (vC vT vN) rfl ?_ | refine Ret_bool (vC vT vN) rfl ?_ | refine Ret_g (vC vT vN) rfl ?_ | refine Ret_int (vC (vA (AG rfl) (SZ rfl) rfl rfl (lB rfl)) vN) rfl ?_ | refine Ret_bool (vC (vA (AG rfl) (SZ rfl) rfl rfl (lB rfl)) vN) rfl ?_ | refine Ret_g (vC (vA (AG rfl) (SZ rfl) rfl rfl (lB rfl)) vN) rfl ?_); rfl))
end Go.Proofs.YtdicineiaifahaaGreatDoor


namespace Go.Proofs.YtdicineiaifahaaGreatDoor
open Go Go.Pure Go.Shelf
def layValid_ren : Go.Shelf.Ren := ⟨fun | 196 => 30 | 259 => 38 | n => n, fun | 9 => 9 | 4 => 4 | 3 => 3 | 5 => 5 | 12 => 12 | 119 => 60 | 0 => 0 | 46 => 64 | 139 => 63 | 138 => 62 | 53 => 89 | n => n, fun | 3 => 0 | 4 => 1 | n => n⟩
theorem layValid : Go.Proofs.Lays.n196 Tryz.prog layValid_ren := {
  mixed := by kernel_rfl
  f196 := Tryz.func30.trans (congrArg some (by kernel_rfl))
  f259 := Tryz.func38.trans (congrArg some (by kernel_rfl))
  t0 := Tryz.underlying0
  a0 := Tryz.isAgg0
  z0 := Tryz.sizeOf0
  v0 := Tryz.zeroValue0
  t3 := Tryz.underlying3
  a3 := Tryz.isAgg3
  z3 := Tryz.sizeOf3
  v3 := Tryz.zeroValue3
  t4 := Tryz.underlying4
  a4 := Tryz.isAgg4
  z4 := Tryz.sizeOf4
  v4 := Tryz.zeroValue4
  t5 := Tryz.underlying5
  a5 := Tryz.isAgg5
  z5 := Tryz.sizeOf5
  v5 := Tryz.zeroValue5
  t9 := Tryz.underlying9
  a9 := Tryz.isAgg9
  z9 := Tryz.sizeOf9
  v9 := Tryz.zeroValue9
  t12 := Tryz.underlying12
  a12 := Tryz.isAgg12
  z12 := Tryz.sizeOf12
  v12 := Tryz.zeroValue12
  t46 := Tryz.underlying64
  a46 := Tryz.isAgg64
  z46 := Tryz.sizeOf64
  v46 := Tryz.zeroValue64
  t53 := Tryz.underlying89
  a53 := Tryz.isAgg89
  z53 := Tryz.sizeOf89
  v53 := Tryz.zeroValue89
  t119 := Tryz.underlying60
  a119 := Tryz.isAgg60
  z119 := Tryz.sizeOf60
  t138 := Tryz.underlying62
  a138 := Tryz.isAgg62
  z138 := Tryz.sizeOf62
  v138 := Tryz.zeroValue62
  t139 := Tryz.underlying63
  a139 := Tryz.isAgg63
  z139 := Tryz.sizeOf63
  v139 := Tryz.zeroValue63
  g3 := by kernel_rfl
  g4 := by kernel_rfl }
end Go.Proofs.YtdicineiaifahaaGreatDoor


namespace Go.Proofs.YtdicineiaifahaaGreatDoor
open Go Go.Pure Go.Shelf Go.Lib

theorem own : ownKnob Tryz.prog.godebug = none := by kernel_rfl
theorem laidOut : laidOutB Tryz.prog = true := by kernel_rfl

/-- A variable that is one whole number. -/
theorem var_int {l : List (String × DataW Unit)} {W : World} {name : String} {g t : Nat} {k : IntKind} {z : Int} (h : laidMet Tryz.prog l W) (hm : (name, DataW.lit (.int k z)) ∈ l) (hg : Tryz.prog.globalNamed name = some g) (ht : (Tryz.prog.globals[g]?).map (·.type) = some t) (hu : Tryz.prog.underlying t = some (.int k)) :
    W.cell? ⟨g, 0, none⟩ = some (.int k z) := by
  obtain ⟨g', t', cs, fuel, p, h1, h2, h3, h4⟩ := Lib.laidMet.reads h hm
  obtain rfl := Option.some.inj (hg.symm.trans h1)
  obtain rfl := Option.some.inj (ht.symm.trans h2)
  obtain ⟨n, e1, e2, _⟩ := DataW.trod_int hu h4
  cases e2
  rw [World.var?_cell hg h3 0, ← Array.getElem?_toList, e1]
  rfl

theorem tabs_of_gl {c : Ctx} (h : GL c) : Lib.Utf8Tabs 0 1 c.w := by
  obtain ⟨⟨β, _, h⟩, _⟩ := h
  have h0 := h (0, (List.range 256).map fun c => Value.int .u8 (Lib.firstT c)) (by simp [gfacts])
  have h1 := h (1, (List.range 32).map fun k => Value.int .u8 (if k % 2 = 0 then Lib.accLo (k / 2) else Lib.accHi (k / 2))) (by simp [gfacts])
  refine ⟨fun k hk => (h0 k _ ?_).1, fun i hi => ⟨(h1 (2 * i) _ ?_).1, (h1 (2 * i + 1) _ ?_).1⟩⟩
  · simp [hk]
  · have e1 : (2 * i) % 2 = 0 := by omega
    have e2 : (2 * i) / 2 = i := by omega
    simp [show 2 * i < 32 by omega]
  · have e1 : (2 * i + 1) % 2 = 1 := by omega
    have e2 : (2 * i + 1) / 2 = i := by omega
    simp [show 2 * i + 1 < 32 by omega, e1, e2]
theorem one_cell {W : World} {g : Nat} {v : Value} (h : W.cell? ⟨g, 0, none⟩ = some v) : ∀ (k : Nat) (u : Value), [v][k]? = some u → W.cell? ⟨g, k, none⟩ = some u := by
  intro k u hu
  cases k with
  | zero => simp at hu; subst hu; exact h
  | succ k => simp at hu
theorem gl_of {W : World} (h1 : W.cell? ⟨2, 0, none⟩ = some (.int .i64 12)) (h2 : W.cell? ⟨3, 0, none⟩ = some (.int .i64 80)) (h3 : W.cell? ⟨4, 0, none⟩ = some (.int .i64 40)) (h4 : W.cell? ⟨8, 0, none⟩ = some (.int .i64 40))
    (h : Lib.Utf8Tabs 0 1 W) : (∃ β, gok β ∧ ∀ x ∈ gfacts β, ∀ (k : Nat) (v : Value), x.2[k]? = some v → W.cell? ⟨x.1, k, none⟩ = some v) ∧ ∀ w' : World, (∀ (a : Addr) (v : Value), a.spot = none → W.cell? a = some v → w'.cell? a = some v) → gq w' := by
  refine ⟨⟨fun _ => undef, trivial, ?_⟩, fun _ _ => trivial⟩
  intro x hx
  simp only [gfacts, List.mem_cons, List.not_mem_nil, or_false] at hx
  rcases hx with rfl | rfl | rfl | rfl | rfl | rfl
  · exact one_cell h1
  · exact one_cell h2
  · exact one_cell h3
  · exact one_cell h4
  · intro k v hv
    simp only [List.getElem?_map, Option.map_eq_some_iff] at hv
    obtain ⟨c, hc, rfl⟩ := hv
    obtain ⟨hlt, rfl⟩ := List.getElem?_eq_some_iff.1 hc
    simp only [List.length_range] at hlt
    simpa using h.1 k hlt
  · intro k v hv
    simp only [List.getElem?_map, Option.map_eq_some_iff] at hv
    obtain ⟨c, hc, rfl⟩ := hv
    obtain ⟨hlt, rfl⟩ := List.getElem?_eq_some_iff.1 hc
    simp only [List.length_range] at hlt
    have h2 := h.2 (k / 2) (by omega)
    simp only [List.getElem_range]
    by_cases he : k % 2 = 0
    · rw [if_pos he, ← h2.1, show 2 * (k / 2) = k by omega]
    · rw [if_neg he, ← h2.2, show 2 * (k / 2) + 1 = k by omega]
theorem gl_of_laid {l : List (String × DataW Unit)} {W : World} (hL : laidMet Tryz.prog l W) (m1 : ("math/big.basicSqrThreshold", DataW.lit (.int .i64 12)) ∈ l) (m2 : ("math/big.karatsubaSqrThreshold", DataW.lit (.int .i64 80)) ∈ l) (m3 : ("math/big.karatsubaThreshold", DataW.lit (.int .i64 40)) ∈ l) (m4 : ("math/big.divRecursiveThreshold", DataW.lit (.int .i64 40)) ∈ l)
    (m5 : ("unicode/utf8.first", Lib.firstData) ∈ l) (m6 : ("unicode/utf8.acceptRanges", Lib.acceptData) ∈ l) : (∃ β, gok β ∧ ∀ x ∈ gfacts β, ∀ (k : Nat) (v : Value), x.2[k]? = some v → W.cell? ⟨x.1, k, none⟩ = some v) ∧ ∀ w' : World, (∀ (a : Addr) (v : Value), a.spot = none → W.cell? a = some v → w'.cell? a = some v) → gq w' :=
  gl_of (var_int (t := 3) hL m1 (by kernel_rfl) (by kernel_rfl) Tryz.underlying3) (var_int (t := 3) hL m2 (by kernel_rfl) (by kernel_rfl) Tryz.underlying3) (var_int (t := 3) hL m3 (by kernel_rfl) (by kernel_rfl) Tryz.underlying3) (var_int (t := 3) hL m4 (by kernel_rfl) (by kernel_rfl) Tryz.underlying3)
    (utf8Tabs_of_readsT (U8Types.of196 layValid) ⟨by kernel_rfl, by kernel_rfl, by kernel_rfl, by kernel_rfl, by kernel_rfl, by kernel_rfl, by kernel_rfl⟩ (Lib.laidMet.reads hL m5) (Lib.laidMet.reads hL m6))

theorem valid_pc (s : ByteArray) (hs : s.size ≤ maxLen) : PC Tryz.prog 30 [.g (.str s)] ⟨[], [], []⟩ (.g (.bool (Lib.validD s.data.toList))) ⟨[], [], []⟩ := by
  intro c vs hr ha
  obtain ⟨hl, hv⟩ := ha
  obtain ⟨v, rfl⟩ : ∃ v, vs = #[v] := by
    obtain ⟨l⟩ := vs
    match l, hl with
    | [v], _ => exact ⟨v, rfl⟩
  have h0 := hv 0 _ v rfl rfl
  cases h0 with
  | g _ _ hg =>
  cases hg
  have hT := tabs_of_gl hr.gl
  refine (Any.utf8_ValidString layValid s c.w (by unfold maxLen at hs; omega) hT).mono ?_
  rintro e w' ⟨rfl, hb⟩
  obtain ⟨r1, r2⟩ := hr.grow ⟨hb.os, hb.tape, hb.output, hb.size, hb.block⟩
  exact ⟨_, ⟨c.σ, c.τ, c.μ, c.hid, w'⟩, rfl, rfl, r1, r2, .g _ _ (.bool _)⟩
theorem val_in {g : GV} (h : GT Tryz.prog 26 g) : ∃ v : VVal, g = v.g :=
  val_inv (ti := 3) (tj := 2) (tb := 4) (ts := 9) (TD := 23) (LV := 24) Tryz.underlying3 Tryz.underlying2 Tryz.underlying4 Tryz.underlying9 ⟨_, Tryz.underlying26, rfl⟩ ⟨_, Tryz.underlying23, rfl⟩ Tryz.underlying24 _ g (Nat.le_refl _) h
end Go.Proofs.YtdicineiaifahaaGreatDoor


namespace Go.Proofs.YtdicineiaifahaaGreatDoor
open Go Go.Pure Go.Shelf Go.Lib Go.ChangeShapes Go.WideShapes Go.ChangeAt Go.RowKit Go.Clock

theorem accept_eq : (Rows.laid_unicode_utf8_acceptRanges : DataW Unit) = Lib.acceptData := by kernel_rfl
theorem first_eq : (Rows.laid_unicode_utf8_first : DataW Unit) = Lib.firstData := Pinned.utf8First_eq

set_option maxRecDepth 100000 in
theorem law_here (H : Type) (enc : TypeId × Value → H) (W : World) (base : Nat) (args : Array Value) (ds gs : List (DataW H)) (before : List MemPlace)
    (hval : ∀ (j : Nat) t v, Tryz.f3.params[j]? = some t → args[j]? = some v → Value.okWide Tryz.prog W .any base t v)
    (hW : DataW.Whole enc Tryz.prog Tryz.f3.params.toList Rows.logicOrderSpec.vars false W args.toList ds gs before) (hL : laidMet Tryz.prog Rows.logicOrderRow.laid W) :
    Calls Tryz.prog 3 args W fun e W' => ∃ v, e = .returned v ∧ Rows.logicOrderSpec.post enc Tryz.prog Tryz.f3 false true false false W args v W' ∧ W'.os = W.os := by
  have hL' : laidMet Tryz.prog Rows.logicOrderRow.laid W := hL
  unfold Rows.logicOrderRow at hL
  dsimp only at hL
  rw [accept_eq, first_eq] at hL
  refine law_calls_os (s := Rows.logicOrderSpec) (set := [3, 4, 2, 9, 24, 23, 26]) (B := 4) (by kernel_rfl) (by kernel_rfl) laidOut rfl rfl Tryz.underlying4 (fun ds hl => ?_) W base args ds gs before hval hW (fun xs hl hl2 hD hT => ?_) (gl_of_laid hL (by repeat (first | exact .head _ | apply List.Mem.tail)) (by repeat (first | exact .head _ | apply List.Mem.tail)) (by repeat (first | exact .head _ | apply List.Mem.tail)) (by repeat (first | exact .head _ | apply List.Mem.tail)) (by repeat (first | exact .head _ | apply List.Mem.tail)) (by repeat (first | exact .head _ | apply List.Mem.tail)))
  · match ds, hl with
    | [d0, d1, d2], _ => rfl
  · match xs, hl with
    | [a0, a1, a2], _ =>
      have ha := (hT 0 26 _ rfl rfl).gsz
      have hb := (hT 1 26 _ rfl rfl).gsz
      have hc := (hT 2 26 _ rfl rfl).gsz
      obtain ⟨a, rfl⟩ := val_in (hT 0 26 _ rfl rfl)
      obtain ⟨b, rfl⟩ := val_in (hT 1 26 _ rfl rfl)
      obtain ⟨c, rfl⟩ := val_in (hT 2 26 _ rfl rfl)
      exact order_law valid_pc a b c ha hb hc
def arg0 : Array Value := #[.agg #[.int .i64 0, .bool false, .int .i64 0, .int .i64 0, .string ⟨#[]⟩, .slice none 0 0], .agg #[.int .i64 0, .bool false, .int .i64 0, .int .i64 0, .string ⟨#[]⟩, .slice none 0 0], .agg #[.int .i64 0, .bool false, .int .i64 0, .int .i64 0, .string ⟨#[]⟩, .slice none 0 0]]
set_option maxRecDepth 100000 in
theorem logicOrder_lifted (os : Os) (started : os.Started) (H : Type) (enc : TypeId × Value → H) (F : Stop.Interp) :
    ReturnsInHanded { calm := true } Tryz.checked os 3 .any (fun w args => (Rows.logicOrderSpec.pre enc Tryz.prog Tryz.f3 [] false w args ∧ laidMetH Tryz.prog Rows.logicOrderRow.laid w) ∧ sizedMet enc Tryz.prog Tryz.f3 (OpenSpec.ofChange Rows.logicOrderSpec) false w args)
      ((OpenSpec.ofChange Rows.logicOrderSpec).postWith enc Tryz.prog Tryz.f3 F (outsideKept [.timePasses]) false true false) := by
  refine returns_of_change (C := Tryz.checked) (X := fun w _ => laidMetH Tryz.prog Rows.logicOrderRow.laid w) (fun _ _ _ hh h => h.of_heap hh) own started (by kernel_rfl) Tryz.func3
    (witness_at (enc := enc) (C := Tryz.checked) (X := fun w _ => laidMetH Tryz.prog Rows.logicOrderRow.laid w) (World.laidAll Tryz.prog os Rows.logicOrderRow.laid) arg0 8 (World.laidAll_os _ _ _) (World.shaped_of_ZipB (by kernel_rfl) (by kernel_rfl)) (by kernel_rfl) (by kernel_rfl) (by kernel_rfl)
      (by rw [MakeChecks.laidMetH_plain _ _ _ (by kernel_rfl)]; exact laidMet_laidAll _ (by kernel_rfl) (by kernel_rfl))) ?_
  intro W base args ds gs before hval hW _ _ hL _
  rw [MakeChecks.laidMetH_plain _ _ _ (by kernel_rfl)] at hL
  refine (law_here H enc W base args ds gs before hval hW hL).mono fun e W' ⟨v, he, hp, hos⟩ => ⟨v, he, ?_, hos ▸ Later.refl _⟩
  rw [← hos]
  exact hp

end Go.Proofs.YtdicineiaifahaaGreatDoor

