/- What the program's functions compute, each shown once; and plain laws of it. -/
import Derived.Test.YtlcgcihghmeeoaaGreatFmtOwnC
import Derived.Test.YtlcgcihghmeeoaaGreatFmtPureD
namespace Go.Proofs.YtlcgcihghmeeoaaGreatFmt
open Go Go.Pure
attribute [local irreducible] PW POps POpsD PO PC Cond

theorem wrap64 {n : Int} (h : -9223372036854775808 ≤ n ∧ n < 9223372036854775808) : IntKind.i64.wrap n = n := by
  simp [IntKind.wrap, IntKind.bits, IntKind.signed]; omega

set_option maxRecDepth 100000 in
set_option maxHeartbeats 4000000 in
theorem of_pc (k : Int) : PC Tryz.prog 17 [.g (.int .i64 k)] ⟨[], [], []⟩ (.g (VTy.mk k []).g) ⟨[], [], []⟩ := by
  refine PC_of_PW Tryz.func17 rfl rfl (rs := _) rfl (Nat.le_of_ble_eq_true (by kernel_rfl)) ?_
  (repeat (first | ((first | refine qA ?_ | refine qB ?_ | refine xN ?_ | refine xE ?_ | refine xT ?_); try show PW _ _ _ _ _ _) | refine ro1 tabOk rfl rfl ?_ | refine ro2 tabOk rfl rfl ?_ | refine ro3 tabOk rfl rfl ?_ | refine rd1 tabOk rfl rfl ?_ | refine rd2 tabOk rfl rfl ?_ | refine rd3 tabOk rfl rfl ?_ | ((first | apply oR rfl rfl | (apply dF rfl rfl rfl; intro _) | (apply dP rfl rfl rfl; intro _) | (apply dL rfl rfl rfl; intro _) | apply dC rfl rfl rfl rfl); (focus (first | exact cJ | exact mG | exact bT | exact nD)); try exact kQ) | refine xS ?_ | refine xR ?_ | refine qxa rfl rfl mixed ?_ | refine qxb rfl rfl mixed ?_ | refine qxc rfl rfl mixed ?_ | refine qxd rfl rfl mixed ?_ | refine xB ?_ | refine xt rfl ?_ | refine xf rfl ?_))
  (first | refine Ret_int (vC vT vN) rfl ?_ | refine Ret_bool (vC vT vN) rfl ?_ | refine Ret_g (vC vT vN) rfl ?_ | refine Ret_int (vC (vA (AG rfl) (SZ rfl) rfl rfl (lB rfl)) vN) rfl ?_ | refine Ret_bool (vC (vA (AG rfl) (SZ rfl) rfl rfl (lB rfl)) vN) rfl ?_ | refine Ret_g (vC (vA (AG rfl) (SZ rfl) rfl rfl (lB rfl)) vN) rfl ?_)
  rfl

set_option maxRecDepth 100000 in
set_option maxHeartbeats 4000000 in
theorem list_pc (t : VTy) : PC Tryz.prog 16 [.g t.g] ⟨[], [], []⟩ (.g (VTy.mk 5 [t]).g) ⟨[], [], []⟩ := by
  obtain ⟨k, es⟩ := t
  refine PC_of_PW Tryz.func16 rfl rfl (rs := _) rfl (Nat.le_of_ble_eq_true (by kernel_rfl)) ?_
  (repeat (first | ((first | refine qA ?_ | refine qB ?_ | refine xN ?_ | refine xE ?_ | refine xT ?_); try show PW _ _ _ _ _ _) | refine ro1 tabOk rfl rfl ?_ | refine ro2 tabOk rfl rfl ?_ | refine ro3 tabOk rfl rfl ?_ | refine rd1 tabOk rfl rfl ?_ | refine rd2 tabOk rfl rfl ?_ | refine rd3 tabOk rfl rfl ?_ | ((first | apply oR rfl rfl | (apply dF rfl rfl rfl; intro _) | (apply dP rfl rfl rfl; intro _) | (apply dL rfl rfl rfl; intro _) | apply dC rfl rfl rfl rfl); (focus (first | exact cJ | exact mG | exact bT | exact nD)); try exact kQ) | refine xS ?_ | refine xR ?_ | refine qxa rfl rfl mixed ?_ | refine qxb rfl rfl mixed ?_ | refine qxc rfl rfl mixed ?_ | refine qxd rfl rfl mixed ?_ | refine xB ?_ | refine xt rfl ?_ | refine xf rfl ?_))
  (first | refine Ret_int (vC vT vN) rfl ?_ | refine Ret_bool (vC vT vN) rfl ?_ | refine Ret_g (vC vT vN) rfl ?_ | refine Ret_int (vC (vA (AG rfl) (SZ rfl) rfl rfl (lB rfl)) vN) rfl ?_ | refine Ret_bool (vC (vA (AG rfl) (SZ rfl) rfl rfl (lB rfl)) vN) rfl ?_ | refine Ret_g (vC (vA (AG rfl) (SZ rfl) rfl rfl (lB rfl)) vN) rfl ?_)
  rfl

set_option maxRecDepth 100000 in
set_option maxHeartbeats 4000000 in
theorem wrong4_pc (t : VTy) : PC Tryz.prog 8 [.g t.g] ⟨[], [], []⟩ (.g (.int .i64 (wrongT 1 t))) ⟨[], [], []⟩ := by
  generalize hw0 : wrongT 1 t = W
  obtain ⟨k0, es0⟩ := t
  refine PC_of_PW Tryz.func8 rfl rfl (rs := _) rfl (Nat.le_of_ble_eq_true (by kernel_rfl)) ?_
  (repeat (first | ((first | refine qA ?_ | refine qB ?_ | refine xN ?_ | refine xE ?_ | refine xT ?_); try show PW _ _ _ _ _ _) | refine ro1 tabOk rfl rfl ?_ | refine ro2 tabOk rfl rfl ?_ | refine ro3 tabOk rfl rfl ?_ | refine rd1 tabOk rfl rfl ?_ | refine rd2 tabOk rfl rfl ?_ | refine rd3 tabOk rfl rfl ?_ | ((first | apply oR rfl rfl | (apply dF rfl rfl rfl; intro _) | (apply dP rfl rfl rfl; intro _) | (apply dL rfl rfl rfl; intro _) | apply dC rfl rfl rfl rfl); (focus (first | exact cJ | exact mG | exact bT | exact nD)); try exact kQ) | refine xS ?_ | refine xR ?_ | refine qxa rfl rfl mixed ?_ | refine qxb rfl rfl mixed ?_ | refine qxc rfl rfl mixed ?_ | refine qxd rfl rfl mixed ?_ | refine xB ?_ | refine xt rfl ?_ | refine xf rfl ?_))
  refine PW_loop (S := Nat × VTy) (fun s => slots [(1, .ptr 0 0), (3, .g (.int .i64 s.1))]) (fun s => ⟨[s.2.g.cells.map PV.g], [], []⟩) (fun s => s.1 ≤ 11 ∧ wrongT s.1 s.2 = W) (fun s => 11 - s.1) (1, .mk k0 es0) ⟨by simp, hw0⟩ (SlotsOk.le ⟨.inl rfl, .inl rfl, trivial⟩) (HLe.of_eq rfl) (fun s hs => ?_)
  obtain ⟨n, k, es⟩ := s
  obtain ⟨hn, hW⟩ := hs
  dsimp only at hn hW
  rw [wrongT_eq n k] at hW
  match es with
  | [] =>
    (repeat' (first | (first | ((first | refine qA ?_ | refine qB ?_ | refine xN ?_ | refine xE ?_ | refine xT ?_); try show PW _ _ _ _ _ _) | refine ro1 tabOk rfl rfl ?_ | refine ro2 tabOk rfl rfl ?_ | refine ro3 tabOk rfl rfl ?_ | refine rd1 tabOk rfl rfl ?_ | refine rd2 tabOk rfl rfl ?_ | refine rd3 tabOk rfl rfl ?_ | ((first | apply oR rfl rfl | (apply dF rfl rfl rfl; intro _) | (apply dP rfl rfl rfl; intro _) | (apply dL rfl rfl rfl; intro _) | apply dC rfl rfl rfl rfl); (focus (first | exact cJ | exact mG | exact bT | exact nD)); try exact kQ) | refine xS ?_ | refine xR ?_ | refine qxa rfl rfl mixed ?_ | refine qxb rfl rfl mixed ?_ | refine qxc rfl rfl mixed ?_ | refine qxd rfl rfl mixed ?_ | refine xB ?_ | refine xt rfl ?_ | refine xf rfl ?_) | (refine POps_split rfl rfl (fun h => ?_) (fun h => ?_) <;> fail_if_success (first | (have : true = true := h) | (have : false = false := h))) | (refine POpsD_split rfl rfl (fun h => ?_) (fun h => ?_) <;> fail_if_success (first | (have : true = true := h) | (have : false = false := h))) | refine PW_cond rfl (fun h => ?_) (fun h => ?_)))
    all_goals (first | (exfalso; simp_all; done) | ((first | refine Ret_int (vC vT vN) rfl ?_ | refine Ret_bool (vC vT vN) rfl ?_ | refine Ret_g (vC vT vN) rfl ?_ | refine Ret_int (vC (vA (AG rfl) (SZ rfl) rfl rfl (lB rfl)) vN) rfl ?_ | refine Ret_bool (vC (vA (AG rfl) (SZ rfl) rfl rfl (lB rfl)) vN) rfl ?_ | refine Ret_g (vC (vA (AG rfl) (SZ rfl) rfl rfl (lB rfl)) vN) rfl ?_); first | (simp_all; done) | (simp_all; omega)))
  | [e] =>
    obtain ⟨ek, ees⟩ := e
    (repeat' (first | (first | ((first | refine qA ?_ | refine qB ?_ | refine xN ?_ | refine xE ?_ | refine xT ?_); try show PW _ _ _ _ _ _) | refine ro1 tabOk rfl rfl ?_ | refine ro2 tabOk rfl rfl ?_ | refine ro3 tabOk rfl rfl ?_ | refine rd1 tabOk rfl rfl ?_ | refine rd2 tabOk rfl rfl ?_ | refine rd3 tabOk rfl rfl ?_ | ((first | apply oR rfl rfl | (apply dF rfl rfl rfl; intro _) | (apply dP rfl rfl rfl; intro _) | (apply dL rfl rfl rfl; intro _) | apply dC rfl rfl rfl rfl); (focus (first | exact iA (g := ((VTy.mk ek ees)).g) rfl (EL rfl) (SZ rfl) rfl rfl (by decide) rfl rfl | exact cJ | exact mG | exact bT | exact nD)); try exact kQ) | refine xS ?_ | refine xR ?_ | refine qxa rfl rfl mixed ?_ | refine qxb rfl rfl mixed ?_ | refine qxc rfl rfl mixed ?_ | refine qxd rfl rfl mixed ?_ | refine xB ?_ | refine xt rfl ?_ | refine xf rfl ?_) | (refine POps_split rfl rfl (fun h => ?_) (fun h => ?_) <;> fail_if_success (first | (have : true = true := h) | (have : false = false := h))) | (refine POpsD_split rfl rfl (fun h => ?_) (fun h => ?_) <;> fail_if_success (first | (have : true = true := h) | (have : false = false := h))) | refine PW_cond rfl (fun h => ?_) (fun h => ?_)))
    all_goals (first | (exfalso; simp_all; done) | ((first | refine Ret_int (vC vT vN) rfl ?_ | refine Ret_bool (vC vT vN) rfl ?_ | refine Ret_g (vC vT vN) rfl ?_ | refine Ret_int (vC (vA (AG rfl) (SZ rfl) rfl rfl (lB rfl)) vN) rfl ?_ | refine Ret_bool (vC (vA (AG rfl) (SZ rfl) rfl rfl (lB rfl)) vN) rfl ?_ | refine Ret_g (vC (vA (AG rfl) (SZ rfl) rfl rfl (lB rfl)) vN) rfl ?_); first | (simp_all; done) | (simp_all; omega)) | skip)
    all_goals
      have h1 : k = 5 := by simp_all
      subst h1
      refine ⟨(n + 1, .mk ek ees), ⟨?_, ?_⟩, ?_, SlotsOk.le ⟨.inl rfl, .inl (congrArg (fun k => PV.g (.int .i64 k)) (wrap64 (by simp only; omega))), trivial⟩, HLe.of_eq rfl⟩ <;> simp_all <;> omega
  | e :: e' :: r =>
    have hl : ((VTy.gs (e :: e' :: r)).length : Int) ≠ 0 ∧ ((VTy.gs (e :: e' :: r)).length : Int) ≠ 1 ∧ ((VTy.gs (e :: e' :: r)).length : Int) > 0 := by simp [VTy.gs_eq]; omega
    generalize hg : VTy.gs (e :: e' :: r) = gs at hl
    have hgg : (VTy.mk k (e :: e' :: r)).g = .agg [.int .i64 k, .sl gs] := by rw [VTy.g, hg]
    simp only [hgg]
    (repeat' (first | (first | ((first | refine qA ?_ | refine qB ?_ | refine xN ?_ | refine xE ?_ | refine xT ?_); try show PW _ _ _ _ _ _) | refine ro1 tabOk rfl rfl ?_ | refine ro2 tabOk rfl rfl ?_ | refine ro3 tabOk rfl rfl ?_ | refine rd1 tabOk rfl rfl ?_ | refine rd2 tabOk rfl rfl ?_ | refine rd3 tabOk rfl rfl ?_ | ((first | apply oR rfl rfl | (apply dF rfl rfl rfl; intro _) | (apply dP rfl rfl rfl; intro _) | (apply dL rfl rfl rfl; intro _) | apply dC rfl rfl rfl rfl); (focus (first | exact cJ | exact mG | exact bT | exact nD)); try exact kQ) | refine xS ?_ | refine xR ?_ | refine qxa rfl rfl mixed ?_ | refine qxb rfl rfl mixed ?_ | refine qxc rfl rfl mixed ?_ | refine qxd rfl rfl mixed ?_ | refine xB ?_ | refine xt rfl ?_ | refine xf rfl ?_) | (refine POps_split rfl rfl (fun h => ?_) (fun h => ?_) <;> fail_if_success (first | (have : true = true := h) | (have : false = false := h))) | (refine POpsD_split rfl rfl (fun h => ?_) (fun h => ?_) <;> fail_if_success (first | (have : true = true := h) | (have : false = false := h))) | refine PW_cond rfl (fun h => ?_) (fun h => ?_)))
    all_goals (first | (exfalso; simp_all; done) | ((first | refine Ret_int (vC vT vN) rfl ?_ | refine Ret_bool (vC vT vN) rfl ?_ | refine Ret_g (vC vT vN) rfl ?_ | refine Ret_int (vC (vA (AG rfl) (SZ rfl) rfl rfl (lB rfl)) vN) rfl ?_ | refine Ret_bool (vC (vA (AG rfl) (SZ rfl) rfl rfl (lB rfl)) vN) rfl ?_ | refine Ret_g (vC (vA (AG rfl) (SZ rfl) rfl rfl (lB rfl)) vN) rfl ?_); first | (simp_all; done) | (simp_all; omega)) | skip)
end Go.Proofs.YtlcgcihghmeeoaaGreatFmt


namespace Go.Proofs.YtlcgcihghmeeoaaGreatFmt
open Go Go.Pure
attribute [local irreducible] PW POps POpsD PO PC Cond

theorem tyS (n : Nat) (b : Int) : (tyL (n + 1) b).g = .agg [.int .i64 5, .sl [(tyL n b).g]] := rfl

theorem tyZ (b : Int) : (tyL 0 b).g = .agg [.int .i64 b, .sl []] := rfl

set_option maxRecDepth 100000 in
set_option maxHeartbeats 4000000 in
theorem fits7_pc {b c : Int} (hb : baseK b) (hc : baseK c) : ∀ m n : Nat, PC Tryz.prog 11 [.g (tyL m b).g, .g (tyL n c).g] ⟨[], [], []⟩ (.g (.bool (fitsT m b n c))) ⟨[], [], []⟩
  | 0, 0 => by
    rw [tyZ, tyZ]
    rcases hb with rfl | rfl | rfl | rfl | rfl
    all_goals
      refine PC_of_PW Tryz.func11 rfl rfl (rs := _) rfl (Nat.le_of_ble_eq_true (by kernel_rfl)) ?_
      (repeat' (first | (first | ((first | refine qA ?_ | refine qB ?_ | refine xN ?_ | refine xE ?_ | refine xT ?_); try show PW _ _ _ _ _ _) | refine ro1 tabOk rfl rfl ?_ | refine ro2 tabOk rfl rfl ?_ | refine ro3 tabOk rfl rfl ?_ | refine rd1 tabOk rfl rfl ?_ | refine rd2 tabOk rfl rfl ?_ | refine rd3 tabOk rfl rfl ?_ | ((first | apply oR rfl rfl | (apply dF rfl rfl rfl; intro _) | (apply dP rfl rfl rfl; intro _) | (apply dL rfl rfl rfl; intro _) | apply dC rfl rfl rfl rfl); (focus (first | exact cJ | exact mG | exact bT | exact nD)); try exact kQ) | refine xS ?_ | refine xR ?_ | refine qxa rfl rfl mixed ?_ | refine qxb rfl rfl mixed ?_ | refine qxc rfl rfl mixed ?_ | refine qxd rfl rfl mixed ?_ | refine xB ?_ | refine xt rfl ?_ | refine xf rfl ?_) | (refine POps_split rfl rfl (fun h => ?_) (fun h => ?_) <;> fail_if_success (first | (have : true = true := h) | (have : false = false := h))) | (refine POpsD_split rfl rfl (fun h => ?_) (fun h => ?_) <;> fail_if_success (first | (have : true = true := h) | (have : false = false := h))) | refine PW_cond rfl (fun h => ?_) (fun h => ?_)))
      all_goals ((first | refine Ret_int (vC vT vN) rfl ?_ | refine Ret_bool (vC vT vN) rfl ?_ | refine Ret_g (vC vT vN) rfl ?_ | refine Ret_int (vC (vA (AG rfl) (SZ rfl) rfl rfl (lB rfl)) vN) rfl ?_ | refine Ret_bool (vC (vA (AG rfl) (SZ rfl) rfl rfl (lB rfl)) vN) rfl ?_ | refine Ret_g (vC (vA (AG rfl) (SZ rfl) rfl rfl (lB rfl)) vN) rfl ?_); rw [fitsT_eq]; simp_all; done)
  | 0, n + 1 => by
    rw [tyZ, tyS]
    generalize (tyL n c).g = u
    rcases hb with rfl | rfl | rfl | rfl | rfl
    all_goals
      refine PC_of_PW Tryz.func11 rfl rfl (rs := _) rfl (Nat.le_of_ble_eq_true (by kernel_rfl)) ?_
      (repeat' (first | (first | ((first | refine qA ?_ | refine qB ?_ | refine xN ?_ | refine xE ?_ | refine xT ?_); try show PW _ _ _ _ _ _) | refine ro1 tabOk rfl rfl ?_ | refine ro2 tabOk rfl rfl ?_ | refine ro3 tabOk rfl rfl ?_ | refine rd1 tabOk rfl rfl ?_ | refine rd2 tabOk rfl rfl ?_ | refine rd3 tabOk rfl rfl ?_ | ((first | apply oR rfl rfl | (apply dF rfl rfl rfl; intro _) | (apply dP rfl rfl rfl; intro _) | (apply dL rfl rfl rfl; intro _) | apply dC rfl rfl rfl rfl); (focus (first | exact cJ | exact mG | exact bT | exact nD)); try exact kQ) | refine xS ?_ | refine xR ?_ | refine qxa rfl rfl mixed ?_ | refine qxb rfl rfl mixed ?_ | refine qxc rfl rfl mixed ?_ | refine qxd rfl rfl mixed ?_ | refine xB ?_ | refine xt rfl ?_ | refine xf rfl ?_) | (refine POps_split rfl rfl (fun h => ?_) (fun h => ?_) <;> fail_if_success (first | (have : true = true := h) | (have : false = false := h))) | (refine POpsD_split rfl rfl (fun h => ?_) (fun h => ?_) <;> fail_if_success (first | (have : true = true := h) | (have : false = false := h))) | refine PW_cond rfl (fun h => ?_) (fun h => ?_)))
      all_goals ((first | refine Ret_int (vC vT vN) rfl ?_ | refine Ret_bool (vC vT vN) rfl ?_ | refine Ret_g (vC vT vN) rfl ?_ | refine Ret_int (vC (vA (AG rfl) (SZ rfl) rfl rfl (lB rfl)) vN) rfl ?_ | refine Ret_bool (vC (vA (AG rfl) (SZ rfl) rfl rfl (lB rfl)) vN) rfl ?_ | refine Ret_g (vC (vA (AG rfl) (SZ rfl) rfl rfl (lB rfl)) vN) rfl ?_); rw [fitsT_eq]; simp_all; done)
  | m + 1, 0 => by
    rw [tyZ, tyS]
    generalize (tyL m b).g = u
    rcases hc with rfl | rfl | rfl | rfl | rfl
    all_goals
      refine PC_of_PW Tryz.func11 rfl rfl (rs := _) rfl (Nat.le_of_ble_eq_true (by kernel_rfl)) ?_
      (repeat' (first | (first | ((first | refine qA ?_ | refine qB ?_ | refine xN ?_ | refine xE ?_ | refine xT ?_); try show PW _ _ _ _ _ _) | refine ro1 tabOk rfl rfl ?_ | refine ro2 tabOk rfl rfl ?_ | refine ro3 tabOk rfl rfl ?_ | refine rd1 tabOk rfl rfl ?_ | refine rd2 tabOk rfl rfl ?_ | refine rd3 tabOk rfl rfl ?_ | ((first | apply oR rfl rfl | (apply dF rfl rfl rfl; intro _) | (apply dP rfl rfl rfl; intro _) | (apply dL rfl rfl rfl; intro _) | apply dC rfl rfl rfl rfl); (focus (first | exact cJ | exact mG | exact bT | exact nD)); try exact kQ) | refine xS ?_ | refine xR ?_ | refine qxa rfl rfl mixed ?_ | refine qxb rfl rfl mixed ?_ | refine qxc rfl rfl mixed ?_ | refine qxd rfl rfl mixed ?_ | refine xB ?_ | refine xt rfl ?_ | refine xf rfl ?_) | (refine POps_split rfl rfl (fun h => ?_) (fun h => ?_) <;> fail_if_success (first | (have : true = true := h) | (have : false = false := h))) | (refine POpsD_split rfl rfl (fun h => ?_) (fun h => ?_) <;> fail_if_success (first | (have : true = true := h) | (have : false = false := h))) | refine PW_cond rfl (fun h => ?_) (fun h => ?_)))
      all_goals ((first | refine Ret_int (vC vT vN) rfl ?_ | refine Ret_bool (vC vT vN) rfl ?_ | refine Ret_g (vC vT vN) rfl ?_ | refine Ret_int (vC (vA (AG rfl) (SZ rfl) rfl rfl (lB rfl)) vN) rfl ?_ | refine Ret_bool (vC (vA (AG rfl) (SZ rfl) rfl rfl (lB rfl)) vN) rfl ?_ | refine Ret_g (vC (vA (AG rfl) (SZ rfl) rfl rfl (lB rfl)) vN) rfl ?_); rw [fitsT_eq]; simp_all; done)
  | m + 1, n + 1 => by
    have ih := fits7_pc hb hc m n
    rw [tyS, tyS, fitsT_eq, if_neg (by omega)]
    dsimp only
    generalize tyL m b = u at ih
    generalize tyL n c = v at ih
    obtain ⟨uk, ues⟩ := u
    obtain ⟨vk, ves⟩ := v
    refine PC_of_PW Tryz.func11 rfl rfl (rs := _) rfl (Nat.le_of_ble_eq_true (by kernel_rfl)) ?_
    (repeat' (first | (first | ((first | refine qA ?_ | refine qB ?_ | refine xN ?_ | refine xE ?_ | refine xT ?_); try show PW _ _ _ _ _ _) | refine ro1 tabOk rfl rfl ?_ | refine ro2 tabOk rfl rfl ?_ | refine ro3 tabOk rfl rfl ?_ | refine rd1 tabOk rfl rfl ?_ | refine rd2 tabOk rfl rfl ?_ | refine rd3 tabOk rfl rfl ?_ | ((first | apply oR rfl rfl | (apply dF rfl rfl rfl; intro _) | (apply dP rfl rfl rfl; intro _) | (apply dL rfl rfl rfl; intro _) | apply dC rfl rfl rfl rfl); (focus (first | exact cqP ih | exact iA (g := ((VTy.mk uk ues)).g) rfl (EL rfl) (SZ rfl) rfl rfl (by decide) rfl rfl | exact iA (g := ((VTy.mk vk ves)).g) rfl (EL rfl) (SZ rfl) rfl rfl (by decide) rfl rfl | exact cJ | exact mG | exact bT | exact nD)); try exact kQ) | refine xS ?_ | refine xR ?_ | refine qxa rfl rfl mixed ?_ | refine qxb rfl rfl mixed ?_ | refine qxc rfl rfl mixed ?_ | refine qxd rfl rfl mixed ?_ | refine xB ?_ | refine xt rfl ?_ | refine xf rfl ?_) | (refine POps_split rfl rfl (fun h => ?_) (fun h => ?_) <;> fail_if_success (first | (have : true = true := h) | (have : false = false := h))) | (refine POpsD_split rfl rfl (fun h => ?_) (fun h => ?_) <;> fail_if_success (first | (have : true = true := h) | (have : false = false := h))) | refine PW_cond rfl (fun h => ?_) (fun h => ?_)))
    all_goals ((first | refine Ret_int (vC vT vN) rfl ?_ | refine Ret_bool (vC vT vN) rfl ?_ | refine Ret_g (vC vT vN) rfl ?_ | refine Ret_int (vC (vA (AG rfl) (SZ rfl) rfl rfl (lB rfl)) vN) rfl ?_ | refine Ret_bool (vC (vA (AG rfl) (SZ rfl) rfl rfl (lB rfl)) vN) rfl ?_ | refine Ret_g (vC (vA (AG rfl) (SZ rfl) rfl rfl (lB rfl)) vN) rfl ?_); rfl)
end Go.Proofs.YtlcgcihghmeeoaaGreatFmt

