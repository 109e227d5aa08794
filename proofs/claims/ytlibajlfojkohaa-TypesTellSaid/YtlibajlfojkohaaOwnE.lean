/- What the program's functions compute, each shown once; and plain laws of it. -/
import Derived.Test.YtlibajlfojkohaaOwnC
import Derived.Test.YtlibajlfojkohaaPureD
namespace Go.Proofs.Ytlibajlfojkohaa
open Go Go.Pure
attribute [local irreducible] PW POps POpsD PO PC Cond

theorem wrap64 {n : Int} (h : -9223372036854775808 ≤ n ∧ n < 9223372036854775808) : IntKind.i64.wrap n = n := by
  simp [IntKind.wrap, IntKind.bits, IntKind.signed]; omega

set_option maxRecDepth 100000 in
set_option maxHeartbeats 4000000 in
theorem of_pc (k : Int) : PC Try.prog 19 [.g (.int .i64 k)] ⟨[], [], []⟩ (.g (VTy.mk k []).g) ⟨[], [], []⟩ := by
  refine PC_of_PW Try.func19 rfl rfl (rs := _) rfl (Nat.le_of_ble_eq_true (by kernel_rfl)) ?_
  (repeat (first | ((first | refine qA ?_ | refine qB ?_ | refine xN ?_ | refine xE ?_ | refine xT ?_); try show PW _ _ _ _ _ _) | refine r1 tabOk rfl rfl ?_ | refine r2 tabOk rfl rfl ?_ | refine r3 tabOk rfl rfl ?_ | refine r4 tabOk rfl rfl ?_ | refine r5 tabOk rfl rfl ?_ | refine r6 tabOk rfl rfl ?_ | ((first | apply oR rfl rfl | (apply dF rfl rfl rfl; intro _) | (apply dP rfl rfl rfl; intro _) | (apply dL rfl rfl rfl; intro _) | apply dC rfl rfl rfl rfl); (focus (first | exact cJ | exact mG | exact bT | exact nD)); try exact kQ) | refine xS ?_ | refine xR ?_ | refine xa rfl rfl mixed ?_ | refine xb rfl rfl mixed ?_ | refine xc rfl rfl mixed ?_ | refine xd rfl rfl mixed ?_ | refine xB ?_ | refine xt rfl ?_ | refine xf rfl ?_))
  (first | refine Ret_int (vC vT vN) rfl ?_ | refine Ret_bool (vC vT vN) rfl ?_ | refine Ret_g (vC vT vN) rfl ?_ | refine Ret_int (vC (vA (AG rfl) (SZ rfl) rfl rfl (lB rfl)) vN) rfl ?_ | refine Ret_bool (vC (vA (AG rfl) (SZ rfl) rfl rfl (lB rfl)) vN) rfl ?_ | refine Ret_g (vC (vA (AG rfl) (SZ rfl) rfl rfl (lB rfl)) vN) rfl ?_)
  rfl

set_option maxRecDepth 100000 in
set_option maxHeartbeats 4000000 in
theorem list_pc (t : VTy) : PC Try.prog 18 [.g t.g] ⟨[], [], []⟩ (.g (VTy.mk 5 [t]).g) ⟨[], [], []⟩ := by
  obtain ⟨k, es⟩ := t
  refine PC_of_PW Try.func18 rfl rfl (rs := _) rfl (Nat.le_of_ble_eq_true (by kernel_rfl)) ?_
  (repeat (first | ((first | refine qA ?_ | refine qB ?_ | refine xN ?_ | refine xE ?_ | refine xT ?_); try show PW _ _ _ _ _ _) | refine r1 tabOk rfl rfl ?_ | refine r2 tabOk rfl rfl ?_ | refine r3 tabOk rfl rfl ?_ | refine r4 tabOk rfl rfl ?_ | refine r5 tabOk rfl rfl ?_ | refine r6 tabOk rfl rfl ?_ | ((first | apply oR rfl rfl | (apply dF rfl rfl rfl; intro _) | (apply dP rfl rfl rfl; intro _) | (apply dL rfl rfl rfl; intro _) | apply dC rfl rfl rfl rfl); (focus (first | exact cJ | exact mG | exact bT | exact nD)); try exact kQ) | refine xS ?_ | refine xR ?_ | refine xa rfl rfl mixed ?_ | refine xb rfl rfl mixed ?_ | refine xc rfl rfl mixed ?_ | refine xd rfl rfl mixed ?_ | refine xB ?_ | refine xt rfl ?_ | refine xf rfl ?_))
  (first | refine Ret_int (vC vT vN) rfl ?_ | refine Ret_bool (vC vT vN) rfl ?_ | refine Ret_g (vC vT vN) rfl ?_ | refine Ret_int (vC (vA (AG rfl) (SZ rfl) rfl rfl (lB rfl)) vN) rfl ?_ | refine Ret_bool (vC (vA (AG rfl) (SZ rfl) rfl rfl (lB rfl)) vN) rfl ?_ | refine Ret_g (vC (vA (AG rfl) (SZ rfl) rfl rfl (lB rfl)) vN) rfl ?_)
  rfl

set_option maxRecDepth 100000 in
set_option maxHeartbeats 4000000 in
theorem wrong17_pc : ∀ (d n : Nat) (t : VTy), n + d = 11 → PC Try.prog 17 [.g t.g, .g (.int .i64 n)] ⟨[], [], []⟩ (.g (.int .i64 (wrongT n t))) ⟨[], [], []⟩
  | 0, n, .mk k es, hd => by
    refine PC_of_PW Try.func17 rfl rfl (rs := _) rfl (Nat.le_of_ble_eq_true (by kernel_rfl)) ?_
    (repeat (first | ((first | refine qA ?_ | refine qB ?_ | refine xN ?_ | refine xE ?_ | refine xT ?_); try show PW _ _ _ _ _ _) | refine r1 tabOk rfl rfl ?_ | refine r2 tabOk rfl rfl ?_ | refine r3 tabOk rfl rfl ?_ | refine r4 tabOk rfl rfl ?_ | refine r5 tabOk rfl rfl ?_ | refine r6 tabOk rfl rfl ?_ | ((first | apply oR rfl rfl | (apply dF rfl rfl rfl; intro _) | (apply dP rfl rfl rfl; intro _) | (apply dL rfl rfl rfl; intro _) | apply dC rfl rfl rfl rfl); (focus (first | exact cJ | exact mG | exact bT | exact nD)); try exact kQ) | refine xS ?_ | refine xR ?_ | refine xa rfl rfl mixed ?_ | refine xb rfl rfl mixed ?_ | refine xc rfl rfl mixed ?_ | refine xd rfl rfl mixed ?_ | refine xB ?_ | refine xt rfl ?_ | refine xf rfl ?_))
    (first | refine POps_split rfl rfl (fun h => ?_) (fun h => ?_) | refine POpsD_split rfl rfl (fun h => ?_) (fun h => ?_) | refine PW_cond rfl (fun h => ?_) (fun h => ?_))
    · (repeat (first | ((first | refine qA ?_ | refine qB ?_ | refine xN ?_ | refine xE ?_ | refine xT ?_); try show PW _ _ _ _ _ _) | refine r1 tabOk rfl rfl ?_ | refine r2 tabOk rfl rfl ?_ | refine r3 tabOk rfl rfl ?_ | refine r4 tabOk rfl rfl ?_ | refine r5 tabOk rfl rfl ?_ | refine r6 tabOk rfl rfl ?_ | ((first | apply oR rfl rfl | (apply dF rfl rfl rfl; intro _) | (apply dP rfl rfl rfl; intro _) | (apply dL rfl rfl rfl; intro _) | apply dC rfl rfl rfl rfl); (focus (first | exact cJ | exact mG | exact bT | exact nD)); try exact kQ) | refine xS ?_ | refine xR ?_ | refine xa rfl rfl mixed ?_ | refine xb rfl rfl mixed ?_ | refine xc rfl rfl mixed ?_ | refine xd rfl rfl mixed ?_ | refine xB ?_ | refine xt rfl ?_ | refine xf rfl ?_))
      (first | refine Ret_int (vC vT vN) rfl ?_ | refine Ret_bool (vC vT vN) rfl ?_ | refine Ret_g (vC vT vN) rfl ?_ | refine Ret_int (vC (vA (AG rfl) (SZ rfl) rfl rfl (lB rfl)) vN) rfl ?_ | refine Ret_bool (vC (vA (AG rfl) (SZ rfl) rfl rfl (lB rfl)) vN) rfl ?_ | refine Ret_g (vC (vA (AG rfl) (SZ rfl) rfl rfl (lB rfl)) vN) rfl ?_)
      rw [wrongT_eq, if_pos (by omega)]
    · have := of_decide_eq_false h
      omega
  | d + 1, n, .mk k [], hd => by
    refine PC_of_PW Try.func17 rfl rfl (rs := _) rfl (Nat.le_of_ble_eq_true (by kernel_rfl)) ?_
    (repeat' (first | (first | ((first | refine qA ?_ | refine qB ?_ | refine xN ?_ | refine xE ?_ | refine xT ?_); try show PW _ _ _ _ _ _) | refine r1 tabOk rfl rfl ?_ | refine r2 tabOk rfl rfl ?_ | refine r3 tabOk rfl rfl ?_ | refine r4 tabOk rfl rfl ?_ | refine r5 tabOk rfl rfl ?_ | refine r6 tabOk rfl rfl ?_ | ((first | apply oR rfl rfl | (apply dF rfl rfl rfl; intro _) | (apply dP rfl rfl rfl; intro _) | (apply dL rfl rfl rfl; intro _) | apply dC rfl rfl rfl rfl); (focus (first | exact cJ | exact mG | exact bT | exact nD)); try exact kQ) | refine xS ?_ | refine xR ?_ | refine xa rfl rfl mixed ?_ | refine xb rfl rfl mixed ?_ | refine xc rfl rfl mixed ?_ | refine xd rfl rfl mixed ?_ | refine xB ?_ | refine xt rfl ?_ | refine xf rfl ?_) | (refine POps_split rfl rfl (fun h => ?_) (fun h => ?_) <;> fail_if_success (first | (have : true = true := h) | (have : false = false := h))) | (refine POpsD_split rfl rfl (fun h => ?_) (fun h => ?_) <;> fail_if_success (first | (have : true = true := h) | (have : false = false := h))) | refine PW_cond rfl (fun h => ?_) (fun h => ?_)))
    all_goals ((first | refine Ret_int (vC vT vN) rfl ?_ | refine Ret_bool (vC vT vN) rfl ?_ | refine Ret_g (vC vT vN) rfl ?_ | refine Ret_int (vC (vA (AG rfl) (SZ rfl) rfl rfl (lB rfl)) vN) rfl ?_ | refine Ret_bool (vC (vA (AG rfl) (SZ rfl) rfl rfl (lB rfl)) vN) rfl ?_ | refine Ret_g (vC (vA (AG rfl) (SZ rfl) rfl rfl (lB rfl)) vN) rfl ?_); rw [wrongT_eq n k]; first | (simp_all; done) | (simp_all; omega))
  | d + 1, n, .mk k [e], hd => by
    have ih := wrong17_pc d (n + 1) e (by omega)
    obtain ⟨ek, ees⟩ := e
    have hw : IntKind.i64.wrap ((n : Int) + 1) = ((n + 1 : Nat) : Int) := by rw [wrap64 (by omega)]; omega
    rw [← hw] at ih
    refine PC_of_PW Try.func17 rfl rfl (rs := _) rfl (Nat.le_of_ble_eq_true (by kernel_rfl)) ?_
    (repeat' (first | (first | ((first | refine qA ?_ | refine qB ?_ | refine xN ?_ | refine xE ?_ | refine xT ?_); try show PW _ _ _ _ _ _) | refine r1 tabOk rfl rfl ?_ | refine r2 tabOk rfl rfl ?_ | refine r3 tabOk rfl rfl ?_ | refine r4 tabOk rfl rfl ?_ | refine r5 tabOk rfl rfl ?_ | refine r6 tabOk rfl rfl ?_ | ((first | apply oR rfl rfl | (apply dF rfl rfl rfl; intro _) | (apply dP rfl rfl rfl; intro _) | (apply dL rfl rfl rfl; intro _) | apply dC rfl rfl rfl rfl); (focus (first | exact cq ih | exact iA (g := ((VTy.mk ek ees)).g) rfl (EL rfl) (SZ rfl) rfl rfl (by decide) rfl rfl | exact cJ | exact mG | exact bT | exact nD)); try exact kQ) | refine xS ?_ | refine xR ?_ | refine xa rfl rfl mixed ?_ | refine xb rfl rfl mixed ?_ | refine xc rfl rfl mixed ?_ | refine xd rfl rfl mixed ?_ | refine xB ?_ | refine xt rfl ?_ | refine xf rfl ?_) | (refine POps_split rfl rfl (fun h => ?_) (fun h => ?_) <;> fail_if_success (first | (have : true = true := h) | (have : false = false := h))) | (refine POpsD_split rfl rfl (fun h => ?_) (fun h => ?_) <;> fail_if_success (first | (have : true = true := h) | (have : false = false := h))) | refine PW_cond rfl (fun h => ?_) (fun h => ?_)))
    all_goals ((first | refine Ret_int (vC vT vN) rfl ?_ | refine Ret_bool (vC vT vN) rfl ?_ | refine Ret_g (vC vT vN) rfl ?_ | refine Ret_int (vC (vA (AG rfl) (SZ rfl) rfl rfl (lB rfl)) vN) rfl ?_ | refine Ret_bool (vC (vA (AG rfl) (SZ rfl) rfl rfl (lB rfl)) vN) rfl ?_ | refine Ret_g (vC (vA (AG rfl) (SZ rfl) rfl rfl (lB rfl)) vN) rfl ?_); rw [wrongT_eq n k]; first | (simp_all; done) | (simp_all; omega))
  | d + 1, n, .mk k (e :: e' :: r), hd => by
    have hl : ((VTy.gs (e :: e' :: r)).length : Int) ≠ 0 ∧ ((VTy.gs (e :: e' :: r)).length : Int) ≠ 1 := by simp [VTy.gs_eq]; omega
    generalize hg : VTy.gs (e :: e' :: r) = gs at hl
    have hgg : (VTy.mk k (e :: e' :: r)).g = .agg [.int .i64 k, .sl gs] := by rw [VTy.g, hg]
    rw [hgg]
    refine PC_of_PW Try.func17 rfl rfl (rs := _) rfl (Nat.le_of_ble_eq_true (by kernel_rfl)) ?_
    (repeat' (first | (first | ((first | refine qA ?_ | refine qB ?_ | refine xN ?_ | refine xE ?_ | refine xT ?_); try show PW _ _ _ _ _ _) | refine r1 tabOk rfl rfl ?_ | refine r2 tabOk rfl rfl ?_ | refine r3 tabOk rfl rfl ?_ | refine r4 tabOk rfl rfl ?_ | refine r5 tabOk rfl rfl ?_ | refine r6 tabOk rfl rfl ?_ | ((first | apply oR rfl rfl | (apply dF rfl rfl rfl; intro _) | (apply dP rfl rfl rfl; intro _) | (apply dL rfl rfl rfl; intro _) | apply dC rfl rfl rfl rfl); (focus (first | exact cJ | exact mG | exact bT | exact nD)); try exact kQ) | refine xS ?_ | refine xR ?_ | refine xa rfl rfl mixed ?_ | refine xb rfl rfl mixed ?_ | refine xc rfl rfl mixed ?_ | refine xd rfl rfl mixed ?_ | refine xB ?_ | refine xt rfl ?_ | refine xf rfl ?_) | (refine POps_split rfl rfl (fun h => ?_) (fun h => ?_) <;> fail_if_success (first | (have : true = true := h) | (have : false = false := h))) | (refine POpsD_split rfl rfl (fun h => ?_) (fun h => ?_) <;> fail_if_success (first | (have : true = true := h) | (have : false = false := h))) | refine PW_cond rfl (fun h => ?_) (fun h => ?_)))
    all_goals (first | (exfalso; simp_all; done) | ((first | refine Ret_int (vC vT vN) rfl ?_ | refine Ret_bool (vC vT vN) rfl ?_ | refine Ret_g (vC vT vN) rfl ?_ | refine Ret_int (vC (vA (AG rfl) (SZ rfl) rfl rfl (lB rfl)) vN) rfl ?_ | refine Ret_bool (vC (vA (AG rfl) (SZ rfl) rfl rfl (lB rfl)) vN) rfl ?_ | refine Ret_g (vC (vA (AG rfl) (SZ rfl) rfl rfl (lB rfl)) vN) rfl ?_); rw [wrongT_eq n k]; first | (simp_all; done) | (simp_all; omega)))
end Go.Proofs.Ytlibajlfojkohaa


namespace Go.Proofs.Ytlibajlfojkohaa
open Go Go.Pure
attribute [local irreducible] PW POps POpsD PO PC Cond

set_option maxRecDepth 100000 in
set_option maxHeartbeats 4000000 in
theorem wrong5_pc (t : VTy) : PC Try.prog 5 [.g t.g] ⟨[], [], []⟩ (.g (.int .i64 (wrongT 1 t))) ⟨[], [], []⟩ := by
  have h := wrong17_pc 10 1 t rfl
  obtain ⟨k, es⟩ := t
  refine PC_of_PW Try.func5 rfl rfl (rs := _) rfl (Nat.le_of_ble_eq_true (by kernel_rfl)) ?_
  (repeat (first | ((first | refine qA ?_ | refine qB ?_ | refine xN ?_ | refine xE ?_ | refine xT ?_); try show PW _ _ _ _ _ _) | refine r1 tabOk rfl rfl ?_ | refine r2 tabOk rfl rfl ?_ | refine r3 tabOk rfl rfl ?_ | refine r4 tabOk rfl rfl ?_ | refine r5 tabOk rfl rfl ?_ | refine r6 tabOk rfl rfl ?_ | ((first | apply oR rfl rfl | (apply dF rfl rfl rfl; intro _) | (apply dP rfl rfl rfl; intro _) | (apply dL rfl rfl rfl; intro _) | apply dC rfl rfl rfl rfl); (focus (first | exact cq h | exact cJ | exact mG | exact bT | exact nD)); try exact kQ) | refine xS ?_ | refine xR ?_ | refine xa rfl rfl mixed ?_ | refine xb rfl rfl mixed ?_ | refine xc rfl rfl mixed ?_ | refine xd rfl rfl mixed ?_ | refine xB ?_ | refine xt rfl ?_ | refine xf rfl ?_))
  (first | refine Ret_int (vC vT vN) rfl ?_ | refine Ret_bool (vC vT vN) rfl ?_ | refine Ret_g (vC vT vN) rfl ?_ | refine Ret_int (vC (vA (AG rfl) (SZ rfl) rfl rfl (lB rfl)) vN) rfl ?_ | refine Ret_bool (vC (vA (AG rfl) (SZ rfl) rfl rfl (lB rfl)) vN) rfl ?_ | refine Ret_g (vC (vA (AG rfl) (SZ rfl) rfl rfl (lB rfl)) vN) rfl ?_)
  rfl

set_option maxRecDepth 100000 in
set_option maxHeartbeats 4000000 in
theorem wrong4_pc (t : VTy) : PC Try.prog 4 [.g t.g] ⟨[], [], []⟩ (.g (.int .i64 (wrongT 1 t))) ⟨[], [], []⟩ := by
  generalize hw0 : wrongT 1 t = W
  obtain ⟨k0, es0⟩ := t
  refine PC_of_PW Try.func4 rfl rfl (rs := _) rfl (Nat.le_of_ble_eq_true (by kernel_rfl)) ?_
  (repeat (first | ((first | refine qA ?_ | refine qB ?_ | refine xN ?_ | refine xE ?_ | refine xT ?_); try show PW _ _ _ _ _ _) | refine r1 tabOk rfl rfl ?_ | refine r2 tabOk rfl rfl ?_ | refine r3 tabOk rfl rfl ?_ | refine r4 tabOk rfl rfl ?_ | refine r5 tabOk rfl rfl ?_ | refine r6 tabOk rfl rfl ?_ | ((first | apply oR rfl rfl | (apply dF rfl rfl rfl; intro _) | (apply dP rfl rfl rfl; intro _) | (apply dL rfl rfl rfl; intro _) | apply dC rfl rfl rfl rfl); (focus (first | exact cJ | exact mG | exact bT | exact nD)); try exact kQ) | refine xS ?_ | refine xR ?_ | refine xa rfl rfl mixed ?_ | refine xb rfl rfl mixed ?_ | refine xc rfl rfl mixed ?_ | refine xd rfl rfl mixed ?_ | refine xB ?_ | refine xt rfl ?_ | refine xf rfl ?_))
  refine PW_loop (S := Nat × VTy) (fun s => slots [(1, .ptr 0 0), (3, .g (.int .i64 s.1))]) (fun s => ⟨[s.2.g.cells.map PV.g], [], []⟩) (fun s => s.1 ≤ 11 ∧ wrongT s.1 s.2 = W) (fun s => 11 - s.1) (1, .mk k0 es0) ⟨by simp, hw0⟩ (SlotsOk.le ⟨.inl rfl, .inl rfl, trivial⟩) (HLe.of_eq rfl) (fun s hs => ?_)
  obtain ⟨n, k, es⟩ := s
  obtain ⟨hn, hW⟩ := hs
  dsimp only at hn hW
  rw [wrongT_eq n k] at hW
  match es with
  | [] =>
    (repeat' (first | (first | ((first | refine qA ?_ | refine qB ?_ | refine xN ?_ | refine xE ?_ | refine xT ?_); try show PW _ _ _ _ _ _) | refine r1 tabOk rfl rfl ?_ | refine r2 tabOk rfl rfl ?_ | refine r3 tabOk rfl rfl ?_ | refine r4 tabOk rfl rfl ?_ | refine r5 tabOk rfl rfl ?_ | refine r6 tabOk rfl rfl ?_ | ((first | apply oR rfl rfl | (apply dF rfl rfl rfl; intro _) | (apply dP rfl rfl rfl; intro _) | (apply dL rfl rfl rfl; intro _) | apply dC rfl rfl rfl rfl); (focus (first | exact cJ | exact mG | exact bT | exact nD)); try exact kQ) | refine xS ?_ | refine xR ?_ | refine xa rfl rfl mixed ?_ | refine xb rfl rfl mixed ?_ | refine xc rfl rfl mixed ?_ | refine xd rfl rfl mixed ?_ | refine xB ?_ | refine xt rfl ?_ | refine xf rfl ?_) | (refine POps_split rfl rfl (fun h => ?_) (fun h => ?_) <;> fail_if_success (first | (have : true = true := h) | (have : false = false := h))) | (refine POpsD_split rfl rfl (fun h => ?_) (fun h => ?_) <;> fail_if_success (first | (have : true = true := h) | (have : false = false := h))) | refine PW_cond rfl (fun h => ?_) (fun h => ?_)))
    all_goals (first | (exfalso; simp_all; done) | ((first | refine Ret_int (vC vT vN) rfl ?_ | refine Ret_bool (vC vT vN) rfl ?_ | refine Ret_g (vC vT vN) rfl ?_ | refine Ret_int (vC (vA (AG rfl) (SZ rfl) rfl rfl (lB rfl)) vN) rfl ?_ | refine Ret_bool (vC (vA (AG rfl) (SZ rfl) rfl rfl (lB rfl)) vN) rfl ?_ | refine Ret_g (vC (vA (AG rfl) (SZ rfl) rfl rfl (lB rfl)) vN) rfl ?_); first | (simp_all; done) | (simp_all; omega)))
  | [e] =>
    obtain ⟨ek, ees⟩ := e
    (repeat' (first | (first | ((first | refine qA ?_ | refine qB ?_ | refine xN ?_ | refine xE ?_ | refine xT ?_); try show PW _ _ _ _ _ _) | refine r1 tabOk rfl rfl ?_ | refine r2 tabOk rfl rfl ?_ | refine r3 tabOk rfl rfl ?_ | refine r4 tabOk rfl rfl ?_ | refine r5 tabOk rfl rfl ?_ | refine r6 tabOk rfl rfl ?_ | ((first | apply oR rfl rfl | (apply dF rfl rfl rfl; intro _) | (apply dP rfl rfl rfl; intro _) | (apply dL rfl rfl rfl; intro _) | apply dC rfl rfl rfl rfl); (focus (first | exact iA (g := ((VTy.mk ek ees)).g) rfl (EL rfl) (SZ rfl) rfl rfl (by decide) rfl rfl | exact cJ | exact mG | exact bT | exact nD)); try exact kQ) | refine xS ?_ | refine xR ?_ | refine xa rfl rfl mixed ?_ | refine xb rfl rfl mixed ?_ | refine xc rfl rfl mixed ?_ | refine xd rfl rfl mixed ?_ | refine xB ?_ | refine xt rfl ?_ | refine xf rfl ?_) | (refine POps_split rfl rfl (fun h => ?_) (fun h => ?_) <;> fail_if_success (first | (have : true = true := h) | (have : false = false := h))) | (refine POpsD_split rfl rfl (fun h => ?_) (fun h => ?_) <;> fail_if_success (first | (have : true = true := h) | (have : false = false := h))) | refine PW_cond rfl (fun h => ?_) (fun h => ?_)))
    all_goals (first | (exfalso; simp_all; done) | ((first | refine Ret_int (vC vT vN) rfl ?_ | refine Ret_bool (vC vT vN) rfl ?_ | refine Ret_g (vC vT vN) rfl ?_ | refine Ret_int (vC (vA (AG rfl) (SZ rfl) rfl rfl (lB rfl)) vN) rfl ?_ | refine Ret_bool (vC (vA (AG rfl) (SZ rfl) rfl rfl (lB rfl)) vN) rfl ?_ | refine Ret_g (vC (vA (AG rfl) (SZ rfl) rfl rfl (lB rfl)) vN) rfl ?_); first | (simp_all; done) | (simp_all; omega)) | skip)
    all_goals
      have h1 : k = 5 := by simp_all
      subst h1
      refine ⟨(n + 1, .mk ek ees), ⟨?_, ?_⟩, ?_, SlotsOk.le ⟨.inl rfl, .inl (congrArg (fun k => PV.g (.int .i64 k)) (wrap64 (by simp only; omega))), trivial⟩, HLe.of_eq rfl⟩ <;> simp_all <;> omega
  | e :: e' :: r =>
    have hl : ((VTy.gs (e :: e' :: r)).length : Int) ≠ 0 ∧ ((VTy.gs (e :: e' :: r)).length : Int) ≠ 1 ∧ ((VTy.gs (e :: e' :: r)).length : Int) > 0 := by simp [VTy.gs_eq]; omega
    generalize hg : VTy.gs (e :: e' :: r) = gs at hl
    have hgg : (VTy.mk k (e :: e' :: r)).g = .agg [.int .i64 k, .sl gs] := by rw [VTy.g, hg]
    simp only [hgg]
    (repeat' (first | (first | ((first | refine qA ?_ | refine qB ?_ | refine xN ?_ | refine xE ?_ | refine xT ?_); try show PW _ _ _ _ _ _) | refine r1 tabOk rfl rfl ?_ | refine r2 tabOk rfl rfl ?_ | refine r3 tabOk rfl rfl ?_ | refine r4 tabOk rfl rfl ?_ | refine r5 tabOk rfl rfl ?_ | refine r6 tabOk rfl rfl ?_ | ((first | apply oR rfl rfl | (apply dF rfl rfl rfl; intro _) | (apply dP rfl rfl rfl; intro _) | (apply dL rfl rfl rfl; intro _) | apply dC rfl rfl rfl rfl); (focus (first | exact cJ | exact mG | exact bT | exact nD)); try exact kQ) | refine xS ?_ | refine xR ?_ | refine xa rfl rfl mixed ?_ | refine xb rfl rfl mixed ?_ | refine xc rfl rfl mixed ?_ | refine xd rfl rfl mixed ?_ | refine xB ?_ | refine xt rfl ?_ | refine xf rfl ?_) | (refine POps_split rfl rfl (fun h => ?_) (fun h => ?_) <;> fail_if_success (first | (have : true = true := h) | (have : false = false := h))) | (refine POpsD_split rfl rfl (fun h => ?_) (fun h => ?_) <;> fail_if_success (first | (have : true = true := h) | (have : false = false := h))) | refine PW_cond rfl (fun h => ?_) (fun h => ?_)))
    all_goals (first | (exfalso; simp_all; done) | ((first | refine Ret_int (vC vT vN) rfl ?_ | refine Ret_bool (vC vT vN) rfl ?_ | refine Ret_g (vC vT vN) rfl ?_ | refine Ret_int (vC (vA (AG rfl) (SZ rfl) rfl rfl (lB rfl)) vN) rfl ?_ | refine Ret_bool (vC (vA (AG rfl) (SZ rfl) rfl rfl (lB rfl)) vN) rfl ?_ | refine Ret_g (vC (vA (AG rfl) (SZ rfl) rfl rfl (lB rfl)) vN) rfl ?_); first | (simp_all; done) | (simp_all; omega)) | skip)

set_option maxRecDepth 100000 in
set_option maxHeartbeats 4000000 in
theorem code_pc {b : Int} (hb : baseK b) : ∀ n : Nat, n ≤ 1000 → PC Try.prog 6 [.g (tyL n b).g] ⟨[], [], []⟩ (.g (.str (bstr (codeL n b)))) ⟨[], [], []⟩
  | 0, _ => by
    have q : (ByteArray.mk #[63, 122, 98, 110, 116, 63, 97])[b.toNat]? = some (letter b) := by rcases hb with rfl | rfl | rfl | rfl | rfl <;> kernel_rfl
    have e : Utf8.encode (((letter b).toNat : Nat) : Int) = bstr (codeL 0 b) := by rcases hb with rfl | rfl | rfl | rfl | rfl <;> kernel_rfl
    have h0 : 0 ≤ b := by unfold baseK at hb; omega
    have h5 : b ≠ 5 := by unfold baseK at hb; omega
    refine PC_of_PW Try.func6 rfl rfl (rs := _) rfl (Nat.le_of_ble_eq_true (by kernel_rfl)) ?_
    (repeat' (first | (first | ((first | refine qA ?_ | refine qB ?_ | refine xN ?_ | refine xE ?_ | refine xT ?_); try show PW _ _ _ _ _ _) | refine r1 tabOk rfl rfl ?_ | refine r2 tabOk rfl rfl ?_ | refine r3 tabOk rfl rfl ?_ | refine r4 tabOk rfl rfl ?_ | refine r5 tabOk rfl rfl ?_ | refine r6 tabOk rfl rfl ?_ | ((first | apply oR rfl rfl | (apply dF rfl rfl rfl; intro _) | (apply dP rfl rfl rfl; intro _) | (apply dL rfl rfl rfl; intro _) | apply dC rfl rfl rfl rfl); (focus (first | exact PO_index rfl (ST rfl) rfl rfl h0 q | exact PO_conv_rune rfl (IK rfl) (ST rfl) rfl | exact cJ | exact mG | exact bT | exact nD)); try exact kQ) | refine xS ?_ | refine xR ?_ | refine xa rfl rfl mixed ?_ | refine xb rfl rfl mixed ?_ | refine xc rfl rfl mixed ?_ | refine xd rfl rfl mixed ?_ | refine xB ?_ | refine xt rfl ?_ | refine xf rfl ?_) | (refine POps_split rfl rfl (fun h => ?_) (fun h => ?_) <;> fail_if_success (first | (have : true = true := h) | (have : false = false := h))) | (refine POpsD_split rfl rfl (fun h => ?_) (fun h => ?_) <;> fail_if_success (first | (have : true = true := h) | (have : false = false := h))) | refine PW_cond rfl (fun h => ?_) (fun h => ?_)))
    · exact absurd (of_decide_eq_true h) h5
    · (first | refine Ret_int (vC vT vN) rfl ?_ | refine Ret_bool (vC vT vN) rfl ?_ | refine Ret_g (vC vT vN) rfl ?_ | refine Ret_int (vC (vA (AG rfl) (SZ rfl) rfl rfl (lB rfl)) vN) rfl ?_ | refine Ret_bool (vC (vA (AG rfl) (SZ rfl) rfl rfl (lB rfl)) vN) rfl ?_ | refine Ret_g (vC (vA (AG rfl) (SZ rfl) rfl rfl (lB rfl)) vN) rfl ?_)
      exact congrArg GV.str e
  | n + 1, hn => by
    have ih := code_pc hb n (by omega)
    have hs : (bstr (codeL n b)).size ≤ 1001 := by rw [bstr_size, codeL_len]; omega
    have hc : (ByteArray.mk #[76]) ++ bstr (codeL n b) = bstr (codeL (n + 1) b) := bstr_cat [76] (codeL n b)
    generalize hr : bstr (codeL (n + 1) b) = R at hc
    rw [show (tyL (n + 1) b).g = .agg [.int .i64 5, .sl [(tyL n b).g]] from rfl]
    generalize hty : tyL n b = u at ih
    obtain ⟨uk, ues⟩ := u
    generalize bstr (codeL n b) = z at ih hs hc
    refine PC_of_PW Try.func6 rfl rfl (rs := _) rfl (Nat.le_of_ble_eq_true (by kernel_rfl)) ?_
    (repeat (first | ((first | refine qA ?_ | refine qB ?_ | refine xN ?_ | refine xE ?_ | refine xT ?_); try show PW _ _ _ _ _ _) | refine r1 tabOk rfl rfl ?_ | refine r2 tabOk rfl rfl ?_ | refine r3 tabOk rfl rfl ?_ | refine r4 tabOk rfl rfl ?_ | refine r5 tabOk rfl rfl ?_ | refine r6 tabOk rfl rfl ?_ | ((first | apply oR rfl rfl | (apply dF rfl rfl rfl; intro _) | (apply dP rfl rfl rfl; intro _) | (apply dL rfl rfl rfl; intro _) | apply dC rfl rfl rfl rfl); (focus (first | exact cq ih | exact iA (g := ((VTy.mk uk ues)).g) rfl (EL rfl) (SZ rfl) rfl rfl (by decide) rfl rfl | exact PO_as (PO_concat rfl rfl rfl (by show 1 + z.size ≤ _; omega)) (congrArg (fun x => PV.g (.str x)) hc) | exact cJ | exact mG | exact bT | exact nD)); try exact kQ) | refine xS ?_ | refine xR ?_ | refine xa rfl rfl mixed ?_ | refine xb rfl rfl mixed ?_ | refine xc rfl rfl mixed ?_ | refine xd rfl rfl mixed ?_ | refine xB ?_ | refine xt rfl ?_ | refine xf rfl ?_))
    (first | refine Ret_int (vC vT vN) rfl ?_ | refine Ret_bool (vC vT vN) rfl ?_ | refine Ret_g (vC vT vN) rfl ?_ | refine Ret_int (vC (vA (AG rfl) (SZ rfl) rfl rfl (lB rfl)) vN) rfl ?_ | refine Ret_bool (vC (vA (AG rfl) (SZ rfl) rfl rfl (lB rfl)) vN) rfl ?_ | refine Ret_g (vC (vA (AG rfl) (SZ rfl) rfl rfl (lB rfl)) vN) rfl ?_)
    rfl
end Go.Proofs.Ytlibajlfojkohaa


namespace Go.Proofs.Ytlibajlfojkohaa
open Go Go.Pure
attribute [local irreducible] PW POps POpsD PO PC Cond

theorem tyS (n : Nat) (b : Int) : (tyL (n + 1) b).g = .agg [.int .i64 5, .sl [(tyL n b).g]] := rfl
theorem tyZ (b : Int) : (tyL 0 b).g = .agg [.int .i64 b, .sl []] := rfl

set_option maxRecDepth 100000 in
set_option maxHeartbeats 4000000 in
theorem fits7_pc {b c : Int} (hb : baseK b) (hc : baseK c) : ∀ m n : Nat, PC Try.prog 7 [.g (tyL m b).g, .g (tyL n c).g] ⟨[], [], []⟩ (.g (.bool (fitsT m b n c))) ⟨[], [], []⟩
  | 0, 0 => by
    rw [tyZ, tyZ]
    rcases hb with rfl | rfl | rfl | rfl | rfl
    all_goals
      refine PC_of_PW Try.func7 rfl rfl (rs := _) rfl (Nat.le_of_ble_eq_true (by kernel_rfl)) ?_
      (repeat' (first | (first | ((first | refine qA ?_ | refine qB ?_ | refine xN ?_ | refine xE ?_ | refine xT ?_); try show PW _ _ _ _ _ _) | refine r1 tabOk rfl rfl ?_ | refine r2 tabOk rfl rfl ?_ | refine r3 tabOk rfl rfl ?_ | refine r4 tabOk rfl rfl ?_ | refine r5 tabOk rfl rfl ?_ | refine r6 tabOk rfl rfl ?_ | ((first | apply oR rfl rfl | (apply dF rfl rfl rfl; intro _) | (apply dP rfl rfl rfl; intro _) | (apply dL rfl rfl rfl; intro _) | apply dC rfl rfl rfl rfl); (focus (first | exact cJ | exact mG | exact bT | exact nD)); try exact kQ) | refine xS ?_ | refine xR ?_ | refine xa rfl rfl mixed ?_ | refine xb rfl rfl mixed ?_ | refine xc rfl rfl mixed ?_ | refine xd rfl rfl mixed ?_ | refine xB ?_ | refine xt rfl ?_ | refine xf rfl ?_) | (refine POps_split rfl rfl (fun h => ?_) (fun h => ?_) <;> fail_if_success (first | (have : true = true := h) | (have : false = false := h))) | (refine POpsD_split rfl rfl (fun h => ?_) (fun h => ?_) <;> fail_if_success (first | (have : true = true := h) | (have : false = false := h))) | refine PW_cond rfl (fun h => ?_) (fun h => ?_)))
      all_goals ((first | refine Ret_int (vC vT vN) rfl ?_ | refine Ret_bool (vC vT vN) rfl ?_ | refine Ret_g (vC vT vN) rfl ?_ | refine Ret_int (vC (vA (AG rfl) (SZ rfl) rfl rfl (lB rfl)) vN) rfl ?_ | refine Ret_bool (vC (vA (AG rfl) (SZ rfl) rfl rfl (lB rfl)) vN) rfl ?_ | refine Ret_g (vC (vA (AG rfl) (SZ rfl) rfl rfl (lB rfl)) vN) rfl ?_); rw [fitsT_eq]; simp_all; done)
  | 0, n + 1 => by
    rw [tyZ, tyS]
    generalize (tyL n c).g = u
    rcases hb with rfl | rfl | rfl | rfl | rfl
    all_goals
      refine PC_of_PW Try.func7 rfl rfl (rs := _) rfl (Nat.le_of_ble_eq_true (by kernel_rfl)) ?_
      (repeat' (first | (first | ((first | refine qA ?_ | refine qB ?_ | refine xN ?_ | refine xE ?_ | refine xT ?_); try show PW _ _ _ _ _ _) | refine r1 tabOk rfl rfl ?_ | refine r2 tabOk rfl rfl ?_ | refine r3 tabOk rfl rfl ?_ | refine r4 tabOk rfl rfl ?_ | refine r5 tabOk rfl rfl ?_ | refine r6 tabOk rfl rfl ?_ | ((first | apply oR rfl rfl | (apply dF rfl rfl rfl; intro _) | (apply dP rfl rfl rfl; intro _) | (apply dL rfl rfl rfl; intro _) | apply dC rfl rfl rfl rfl); (focus (first | exact cJ | exact mG | exact bT | exact nD)); try exact kQ) | refine xS ?_ | refine xR ?_ | refine xa rfl rfl mixed ?_ | refine xb rfl rfl mixed ?_ | refine xc rfl rfl mixed ?_ | refine xd rfl rfl mixed ?_ | refine xB ?_ | refine xt rfl ?_ | refine xf rfl ?_) | (refine POps_split rfl rfl (fun h => ?_) (fun h => ?_) <;> fail_if_success (first | (have : true = true := h) | (have : false = false := h))) | (refine POpsD_split rfl rfl (fun h => ?_) (fun h => ?_) <;> fail_if_success (first | (have : true = true := h) | (have : false = false := h))) | refine PW_cond rfl (fun h => ?_) (fun h => ?_)))
      all_goals ((first | refine Ret_int (vC vT vN) rfl ?_ | refine Ret_bool (vC vT vN) rfl ?_ | refine Ret_g (vC vT vN) rfl ?_ | refine Ret_int (vC (vA (AG rfl) (SZ rfl) rfl rfl (lB rfl)) vN) rfl ?_ | refine Ret_bool (vC (vA (AG rfl) (SZ rfl) rfl rfl (lB rfl)) vN) rfl ?_ | refine Ret_g (vC (vA (AG rfl) (SZ rfl) rfl rfl (lB rfl)) vN) rfl ?_); rw [fitsT_eq]; simp_all; done)
  | m + 1, 0 => by
    rw [tyZ, tyS]
    generalize (tyL m b).g = u
    rcases hc with rfl | rfl | rfl | rfl | rfl
    all_goals
      refine PC_of_PW Try.func7 rfl rfl (rs := _) rfl (Nat.le_of_ble_eq_true (by kernel_rfl)) ?_
      (repeat' (first | (first | ((first | refine qA ?_ | refine qB ?_ | refine xN ?_ | refine xE ?_ | refine xT ?_); try show PW _ _ _ _ _ _) | refine r1 tabOk rfl rfl ?_ | refine r2 tabOk rfl rfl ?_ | refine r3 tabOk rfl rfl ?_ | refine r4 tabOk rfl rfl ?_ | refine r5 tabOk rfl rfl ?_ | refine r6 tabOk rfl rfl ?_ | ((first | apply oR rfl rfl | (apply dF rfl rfl rfl; intro _) | (apply dP rfl rfl rfl; intro _) | (apply dL rfl rfl rfl; intro _) | apply dC rfl rfl rfl rfl); (focus (first | exact cJ | exact mG | exact bT | exact nD)); try exact kQ) | refine xS ?_ | refine xR ?_ | refine xa rfl rfl mixed ?_ | refine xb rfl rfl mixed ?_ | refine xc rfl rfl mixed ?_ | refine xd rfl rfl mixed ?_ | refine xB ?_ | refine xt rfl ?_ | refine xf rfl ?_) | (refine POps_split rfl rfl (fun h => ?_) (fun h => ?_) <;> fail_if_success (first | (have : true = true := h) | (have : false = false := h))) | (refine POpsD_split rfl rfl (fun h => ?_) (fun h => ?_) <;> fail_if_success (first | (have : true = true := h) | (have : false = false := h))) | refine PW_cond rfl (fun h => ?_) (fun h => ?_)))
      all_goals ((first | refine Ret_int (vC vT vN) rfl ?_ | refine Ret_bool (vC vT vN) rfl ?_ | refine Ret_g (vC vT vN) rfl ?_ | refine Ret_int (vC (vA (AG rfl) (SZ rfl) rfl rfl (lB rfl)) vN) rfl ?_ | refine Ret_bool (vC (vA (AG rfl) (SZ rfl) rfl rfl (lB rfl)) vN) rfl ?_ | refine Ret_g (vC (vA (AG rfl) (SZ rfl) rfl rfl (lB rfl)) vN) rfl ?_); rw [fitsT_eq]; simp_all; done)
  | m + 1, n + 1 => by
    have ih := fits7_pc hb hc m n
    rw [tyS, tyS, fitsT_eq, if_neg (by omega)]
    dsimp only
    generalize tyL m b = u at ih
    generalize tyL n c = v at ih
    obtain ⟨uk, ues⟩ := u
    obtain ⟨vk, ves⟩ := v
    refine PC_of_PW Try.func7 rfl rfl (rs := _) rfl (Nat.le_of_ble_eq_true (by kernel_rfl)) ?_
    (repeat' (first | (first | ((first | refine qA ?_ | refine qB ?_ | refine xN ?_ | refine xE ?_ | refine xT ?_); try show PW _ _ _ _ _ _) | refine r1 tabOk rfl rfl ?_ | refine r2 tabOk rfl rfl ?_ | refine r3 tabOk rfl rfl ?_ | refine r4 tabOk rfl rfl ?_ | refine r5 tabOk rfl rfl ?_ | refine r6 tabOk rfl rfl ?_ | ((first | apply oR rfl rfl | (apply dF rfl rfl rfl; intro _) | (apply dP rfl rfl rfl; intro _) | (apply dL rfl rfl rfl; intro _) | apply dC rfl rfl rfl rfl); (focus (first | exact cq ih | exact iA (g := ((VTy.mk uk ues)).g) rfl (EL rfl) (SZ rfl) rfl rfl (by decide) rfl rfl | exact iA (g := ((VTy.mk vk ves)).g) rfl (EL rfl) (SZ rfl) rfl rfl (by decide) rfl rfl | exact cJ | exact mG | exact bT | exact nD)); try exact kQ) | refine xS ?_ | refine xR ?_ | refine xa rfl rfl mixed ?_ | refine xb rfl rfl mixed ?_ | refine xc rfl rfl mixed ?_ | refine xd rfl rfl mixed ?_ | refine xB ?_ | refine xt rfl ?_ | refine xf rfl ?_) | (refine POps_split rfl rfl (fun h => ?_) (fun h => ?_) <;> fail_if_success (first | (have : true = true := h) | (have : false = false := h))) | (refine POpsD_split rfl rfl (fun h => ?_) (fun h => ?_) <;> fail_if_success (first | (have : true = true := h) | (have : false = false := h))) | refine PW_cond rfl (fun h => ?_) (fun h => ?_)))
    all_goals ((first | refine Ret_int (vC vT vN) rfl ?_ | refine Ret_bool (vC vT vN) rfl ?_ | refine Ret_g (vC vT vN) rfl ?_ | refine Ret_int (vC (vA (AG rfl) (SZ rfl) rfl rfl (lB rfl)) vN) rfl ?_ | refine Ret_bool (vC (vA (AG rfl) (SZ rfl) rfl rfl (lB rfl)) vN) rfl ?_ | refine Ret_g (vC (vA (AG rfl) (SZ rfl) rfl rfl (lB rfl)) vN) rfl ?_); rfl)

set_option maxRecDepth 100000 in
set_option maxHeartbeats 4000000 in
theorem fits8_pc {b c : Int} (hb : baseK b) (hc : baseK c) : ∀ m n : Nat, PC Try.prog 8 [.g (.str (bstr (codeL m b))), .g (.str (bstr (codeL n c)))] ⟨[], [], []⟩ (.g (.bool (fitsT m b n c))) ⟨[], [], []⟩ := by
  intro m n
  have e1 : ((bstr (codeL m b)).toList == (ByteArray.mk #[122]).toList) = decide (m = 0 ∧ b = 1) := code_is hb m (k := 1) (by simp [baseK])
  have e2 : ((bstr (codeL n c)).toList == (ByteArray.mk #[97]).toList) = decide (n = 0 ∧ c = 6) := code_is hc n (k := 6) (by simp [baseK])
  have e3 := code_eq hb hc m n
  replace e1 : ((bstr (codeL m b)).toList == (ByteArray.mk #[122]).toList) = true ↔ (m = 0 ∧ b = 1) := by rw [e1, decide_eq_true_iff]
  replace e2 : ((bstr (codeL n c)).toList == (ByteArray.mk #[97]).toList) = true ↔ (n = 0 ∧ c = 6) := by rw [e2, decide_eq_true_iff]
  replace e3 : ((bstr (codeL m b)).toList == (bstr (codeL n c)).toList) = true ↔ (m = n ∧ b = c) := by rw [e3, decide_eq_true_iff]
  have g1 := code_head m b
  have g2 := code_head n c
  have l1 := letter_nat hb
  have l2 := letter_nat hc
  have fr := fits_refl m b
  match m, n with
  | 0, n =>
    rw [fitsT_eq]
    rw [if_pos rfl] at g1
    generalize bstr (codeL 0 b) = A at e1 e3 g1
    generalize bstr (codeL n c) = B at e2 e3 g2
    refine PC_of_PW Try.func8 rfl rfl (rs := _) rfl (Nat.le_of_ble_eq_true (by kernel_rfl)) ?_
    (repeat' (first | (first | ((first | refine qA ?_ | refine qB ?_ | refine xN ?_ | refine xE ?_ | refine xT ?_); try show PW _ _ _ _ _ _) | refine r1 tabOk rfl rfl ?_ | refine r2 tabOk rfl rfl ?_ | refine r3 tabOk rfl rfl ?_ | refine r4 tabOk rfl rfl ?_ | refine r5 tabOk rfl rfl ?_ | refine r6 tabOk rfl rfl ?_ | ((first | apply oR rfl rfl | (apply dF rfl rfl rfl; intro _) | (apply dP rfl rfl rfl; intro _) | (apply dL rfl rfl rfl; intro _) | apply dC rfl rfl rfl rfl); (focus (first | exact PO_index rfl (ST rfl) rfl rfl (by decide) g1 | exact cJ | exact mG | exact bT | exact nD)); try exact kQ) | refine xS ?_ | refine xR ?_ | refine xa rfl rfl mixed ?_ | refine xb rfl rfl mixed ?_ | refine xc rfl rfl mixed ?_ | refine xd rfl rfl mixed ?_ | refine xB ?_ | refine xt rfl ?_ | refine xf rfl ?_) | (refine POps_split rfl rfl (fun h => ?_) (fun h => ?_) <;> fail_if_success (first | (have : true = true := h) | (have : false = false := h))) | (refine POpsD_split rfl rfl (fun h => ?_) (fun h => ?_) <;> fail_if_success (first | (have : true = true := h) | (have : false = false := h))) | refine PW_cond rfl (fun h => ?_) (fun h => ?_)))
    all_goals (first | (exfalso; simp_all; done) | ((first | refine Ret_int (vC vT vN) rfl ?_ | refine Ret_bool (vC vT vN) rfl ?_ | refine Ret_g (vC vT vN) rfl ?_ | refine Ret_int (vC (vA (AG rfl) (SZ rfl) rfl rfl (lB rfl)) vN) rfl ?_ | refine Ret_bool (vC (vA (AG rfl) (SZ rfl) rfl rfl (lB rfl)) vN) rfl ?_ | refine Ret_g (vC (vA (AG rfl) (SZ rfl) rfl rfl (lB rfl)) vN) rfl ?_); first | (simp_all; done) | (cases n <;> simp_all <;> omega)))
  | m + 1, 0 =>
    rw [fitsT_eq]
    rw [if_neg (by omega)] at g1
    rw [if_pos rfl] at g2
    generalize bstr (codeL (m + 1) b) = A at e1 e3 g1
    generalize bstr (codeL 0 c) = B at e2 e3 g2
    refine PC_of_PW Try.func8 rfl rfl (rs := _) rfl (Nat.le_of_ble_eq_true (by kernel_rfl)) ?_
    (repeat' (first | (first | ((first | refine qA ?_ | refine qB ?_ | refine xN ?_ | refine xE ?_ | refine xT ?_); try show PW _ _ _ _ _ _) | refine r1 tabOk rfl rfl ?_ | refine r2 tabOk rfl rfl ?_ | refine r3 tabOk rfl rfl ?_ | refine r4 tabOk rfl rfl ?_ | refine r5 tabOk rfl rfl ?_ | refine r6 tabOk rfl rfl ?_ | ((first | apply oR rfl rfl | (apply dF rfl rfl rfl; intro _) | (apply dP rfl rfl rfl; intro _) | (apply dL rfl rfl rfl; intro _) | apply dC rfl rfl rfl rfl); (focus (first | exact PO_index rfl (ST rfl) rfl rfl (by decide) g1 | exact PO_index rfl (ST rfl) rfl rfl (by decide) g2 | exact cJ | exact mG | exact bT | exact nD)); try exact kQ) | refine xS ?_ | refine xR ?_ | refine xa rfl rfl mixed ?_ | refine xb rfl rfl mixed ?_ | refine xc rfl rfl mixed ?_ | refine xd rfl rfl mixed ?_ | refine xB ?_ | refine xt rfl ?_ | refine xf rfl ?_) | (refine POps_split rfl rfl (fun h => ?_) (fun h => ?_) <;> fail_if_success (first | (have : true = true := h) | (have : false = false := h))) | (refine POpsD_split rfl rfl (fun h => ?_) (fun h => ?_) <;> fail_if_success (first | (have : true = true := h) | (have : false = false := h))) | refine PW_cond rfl (fun h => ?_) (fun h => ?_)))
    all_goals (first | (exfalso; simp_all; done) | ((first | refine Ret_int (vC vT vN) rfl ?_ | refine Ret_bool (vC vT vN) rfl ?_ | refine Ret_g (vC vT vN) rfl ?_ | refine Ret_int (vC (vA (AG rfl) (SZ rfl) rfl rfl (lB rfl)) vN) rfl ?_ | refine Ret_bool (vC (vA (AG rfl) (SZ rfl) rfl rfl (lB rfl)) vN) rfl ?_ | refine Ret_g (vC (vA (AG rfl) (SZ rfl) rfl rfl (lB rfl)) vN) rfl ?_); simp_all; done))
  | m + 1, n + 1 =>
    have ih := fits8_pc hb hc m n
    have t1 := code_tail m b
    have t2 := code_tail n c
    rw [if_neg (by omega)] at g1 g2
    have s1 : ((bstr (codeL (m + 1) b)).size : Int) ≥ 1 := by rw [bstr_size, codeL_len]; omega
    have s2 : ((bstr (codeL (n + 1) c)).size : Int) ≥ 1 := by rw [bstr_size, codeL_len]; omega
    have ef : fitsT (m + 1) b (n + 1) c = fitsT m b n c := by rw [fitsT_eq, if_neg (by omega)]
    rw [ef]
    rw [fitsT_eq, if_neg (by omega)] at fr
    have ff : m = n ∧ b = c → fitsT m b n c = true := by rintro ⟨rfl, rfl⟩; exact fr
    generalize bstr (codeL (m + 1) b) = A at e1 e3 g1 t1 s1
    generalize bstr (codeL (n + 1) c) = B at e2 e3 g2 t2 s2
    refine PC_of_PW Try.func8 rfl rfl (rs := _) rfl (Nat.le_of_ble_eq_true (by kernel_rfl)) ?_
    (repeat' (first | (first | ((first | refine qA ?_ | refine qB ?_ | refine xN ?_ | refine xE ?_ | refine xT ?_); try show PW _ _ _ _ _ _) | refine r1 tabOk rfl rfl ?_ | refine r2 tabOk rfl rfl ?_ | refine r3 tabOk rfl rfl ?_ | refine r4 tabOk rfl rfl ?_ | refine r5 tabOk rfl rfl ?_ | refine r6 tabOk rfl rfl ?_ | ((first | apply oR rfl rfl | (apply dF rfl rfl rfl; intro _) | (apply dP rfl rfl rfl; intro _) | (apply dL rfl rfl rfl; intro _) | apply dC rfl rfl rfl rfl); (focus (first | exact cq ih | exact PO_index rfl (ST rfl) rfl rfl (by decide) g1 | exact PO_index rfl (ST rfl) rfl rfl (by decide) g2 | exact PO_as (PO_slice_str rfl (ST rfl) rfl rfl rfl (by decide) s1 (Int.le_refl _)) (congrArg (fun x => PV.g (.str x)) t1) | exact PO_as (PO_slice_str rfl (ST rfl) rfl rfl rfl (by decide) s2 (Int.le_refl _)) (congrArg (fun x => PV.g (.str x)) t2) | exact cJ | exact mG | exact bT | exact nD)); try exact kQ) | refine xS ?_ | refine xR ?_ | refine xa rfl rfl mixed ?_ | refine xb rfl rfl mixed ?_ | refine xc rfl rfl mixed ?_ | refine xd rfl rfl mixed ?_ | refine xB ?_ | refine xt rfl ?_ | refine xf rfl ?_) | (refine POps_split rfl rfl (fun h => ?_) (fun h => ?_) <;> fail_if_success (first | (have : true = true := h) | (have : false = false := h))) | (refine POpsD_split rfl rfl (fun h => ?_) (fun h => ?_) <;> fail_if_success (first | (have : true = true := h) | (have : false = false := h))) | refine PW_cond rfl (fun h => ?_) (fun h => ?_)))
    all_goals (first | (exfalso; simp_all; done) | ((first | refine Ret_int (vC vT vN) rfl ?_ | refine Ret_bool (vC vT vN) rfl ?_ | refine Ret_g (vC vT vN) rfl ?_ | refine Ret_int (vC (vA (AG rfl) (SZ rfl) rfl rfl (lB rfl)) vN) rfl ?_ | refine Ret_bool (vC (vA (AG rfl) (SZ rfl) rfl rfl (lB rfl)) vN) rfl ?_ | refine Ret_g (vC (vA (AG rfl) (SZ rfl) rfl rfl (lB rfl)) vN) rfl ?_); first | rfl | (simp_all; done)))
termination_by m n => m
end Go.Proofs.Ytlibajlfojkohaa


namespace Go.Proofs.Ytlibajlfojkohaa
open Go Go.Pure
attribute [local irreducible] PW POps POpsD PO PC Cond

set_option maxRecDepth 100000 in
set_option maxHeartbeats 4000000 in
theorem join10_pc {b c : Int} (hb : baseK b) (hc : baseK c) : ∀ m n : Nat, PC Try.prog 10 [.g (tyL m b).g, .g (tyL n c).g] ⟨[], [], []⟩ (.g (tyL (joinT m b n c).1 (joinT m b n c).2).g) ⟨[], [], []⟩
  | m, n => by
    have f1 := fits7_pc hb hc m n
    have f2 := fits7_pc hc hb n m
    have ih : ∀ m' n', m = m' + 1 → n = n' + 1 → PC Try.prog 10 [.g (tyL m' b).g, .g (tyL n' c).g] ⟨[], [], []⟩ (.g (tyL (joinT m' b n' c).1 (joinT m' b n' c).2).g) ⟨[], [], []⟩ := fun m' n' h1 h2 => join10_pc hb hc m' n'
    cases q1 : fitsT m b n c with
    | true =>
      rw [joinT_l q1]
      rw [q1] at f1
      generalize tyL m b = u at f1 f2
      generalize tyL n c = v at f1 f2
      obtain ⟨uk, ues⟩ := u
      obtain ⟨vk, ves⟩ := v
      refine PC_of_PW Try.func10 rfl rfl (rs := _) rfl (Nat.le_of_ble_eq_true (by kernel_rfl)) ?_
      (repeat (first | ((first | refine qA ?_ | refine qB ?_ | refine xN ?_ | refine xE ?_ | refine xT ?_); try show PW _ _ _ _ _ _) | refine r1 tabOk rfl rfl ?_ | refine r2 tabOk rfl rfl ?_ | refine r3 tabOk rfl rfl ?_ | refine r4 tabOk rfl rfl ?_ | refine r5 tabOk rfl rfl ?_ | refine r6 tabOk rfl rfl ?_ | ((first | apply oR rfl rfl | (apply dF rfl rfl rfl; intro _) | (apply dP rfl rfl rfl; intro _) | (apply dL rfl rfl rfl; intro _) | apply dC rfl rfl rfl rfl); (focus (first | exact cq f1 | exact cJ | exact mG | exact bT | exact nD)); try exact kQ) | refine xS ?_ | refine xR ?_ | refine xa rfl rfl mixed ?_ | refine xb rfl rfl mixed ?_ | refine xc rfl rfl mixed ?_ | refine xd rfl rfl mixed ?_ | refine xB ?_ | refine xt rfl ?_ | refine xf rfl ?_))
      (first | refine Ret_int (vC vT vN) rfl ?_ | refine Ret_bool (vC vT vN) rfl ?_ | refine Ret_g (vC vT vN) rfl ?_ | refine Ret_int (vC (vA (AG rfl) (SZ rfl) rfl rfl (lB rfl)) vN) rfl ?_ | refine Ret_bool (vC (vA (AG rfl) (SZ rfl) rfl rfl (lB rfl)) vN) rfl ?_ | refine Ret_g (vC (vA (AG rfl) (SZ rfl) rfl rfl (lB rfl)) vN) rfl ?_)
      rfl
    | false =>
      rw [q1] at f1
      cases q2 : fitsT n c m b with
      | true =>
        rw [joinT_r q1 q2]
        rw [q2] at f2
        generalize tyL m b = u at f1 f2
        generalize tyL n c = v at f1 f2
        obtain ⟨uk, ues⟩ := u
        obtain ⟨vk, ves⟩ := v
        refine PC_of_PW Try.func10 rfl rfl (rs := _) rfl (Nat.le_of_ble_eq_true (by kernel_rfl)) ?_
        (repeat (first | ((first | refine qA ?_ | refine qB ?_ | refine xN ?_ | refine xE ?_ | refine xT ?_); try show PW _ _ _ _ _ _) | refine r1 tabOk rfl rfl ?_ | refine r2 tabOk rfl rfl ?_ | refine r3 tabOk rfl rfl ?_ | refine r4 tabOk rfl rfl ?_ | refine r5 tabOk rfl rfl ?_ | refine r6 tabOk rfl rfl ?_ | ((first | apply oR rfl rfl | (apply dF rfl rfl rfl; intro _) | (apply dP rfl rfl rfl; intro _) | (apply dL rfl rfl rfl; intro _) | apply dC rfl rfl rfl rfl); (focus (first | exact cq f1 | exact cq f2 | exact cJ | exact mG | exact bT | exact nD)); try exact kQ) | refine xS ?_ | refine xR ?_ | refine xa rfl rfl mixed ?_ | refine xb rfl rfl mixed ?_ | refine xc rfl rfl mixed ?_ | refine xd rfl rfl mixed ?_ | refine xB ?_ | refine xt rfl ?_ | refine xf rfl ?_))
        (first | refine Ret_int (vC vT vN) rfl ?_ | refine Ret_bool (vC vT vN) rfl ?_ | refine Ret_g (vC vT vN) rfl ?_ | refine Ret_int (vC (vA (AG rfl) (SZ rfl) rfl rfl (lB rfl)) vN) rfl ?_ | refine Ret_bool (vC (vA (AG rfl) (SZ rfl) rfl rfl (lB rfl)) vN) rfl ?_ | refine Ret_g (vC (vA (AG rfl) (SZ rfl) rfl rfl (lB rfl)) vN) rfl ?_)
        rfl
      | false =>
        rw [q2] at f2
        have ho := of_pc 6
        match m, n with
        | 0, n =>
          rw [joinT_z q1 q2]
          generalize tyL n c = v at f1 f2
          obtain ⟨vk, ves⟩ := v
          rw [tyZ] at f1 f2 ⊢
          rcases hb with rfl | rfl | rfl | rfl | rfl
          all_goals
            refine PC_of_PW Try.func10 rfl rfl (rs := _) rfl (Nat.le_of_ble_eq_true (by kernel_rfl)) ?_
            (repeat (first | ((first | refine qA ?_ | refine qB ?_ | refine xN ?_ | refine xE ?_ | refine xT ?_); try show PW _ _ _ _ _ _) | refine r1 tabOk rfl rfl ?_ | refine r2 tabOk rfl rfl ?_ | refine r3 tabOk rfl rfl ?_ | refine r4 tabOk rfl rfl ?_ | refine r5 tabOk rfl rfl ?_ | refine r6 tabOk rfl rfl ?_ | ((first | apply oR rfl rfl | (apply dF rfl rfl rfl; intro _) | (apply dP rfl rfl rfl; intro _) | (apply dL rfl rfl rfl; intro _) | apply dC rfl rfl rfl rfl); (focus (first | exact cq f1 | exact cq f2 | exact cq ho | exact cJ | exact mG | exact bT | exact nD)); try exact kQ) | refine xS ?_ | refine xR ?_ | refine xa rfl rfl mixed ?_ | refine xb rfl rfl mixed ?_ | refine xc rfl rfl mixed ?_ | refine xd rfl rfl mixed ?_ | refine xB ?_ | refine xt rfl ?_ | refine xf rfl ?_))
            (first | refine Ret_int (vC vT vN) rfl ?_ | refine Ret_bool (vC vT vN) rfl ?_ | refine Ret_g (vC vT vN) rfl ?_ | refine Ret_int (vC (vA (AG rfl) (SZ rfl) rfl rfl (lB rfl)) vN) rfl ?_ | refine Ret_bool (vC (vA (AG rfl) (SZ rfl) rfl rfl (lB rfl)) vN) rfl ?_ | refine Ret_g (vC (vA (AG rfl) (SZ rfl) rfl rfl (lB rfl)) vN) rfl ?_)
            rfl
        | m + 1, 0 =>
          rw [joinT_z' q1 q2]
          rw [tyS, tyZ] at f1 f2 ⊢
          generalize (tyL m b).g = u at f1 f2
          rcases hc with rfl | rfl | rfl | rfl | rfl
          all_goals
            refine PC_of_PW Try.func10 rfl rfl (rs := _) rfl (Nat.le_of_ble_eq_true (by kernel_rfl)) ?_
            (repeat (first | ((first | refine qA ?_ | refine qB ?_ | refine xN ?_ | refine xE ?_ | refine xT ?_); try show PW _ _ _ _ _ _) | refine r1 tabOk rfl rfl ?_ | refine r2 tabOk rfl rfl ?_ | refine r3 tabOk rfl rfl ?_ | refine r4 tabOk rfl rfl ?_ | refine r5 tabOk rfl rfl ?_ | refine r6 tabOk rfl rfl ?_ | ((first | apply oR rfl rfl | (apply dF rfl rfl rfl; intro _) | (apply dP rfl rfl rfl; intro _) | (apply dL rfl rfl rfl; intro _) | apply dC rfl rfl rfl rfl); (focus (first | exact cq f1 | exact cq f2 | exact cq ho | exact cJ | exact mG | exact bT | exact nD)); try exact kQ) | refine xS ?_ | refine xR ?_ | refine xa rfl rfl mixed ?_ | refine xb rfl rfl mixed ?_ | refine xc rfl rfl mixed ?_ | refine xd rfl rfl mixed ?_ | refine xB ?_ | refine xt rfl ?_ | refine xf rfl ?_))
            (first | refine Ret_int (vC vT vN) rfl ?_ | refine Ret_bool (vC vT vN) rfl ?_ | refine Ret_g (vC vT vN) rfl ?_ | refine Ret_int (vC (vA (AG rfl) (SZ rfl) rfl rfl (lB rfl)) vN) rfl ?_ | refine Ret_bool (vC (vA (AG rfl) (SZ rfl) rfl rfl (lB rfl)) vN) rfl ?_ | refine Ret_g (vC (vA (AG rfl) (SZ rfl) rfl rfl (lB rfl)) vN) rfl ?_)
            rfl
        | m + 1, n + 1 =>
          have ih := ih m n rfl rfl
          rw [joinT_s q1 q2]
          rw [tyS, tyS] at f1 f2 ⊢
          dsimp only
          rw [tyS]
          generalize tyL (joinT m b n c).1 (joinT m b n c).2 = z at ih
          have hl := list_pc z
          generalize tyL m b = u at f1 f2 ih
          generalize tyL n c = v at f1 f2 ih
          obtain ⟨uk, ues⟩ := u
          obtain ⟨vk, ves⟩ := v
          obtain ⟨zk, zes⟩ := z
          refine PC_of_PW Try.func10 rfl rfl (rs := _) rfl (Nat.le_of_ble_eq_true (by kernel_rfl)) ?_
          (repeat (first | ((first | refine qA ?_ | refine qB ?_ | refine xN ?_ | refine xE ?_ | refine xT ?_); try show PW _ _ _ _ _ _) | refine r1 tabOk rfl rfl ?_ | refine r2 tabOk rfl rfl ?_ | refine r3 tabOk rfl rfl ?_ | refine r4 tabOk rfl rfl ?_ | refine r5 tabOk rfl rfl ?_ | refine r6 tabOk rfl rfl ?_ | ((first | apply oR rfl rfl | (apply dF rfl rfl rfl; intro _) | (apply dP rfl rfl rfl; intro _) | (apply dL rfl rfl rfl; intro _) | apply dC rfl rfl rfl rfl); (focus (first | exact cq f1 | exact cq f2 | exact cq ih | exact cq hl | exact iA (g := ((VTy.mk uk ues)).g) rfl (EL rfl) (SZ rfl) rfl rfl (by decide) rfl rfl | exact iA (g := ((VTy.mk vk ves)).g) rfl (EL rfl) (SZ rfl) rfl rfl (by decide) rfl rfl | exact cJ | exact mG | exact bT | exact nD)); try exact kQ) | refine xS ?_ | refine xR ?_ | refine xa rfl rfl mixed ?_ | refine xb rfl rfl mixed ?_ | refine xc rfl rfl mixed ?_ | refine xd rfl rfl mixed ?_ | refine xB ?_ | refine xt rfl ?_ | refine xf rfl ?_))
          (first | refine Ret_int (vC vT vN) rfl ?_ | refine Ret_bool (vC vT vN) rfl ?_ | refine Ret_g (vC vT vN) rfl ?_ | refine Ret_int (vC (vA (AG rfl) (SZ rfl) rfl rfl (lB rfl)) vN) rfl ?_ | refine Ret_bool (vC (vA (AG rfl) (SZ rfl) rfl rfl (lB rfl)) vN) rfl ?_ | refine Ret_g (vC (vA (AG rfl) (SZ rfl) rfl rfl (lB rfl)) vN) rfl ?_)
          rfl
termination_by m n => m

set_option maxRecDepth 100000 in
set_option maxHeartbeats 4000000 in
theorem join12_pc {b c : Int} (hb : baseK b) (hc : baseK c) : ∀ m n : Nat, m ≤ 1000 → n ≤ 1000 → PC Try.prog 12 [.g (.str (bstr (codeL m b))), .g (.str (bstr (codeL n c)))] ⟨[], [], []⟩ (.g (.str (bstr (codeL (joinT m b n c).1 (joinT m b n c).2)))) ⟨[], [], []⟩
  | m, n, hm, hn => by
    have f1 := fits8_pc hb hc m n
    have f2 := fits8_pc hc hb n m
    have ih : ∀ m' n', m = m' + 1 → n = n' + 1 → PC Try.prog 12 [.g (.str (bstr (codeL m' b))), .g (.str (bstr (codeL n' c)))] ⟨[], [], []⟩ (.g (.str (bstr (codeL (joinT m' b n' c).1 (joinT m' b n' c).2)))) ⟨[], [], []⟩ := fun m' n' h1 h2 => join12_pc hb hc m' n' (by omega) (by omega)
    have g1 := code_head m b
    have g2 := code_head n c
    have l1 := letter_nat hb
    have l2 := letter_nat hc
    cases q1 : fitsT m b n c with
    | true =>
      rw [joinT_l q1]
      rw [q1] at f1
      refine PC_of_PW Try.func12 rfl rfl (rs := _) rfl (Nat.le_of_ble_eq_true (by kernel_rfl)) ?_
      (repeat (first | ((first | refine qA ?_ | refine qB ?_ | refine xN ?_ | refine xE ?_ | refine xT ?_); try show PW _ _ _ _ _ _) | refine r1 tabOk rfl rfl ?_ | refine r2 tabOk rfl rfl ?_ | refine r3 tabOk rfl rfl ?_ | refine r4 tabOk rfl rfl ?_ | refine r5 tabOk rfl rfl ?_ | refine r6 tabOk rfl rfl ?_ | ((first | apply oR rfl rfl | (apply dF rfl rfl rfl; intro _) | (apply dP rfl rfl rfl; intro _) | (apply dL rfl rfl rfl; intro _) | apply dC rfl rfl rfl rfl); (focus (first | exact cq f1 | exact cJ | exact mG | exact bT | exact nD)); try exact kQ) | refine xS ?_ | refine xR ?_ | refine xa rfl rfl mixed ?_ | refine xb rfl rfl mixed ?_ | refine xc rfl rfl mixed ?_ | refine xd rfl rfl mixed ?_ | refine xB ?_ | refine xt rfl ?_ | refine xf rfl ?_))
      (first | refine Ret_int (vC vT vN) rfl ?_ | refine Ret_bool (vC vT vN) rfl ?_ | refine Ret_g (vC vT vN) rfl ?_ | refine Ret_int (vC (vA (AG rfl) (SZ rfl) rfl rfl (lB rfl)) vN) rfl ?_ | refine Ret_bool (vC (vA (AG rfl) (SZ rfl) rfl rfl (lB rfl)) vN) rfl ?_ | refine Ret_g (vC (vA (AG rfl) (SZ rfl) rfl rfl (lB rfl)) vN) rfl ?_)
      rfl
    | false =>
      rw [q1] at f1
      cases q2 : fitsT n c m b with
      | true =>
        rw [joinT_r q1 q2]
        rw [q2] at f2
        refine PC_of_PW Try.func12 rfl rfl (rs := _) rfl (Nat.le_of_ble_eq_true (by kernel_rfl)) ?_
        (repeat (first | ((first | refine qA ?_ | refine qB ?_ | refine xN ?_ | refine xE ?_ | refine xT ?_); try show PW _ _ _ _ _ _) | refine r1 tabOk rfl rfl ?_ | refine r2 tabOk rfl rfl ?_ | refine r3 tabOk rfl rfl ?_ | refine r4 tabOk rfl rfl ?_ | refine r5 tabOk rfl rfl ?_ | refine r6 tabOk rfl rfl ?_ | ((first | apply oR rfl rfl | (apply dF rfl rfl rfl; intro _) | (apply dP rfl rfl rfl; intro _) | (apply dL rfl rfl rfl; intro _) | apply dC rfl rfl rfl rfl); (focus (first | exact cq f1 | exact cq f2 | exact cJ | exact mG | exact bT | exact nD)); try exact kQ) | refine xS ?_ | refine xR ?_ | refine xa rfl rfl mixed ?_ | refine xb rfl rfl mixed ?_ | refine xc rfl rfl mixed ?_ | refine xd rfl rfl mixed ?_ | refine xB ?_ | refine xt rfl ?_ | refine xf rfl ?_))
        (first | refine Ret_int (vC vT vN) rfl ?_ | refine Ret_bool (vC vT vN) rfl ?_ | refine Ret_g (vC vT vN) rfl ?_ | refine Ret_int (vC (vA (AG rfl) (SZ rfl) rfl rfl (lB rfl)) vN) rfl ?_ | refine Ret_bool (vC (vA (AG rfl) (SZ rfl) rfl rfl (lB rfl)) vN) rfl ?_ | refine Ret_g (vC (vA (AG rfl) (SZ rfl) rfl rfl (lB rfl)) vN) rfl ?_)
        rfl
      | false =>
        rw [q2] at f2
        match m, n with
        | 0, n =>
          rw [joinT_z q1 q2]
          rw [if_pos rfl] at g1
          refine PC_of_PW Try.func12 rfl rfl (rs := _) rfl (Nat.le_of_ble_eq_true (by kernel_rfl)) ?_
          (repeat' (first | (first | ((first | refine qA ?_ | refine qB ?_ | refine xN ?_ | refine xE ?_ | refine xT ?_); try show PW _ _ _ _ _ _) | refine r1 tabOk rfl rfl ?_ | refine r2 tabOk rfl rfl ?_ | refine r3 tabOk rfl rfl ?_ | refine r4 tabOk rfl rfl ?_ | refine r5 tabOk rfl rfl ?_ | refine r6 tabOk rfl rfl ?_ | ((first | apply oR rfl rfl | (apply dF rfl rfl rfl; intro _) | (apply dP rfl rfl rfl; intro _) | (apply dL rfl rfl rfl; intro _) | apply dC rfl rfl rfl rfl); (focus (first | exact cq f1 | exact cq f2 | exact PO_index rfl (ST rfl) rfl rfl (by decide) g1 | exact cJ | exact mG | exact bT | exact nD)); try exact kQ) | refine xS ?_ | refine xR ?_ | refine xa rfl rfl mixed ?_ | refine xb rfl rfl mixed ?_ | refine xc rfl rfl mixed ?_ | refine xd rfl rfl mixed ?_ | refine xB ?_ | refine xt rfl ?_ | refine xf rfl ?_) | (refine POps_split rfl rfl (fun h => ?_) (fun h => ?_) <;> fail_if_success (first | (have : true = true := h) | (have : false = false := h))) | (refine POpsD_split rfl rfl (fun h => ?_) (fun h => ?_) <;> fail_if_success (first | (have : true = true := h) | (have : false = false := h))) | refine PW_cond rfl (fun h => ?_) (fun h => ?_)))
          · exact absurd (of_decide_eq_true h) l1
          · (first | refine Ret_int (vC vT vN) rfl ?_ | refine Ret_bool (vC vT vN) rfl ?_ | refine Ret_g (vC vT vN) rfl ?_ | refine Ret_int (vC (vA (AG rfl) (SZ rfl) rfl rfl (lB rfl)) vN) rfl ?_ | refine Ret_bool (vC (vA (AG rfl) (SZ rfl) rfl rfl (lB rfl)) vN) rfl ?_ | refine Ret_g (vC (vA (AG rfl) (SZ rfl) rfl rfl (lB rfl)) vN) rfl ?_)
            rfl
        | m + 1, 0 =>
          rw [joinT_z' q1 q2]
          rw [if_neg (by omega)] at g1
          rw [if_pos rfl] at g2
          refine PC_of_PW Try.func12 rfl rfl (rs := _) rfl (Nat.le_of_ble_eq_true (by kernel_rfl)) ?_
          (repeat' (first | (first | ((first | refine qA ?_ | refine qB ?_ | refine xN ?_ | refine xE ?_ | refine xT ?_); try show PW _ _ _ _ _ _) | refine r1 tabOk rfl rfl ?_ | refine r2 tabOk rfl rfl ?_ | refine r3 tabOk rfl rfl ?_ | refine r4 tabOk rfl rfl ?_ | refine r5 tabOk rfl rfl ?_ | refine r6 tabOk rfl rfl ?_ | ((first | apply oR rfl rfl | (apply dF rfl rfl rfl; intro _) | (apply dP rfl rfl rfl; intro _) | (apply dL rfl rfl rfl; intro _) | apply dC rfl rfl rfl rfl); (focus (first | exact cq f1 | exact cq f2 | exact PO_index rfl (ST rfl) rfl rfl (by decide) g1 | exact PO_index rfl (ST rfl) rfl rfl (by decide) g2 | exact cJ | exact mG | exact bT | exact nD)); try exact kQ) | refine xS ?_ | refine xR ?_ | refine xa rfl rfl mixed ?_ | refine xb rfl rfl mixed ?_ | refine xc rfl rfl mixed ?_ | refine xd rfl rfl mixed ?_ | refine xB ?_ | refine xt rfl ?_ | refine xf rfl ?_) | (refine POps_split rfl rfl (fun h => ?_) (fun h => ?_) <;> fail_if_success (first | (have : true = true := h) | (have : false = false := h))) | (refine POpsD_split rfl rfl (fun h => ?_) (fun h => ?_) <;> fail_if_success (first | (have : true = true := h) | (have : false = false := h))) | refine PW_cond rfl (fun h => ?_) (fun h => ?_)))
          · exact absurd (of_decide_eq_true h) l2
          · (first | refine Ret_int (vC vT vN) rfl ?_ | refine Ret_bool (vC vT vN) rfl ?_ | refine Ret_g (vC vT vN) rfl ?_ | refine Ret_int (vC (vA (AG rfl) (SZ rfl) rfl rfl (lB rfl)) vN) rfl ?_ | refine Ret_bool (vC (vA (AG rfl) (SZ rfl) rfl rfl (lB rfl)) vN) rfl ?_ | refine Ret_g (vC (vA (AG rfl) (SZ rfl) rfl rfl (lB rfl)) vN) rfl ?_)
            rfl
        | m + 1, n + 1 =>
          have ih := ih m n rfl rfl
          have hjl := (join_base hb hc m n).2
          rw [joinT_s q1 q2]
          dsimp only
          rw [if_neg (by omega)] at g1 g2
          have t1 := code_tail m b
          have t2 := code_tail n c
          have s1 : ((bstr (codeL (m + 1) b)).size : Int) ≥ 1 := by rw [bstr_size, codeL_len]; omega
          have s2 : ((bstr (codeL (n + 1) c)).size : Int) ≥ 1 := by rw [bstr_size, codeL_len]; omega
          have hcat : (ByteArray.mk #[76]) ++ bstr (codeL (joinT m b n c).1 (joinT m b n c).2) = bstr (codeL ((joinT m b n c).1 + 1) (joinT m b n c).2) := bstr_cat [76] _
          have hs : (bstr (codeL (joinT m b n c).1 (joinT m b n c).2)).size ≤ 3000 := by rw [bstr_size, codeL_len]; omega
          generalize bstr (codeL ((joinT m b n c).1 + 1) (joinT m b n c).2) = R at hcat
          generalize bstr (codeL (joinT m b n c).1 (joinT m b n c).2) = z at ih hs hcat
          generalize bstr (codeL (m + 1) b) = A at f1 f2 g1 t1 s1
          generalize bstr (codeL (n + 1) c) = B at f1 f2 g2 t2 s2
          refine PC_of_PW Try.func12 rfl rfl (rs := _) rfl (Nat.le_of_ble_eq_true (by kernel_rfl)) ?_
          (repeat (first | ((first | refine qA ?_ | refine qB ?_ | refine xN ?_ | refine xE ?_ | refine xT ?_); try show PW _ _ _ _ _ _) | refine r1 tabOk rfl rfl ?_ | refine r2 tabOk rfl rfl ?_ | refine r3 tabOk rfl rfl ?_ | refine r4 tabOk rfl rfl ?_ | refine r5 tabOk rfl rfl ?_ | refine r6 tabOk rfl rfl ?_ | ((first | apply oR rfl rfl | (apply dF rfl rfl rfl; intro _) | (apply dP rfl rfl rfl; intro _) | (apply dL rfl rfl rfl; intro _) | apply dC rfl rfl rfl rfl); (focus (first | exact cq f1 | exact cq f2 | exact cq ih | exact PO_index rfl (ST rfl) rfl rfl (by decide) g1 | exact PO_index rfl (ST rfl) rfl rfl (by decide) g2 | exact PO_as (PO_slice_str rfl (ST rfl) rfl rfl rfl (by decide) s1 (Int.le_refl _)) (congrArg (fun x => PV.g (.str x)) t1) | exact PO_as (PO_slice_str rfl (ST rfl) rfl rfl rfl (by decide) s2 (Int.le_refl _)) (congrArg (fun x => PV.g (.str x)) t2) | exact PO_as (PO_concat rfl rfl rfl (by show 1 + z.size ≤ _; omega)) (congrArg (fun x => PV.g (.str x)) hcat) | exact cJ | exact mG | exact bT | exact nD)); try exact kQ) | refine xS ?_ | refine xR ?_ | refine xa rfl rfl mixed ?_ | refine xb rfl rfl mixed ?_ | refine xc rfl rfl mixed ?_ | refine xd rfl rfl mixed ?_ | refine xB ?_ | refine xt rfl ?_ | refine xf rfl ?_))
          (first | refine Ret_int (vC vT vN) rfl ?_ | refine Ret_bool (vC vT vN) rfl ?_ | refine Ret_g (vC vT vN) rfl ?_ | refine Ret_int (vC (vA (AG rfl) (SZ rfl) rfl rfl (lB rfl)) vN) rfl ?_ | refine Ret_bool (vC (vA (AG rfl) (SZ rfl) rfl rfl (lB rfl)) vN) rfl ?_ | refine Ret_g (vC (vA (AG rfl) (SZ rfl) rfl rfl (lB rfl)) vN) rfl ?_)
          rfl
termination_by m n => m
end Go.Proofs.Ytlibajlfojkohaa


namespace Go.Proofs.Ytlibajlfojkohaa
open Go Go.Pure
attribute [local irreducible] PW POps POpsD PO PC Cond

theorem M45 : Try.prog.underlying 45 = some (.map 5 3) := by kernel_rfl
theorem M46 : Try.prog.underlying 46 = some (.map 9 9) := by kernel_rfl
theorem U5 : Try.prog.underlying 5 = some (.int .u8) := by kernel_rfl
theorem U9 : Try.prog.underlying 9 = some .string := by kernel_rfl

set_option maxRecDepth 100000 in
set_option maxHeartbeats 4000000 in
theorem decode_pc {b : Int} (hb : baseK b) : ∀ n : Nat, PC Try.prog 11 [.g (.str (bstr (codeL n b)))] ⟨[], [], []⟩ (.g (tyL n b).g) ⟨[], [], []⟩
  | 0 => by
    have g1 := code_head 0 b
    rw [if_pos rfl] at g1
    generalize bstr (codeL 0 b) = A at g1
    rcases hb with rfl | rfl | rfl | rfl | rfl
    all_goals
      refine PC_of_PW Try.func11 rfl rfl (rs := _) rfl (Nat.le_of_ble_eq_true (by kernel_rfl)) ?_
      (repeat (first | ((first | refine qA ?_ | refine qB ?_ | refine xN ?_ | refine xE ?_ | refine xT ?_); try show PW _ _ _ _ _ _) | refine r1 tabOk rfl rfl ?_ | refine r2 tabOk rfl rfl ?_ | refine r3 tabOk rfl rfl ?_ | refine r4 tabOk rfl rfl ?_ | refine r5 tabOk rfl rfl ?_ | refine r6 tabOk rfl rfl ?_ | ((first | apply oR rfl rfl | (apply dF rfl rfl rfl; intro _) | (apply dP rfl rfl rfl; intro _) | (apply dL rfl rfl rfl; intro _) | apply dC rfl rfl rfl rfl); (focus (first | exact PO_index rfl (ST rfl) rfl rfl (by decide) g1 | exact PO_makeMap rfl | exact PO_insert rfl M45 U5 rfl rfl rfl rfl rfl rfl | exact PO_lookup rfl M45 U5 (ZR rfl) rfl rfl rfl rfl rfl rfl | exact cJ | exact mG | exact bT | exact nD)); try exact kQ) | refine xS ?_ | refine xR ?_ | refine xa rfl rfl mixed ?_ | refine xb rfl rfl mixed ?_ | refine xc rfl rfl mixed ?_ | refine xd rfl rfl mixed ?_ | refine xB ?_ | refine xt rfl ?_ | refine xf rfl ?_))
      (first | refine Ret_int (vC vT vN) rfl ?_ | refine Ret_bool (vC vT vN) rfl ?_ | refine Ret_g (vC vT vN) rfl ?_ | refine Ret_int (vC (vA (AG rfl) (SZ rfl) rfl rfl (lB rfl)) vN) rfl ?_ | refine Ret_bool (vC (vA (AG rfl) (SZ rfl) rfl rfl (lB rfl)) vN) rfl ?_ | refine Ret_g (vC (vA (AG rfl) (SZ rfl) rfl rfl (lB rfl)) vN) rfl ?_)
      rfl
  | n + 1 => by
    have ih := decode_pc hb n
    have g1 := code_head (n + 1) b
    have t1 := code_tail n b
    rw [if_neg (by omega)] at g1
    have s1 : ((bstr (codeL (n + 1) b)).size : Int) ≥ 1 := by rw [bstr_size, codeL_len]; omega
    generalize bstr (codeL (n + 1) b) = A at g1 t1 s1
    rw [tyS]
    generalize tyL n b = u at ih
    obtain ⟨uk, ues⟩ := u
    refine PC_of_PW Try.func11 rfl rfl (rs := _) rfl (Nat.le_of_ble_eq_true (by kernel_rfl)) ?_
    (repeat (first | ((first | refine qA ?_ | refine qB ?_ | refine xN ?_ | refine xE ?_ | refine xT ?_); try show PW _ _ _ _ _ _) | refine r1 tabOk rfl rfl ?_ | refine r2 tabOk rfl rfl ?_ | refine r3 tabOk rfl rfl ?_ | refine r4 tabOk rfl rfl ?_ | refine r5 tabOk rfl rfl ?_ | refine r6 tabOk rfl rfl ?_ | ((first | apply oR rfl rfl | (apply dF rfl rfl rfl; intro _) | (apply dP rfl rfl rfl; intro _) | (apply dL rfl rfl rfl; intro _) | apply dC rfl rfl rfl rfl); (focus (first | exact cq ih | exact PO_index rfl (ST rfl) rfl rfl (by decide) g1 | exact PO_as (PO_slice_str rfl (ST rfl) rfl rfl rfl (by decide) s1 (Int.le_refl _)) (congrArg (fun x => PV.g (.str x)) t1) | exact cJ | exact mG | exact bT | exact nD)); try exact kQ) | refine xS ?_ | refine xR ?_ | refine xa rfl rfl mixed ?_ | refine xb rfl rfl mixed ?_ | refine xc rfl rfl mixed ?_ | refine xd rfl rfl mixed ?_ | refine xB ?_ | refine xt rfl ?_ | refine xf rfl ?_))
    (first | refine Ret_int (vC vT vN) rfl ?_ | refine Ret_bool (vC vT vN) rfl ?_ | refine Ret_g (vC vT vN) rfl ?_ | refine Ret_int (vC (vA (AG rfl) (SZ rfl) rfl rfl (lB rfl)) vN) rfl ?_ | refine Ret_bool (vC (vA (AG rfl) (SZ rfl) rfl rfl (lB rfl)) vN) rfl ?_ | refine Ret_g (vC (vA (AG rfl) (SZ rfl) rfl rfl (lB rfl)) vN) rfl ?_)
    rfl

set_option maxRecDepth 100000 in
set_option maxHeartbeats 4000000 in
theorem same9_pc : ∀ (n : Nat) (b : Int), PC Try.prog 9 [.g (tyL n b).g, .g (tyL n b).g] ⟨[], [], []⟩ (.g (.bool true)) ⟨[], [], []⟩
  | 0, b => by
    rw [tyZ]
    refine PC_of_PW Try.func9 rfl rfl (rs := _) rfl (Nat.le_of_ble_eq_true (by kernel_rfl)) ?_
    (repeat' (first | (first | ((first | refine qA ?_ | refine qB ?_ | refine xN ?_ | refine xE ?_ | refine xT ?_); try show PW _ _ _ _ _ _) | refine r1 tabOk rfl rfl ?_ | refine r2 tabOk rfl rfl ?_ | refine r3 tabOk rfl rfl ?_ | refine r4 tabOk rfl rfl ?_ | refine r5 tabOk rfl rfl ?_ | refine r6 tabOk rfl rfl ?_ | ((first | apply oR rfl rfl | (apply dF rfl rfl rfl; intro _) | (apply dP rfl rfl rfl; intro _) | (apply dL rfl rfl rfl; intro _) | apply dC rfl rfl rfl rfl); (focus (first | exact cJ | exact mG | exact bT | exact nD)); try exact kQ) | refine xU [3] rfl ?_ | refine xR ?_ | refine xa rfl rfl mixed ?_ | refine xb rfl rfl mixed ?_ | refine xc rfl rfl mixed ?_ | refine xd rfl rfl mixed ?_ | refine xB ?_ | refine xt rfl ?_ | refine xf rfl ?_) | (refine POps_split rfl rfl (fun h => ?_) (fun h => ?_) <;> fail_if_success (first | (have : true = true := h) | (have : false = false := h))) | (refine POpsD_split rfl rfl (fun h => ?_) (fun h => ?_) <;> fail_if_success (first | (have : true = true := h) | (have : false = false := h))) | refine PW_cond rfl (fun h => ?_) (fun h => ?_)))
    all_goals (first | (exfalso; simp_all; done) | skip)
    (repeat (first | ((first | refine qA ?_ | refine qB ?_ | refine xN ?_ | refine xE ?_ | refine xT ?_); try show PW _ _ _ _ _ _) | refine r1 tabOk rfl rfl ?_ | refine r2 tabOk rfl rfl ?_ | refine r3 tabOk rfl rfl ?_ | refine r4 tabOk rfl rfl ?_ | refine r5 tabOk rfl rfl ?_ | refine r6 tabOk rfl rfl ?_ | ((first | apply oR rfl rfl | (apply dF rfl rfl rfl; intro _) | (apply dP rfl rfl rfl; intro _) | (apply dL rfl rfl rfl; intro _) | apply dC rfl rfl rfl rfl); (focus (first | exact cJ | exact mG | exact bT | exact nD)); try exact kQ) | refine xS ?_ | refine xR ?_ | refine xa rfl rfl mixed ?_ | refine xb rfl rfl mixed ?_ | refine xc rfl rfl mixed ?_ | refine xd rfl rfl mixed ?_ | refine xB ?_ | refine xt rfl ?_ | refine xf rfl ?_))
    refine PW_loop (S := Unit) (fun _ => slots [(22, .g (.int .i64 0)), (23, .g (.int .i64 0))]) (fun _ => ⟨[[.g (.int .i64 b), .g (.sl [])], [.g (.int .i64 b), .g (.sl [])]], [], []⟩) (fun _ => True) (fun _ => 0) () trivial (SlotsOk.le ⟨.inl rfl, .inl rfl, trivial⟩) (HLe.of_eq rfl) (fun _ _ => ?_)
    (repeat (first | ((first | refine qA ?_ | refine qB ?_ | refine xN ?_ | refine xE ?_ | refine xT ?_); try show PW _ _ _ _ _ _) | refine r1 tabOk rfl rfl ?_ | refine r2 tabOk rfl rfl ?_ | refine r3 tabOk rfl rfl ?_ | refine r4 tabOk rfl rfl ?_ | refine r5 tabOk rfl rfl ?_ | refine r6 tabOk rfl rfl ?_ | ((first | apply oR rfl rfl | (apply dF rfl rfl rfl; intro _) | (apply dP rfl rfl rfl; intro _) | (apply dL rfl rfl rfl; intro _) | apply dC rfl rfl rfl rfl); (focus (first | exact cJ | exact mG | exact bT | exact nD)); try exact kQ) | refine xS ?_ | refine xR ?_ | refine xa rfl rfl mixed ?_ | refine xb rfl rfl mixed ?_ | refine xc rfl rfl mixed ?_ | refine xd rfl rfl mixed ?_ | refine xB ?_ | refine xt rfl ?_ | refine xf rfl ?_))
    (first | refine Ret_int (vC vT vN) rfl ?_ | refine Ret_bool (vC vT vN) rfl ?_ | refine Ret_g (vC vT vN) rfl ?_ | refine Ret_int (vC (vA (AG rfl) (SZ rfl) rfl rfl (lB rfl)) vN) rfl ?_ | refine Ret_bool (vC (vA (AG rfl) (SZ rfl) rfl rfl (lB rfl)) vN) rfl ?_ | refine Ret_g (vC (vA (AG rfl) (SZ rfl) rfl rfl (lB rfl)) vN) rfl ?_)
    rfl
  | n + 1, b => by
    have ih := same9_pc n b
    rw [tyS]
    generalize tyL n b = u at ih
    obtain ⟨uk, ues⟩ := u
    refine PC_of_PW Try.func9 rfl rfl (rs := _) rfl (Nat.le_of_ble_eq_true (by kernel_rfl)) ?_
    (repeat (first | ((first | refine qA ?_ | refine qB ?_ | refine xN ?_ | refine xE ?_ | refine xT ?_); try show PW _ _ _ _ _ _) | refine r1 tabOk rfl rfl ?_ | refine r2 tabOk rfl rfl ?_ | refine r3 tabOk rfl rfl ?_ | refine r4 tabOk rfl rfl ?_ | refine r5 tabOk rfl rfl ?_ | refine r6 tabOk rfl rfl ?_ | ((first | apply oR rfl rfl | (apply dF rfl rfl rfl; intro _) | (apply dP rfl rfl rfl; intro _) | (apply dL rfl rfl rfl; intro _) | apply dC rfl rfl rfl rfl); (focus (first | exact cJ | exact mG | exact bT | exact nD)); try exact kQ) | refine xS ?_ | refine xR ?_ | refine xa rfl rfl mixed ?_ | refine xb rfl rfl mixed ?_ | refine xc rfl rfl mixed ?_ | refine xd rfl rfl mixed ?_ | refine xB ?_ | refine xt rfl ?_ | refine xf rfl ?_))
    refine PW_loop (S := Nat) (fun i => slots [(2, .ptr 0 0), (3, .ptr 1 0), (22, .g (.int .i64 1)), (23, .g (.int .i64 i))]) (fun _ => ⟨[[.g (.int .i64 5), .g (.sl [(VTy.mk uk ues).g])], [.g (.int .i64 5), .g (.sl [(VTy.mk uk ues).g])]], [], []⟩) (fun i => i ≤ 1) (fun i => 1 - i) 0 (by omega) (SlotsOk.le ⟨.inl rfl, .inl rfl, .inl rfl, .inl rfl, trivial⟩) (HLe.of_eq rfl) (fun i hi => ?_)
    match i with
    | 0 =>
      (repeat (first | ((first | refine qA ?_ | refine qB ?_ | refine xN ?_ | refine xE ?_ | refine xT ?_); try show PW _ _ _ _ _ _) | refine r1 tabOk rfl rfl ?_ | refine r2 tabOk rfl rfl ?_ | refine r3 tabOk rfl rfl ?_ | refine r4 tabOk rfl rfl ?_ | refine r5 tabOk rfl rfl ?_ | refine r6 tabOk rfl rfl ?_ | ((first | apply oR rfl rfl | (apply dF rfl rfl rfl; intro _) | (apply dP rfl rfl rfl; intro _) | (apply dL rfl rfl rfl; intro _) | apply dC rfl rfl rfl rfl); (focus (first | exact cq ih | exact iA (g := ((VTy.mk uk ues)).g) rfl (EL rfl) (SZ rfl) rfl rfl (by decide) rfl rfl | exact cJ | exact mG | exact bT | exact nD)); try exact kQ) | refine xS ?_ | refine xR ?_ | refine xa rfl rfl mixed ?_ | refine xb rfl rfl mixed ?_ | refine xc rfl rfl mixed ?_ | refine xd rfl rfl mixed ?_ | refine xB ?_ | refine xt rfl ?_ | refine xf rfl ?_))
      exact ⟨1, by omega, by omega, SlotsOk.le ⟨.inl rfl, .inl rfl, .inl rfl, .inl rfl, trivial⟩, HLe.of_eq rfl⟩
    | 1 =>
      (repeat (first | ((first | refine qA ?_ | refine qB ?_ | refine xN ?_ | refine xE ?_ | refine xT ?_); try show PW _ _ _ _ _ _) | refine r1 tabOk rfl rfl ?_ | refine r2 tabOk rfl rfl ?_ | refine r3 tabOk rfl rfl ?_ | refine r4 tabOk rfl rfl ?_ | refine r5 tabOk rfl rfl ?_ | refine r6 tabOk rfl rfl ?_ | ((first | apply oR rfl rfl | (apply dF rfl rfl rfl; intro _) | (apply dP rfl rfl rfl; intro _) | (apply dL rfl rfl rfl; intro _) | apply dC rfl rfl rfl rfl); (focus (first | exact cJ | exact mG | exact bT | exact nD)); try exact kQ) | refine xS ?_ | refine xR ?_ | refine xa rfl rfl mixed ?_ | refine xb rfl rfl mixed ?_ | refine xc rfl rfl mixed ?_ | refine xd rfl rfl mixed ?_ | refine xB ?_ | refine xt rfl ?_ | refine xf rfl ?_))
      (first | refine Ret_int (vC vT vN) rfl ?_ | refine Ret_bool (vC vT vN) rfl ?_ | refine Ret_g (vC vT vN) rfl ?_ | refine Ret_int (vC (vA (AG rfl) (SZ rfl) rfl rfl (lB rfl)) vN) rfl ?_ | refine Ret_bool (vC (vA (AG rfl) (SZ rfl) rfl rfl (lB rfl)) vN) rfl ?_ | refine Ret_g (vC (vA (AG rfl) (SZ rfl) rfl rfl (lB rfl)) vN) rfl ?_)
      rfl
    | i + 2 => omega

set_option maxRecDepth 100000 in
set_option maxHeartbeats 4000000 in
theorem name15_pc {b : Int} (hb : baseK b) : ∀ n : Nat, n ≤ 1000 → PC Try.prog 15 [.g (tyL n b).g] ⟨[], [], []⟩ (.g (.str (bstr (nameL n b)))) ⟨[], [], []⟩
  | 0, _ => by
    rw [tyZ]
    rcases hb with rfl | rfl | rfl | rfl | rfl
    all_goals
      refine PC_of_PW Try.func15 rfl rfl (rs := _) rfl (Nat.le_of_ble_eq_true (by kernel_rfl)) ?_
      (repeat (first | ((first | refine qA ?_ | refine qB ?_ | refine xN ?_ | refine xE ?_ | refine xT ?_); try show PW _ _ _ _ _ _) | refine r1 tabOk rfl rfl ?_ | refine r2 tabOk rfl rfl ?_ | refine r3 tabOk rfl rfl ?_ | refine r4 tabOk rfl rfl ?_ | refine r5 tabOk rfl rfl ?_ | refine r6 tabOk rfl rfl ?_ | ((first | apply oR rfl rfl | (apply dF rfl rfl rfl; intro _) | (apply dP rfl rfl rfl; intro _) | (apply dL rfl rfl rfl; intro _) | apply dC rfl rfl rfl rfl); (focus (first | exact cJ | exact mG | exact bT | exact nD)); try exact kQ) | refine xS ?_ | refine xR ?_ | refine xa rfl rfl mixed ?_ | refine xb rfl rfl mixed ?_ | refine xc rfl rfl mixed ?_ | refine xd rfl rfl mixed ?_ | refine xB ?_ | refine xt rfl ?_ | refine xf rfl ?_))
      (first | refine Ret_int (vC vT vN) rfl ?_ | refine Ret_bool (vC vT vN) rfl ?_ | refine Ret_g (vC vT vN) rfl ?_ | refine Ret_int (vC (vA (AG rfl) (SZ rfl) rfl rfl (lB rfl)) vN) rfl ?_ | refine Ret_bool (vC (vA (AG rfl) (SZ rfl) rfl rfl (lB rfl)) vN) rfl ?_ | refine Ret_g (vC (vA (AG rfl) (SZ rfl) rfl rfl (lB rfl)) vN) rfl ?_)
      rfl
  | n + 1, hn => by
    have ih := name15_pc hb n (by omega)
    have hs : (bstr (nameL n b)).size ≤ 9001 := by rw [bstr_size]; have := nameL_len n b; omega
    have hc : (ByteArray.mk #[108, 105, 115, 116, 32, 111, 102, 32]) ++ bstr (nameL n b) = bstr (nameL (n + 1) b) := bstr_cat [108, 105, 115, 116, 32, 111, 102, 32] (nameL n b)
    generalize bstr (nameL (n + 1) b) = R at hc
    rw [tyS]
    generalize tyL n b = u at ih
    obtain ⟨uk, ues⟩ := u
    generalize bstr (nameL n b) = z at ih hs hc
    refine PC_of_PW Try.func15 rfl rfl (rs := _) rfl (Nat.le_of_ble_eq_true (by kernel_rfl)) ?_
    (repeat (first | ((first | refine qA ?_ | refine qB ?_ | refine xN ?_ | refine xE ?_ | refine xT ?_); try show PW _ _ _ _ _ _) | refine r1 tabOk rfl rfl ?_ | refine r2 tabOk rfl rfl ?_ | refine r3 tabOk rfl rfl ?_ | refine r4 tabOk rfl rfl ?_ | refine r5 tabOk rfl rfl ?_ | refine r6 tabOk rfl rfl ?_ | ((first | apply oR rfl rfl | (apply dF rfl rfl rfl; intro _) | (apply dP rfl rfl rfl; intro _) | (apply dL rfl rfl rfl; intro _) | apply dC rfl rfl rfl rfl); (focus (first | exact cq ih | exact iA (g := ((VTy.mk uk ues)).g) rfl (EL rfl) (SZ rfl) rfl rfl (by decide) rfl rfl | exact PO_as (PO_concat rfl rfl rfl (by show 8 + z.size ≤ _; omega)) (congrArg (fun x => PV.g (.str x)) hc) | exact cJ | exact mG | exact bT | exact nD)); try exact kQ) | refine xS ?_ | refine xR ?_ | refine xa rfl rfl mixed ?_ | refine xb rfl rfl mixed ?_ | refine xc rfl rfl mixed ?_ | refine xd rfl rfl mixed ?_ | refine xB ?_ | refine xt rfl ?_ | refine xf rfl ?_))
    (first | refine Ret_int (vC vT vN) rfl ?_ | refine Ret_bool (vC vT vN) rfl ?_ | refine Ret_g (vC vT vN) rfl ?_ | refine Ret_int (vC (vA (AG rfl) (SZ rfl) rfl rfl (lB rfl)) vN) rfl ?_ | refine Ret_bool (vC (vA (AG rfl) (SZ rfl) rfl rfl (lB rfl)) vN) rfl ?_ | refine Ret_g (vC (vA (AG rfl) (SZ rfl) rfl rfl (lB rfl)) vN) rfl ?_)
    rfl

set_option maxRecDepth 100000 in
set_option maxHeartbeats 4000000 in
theorem name16_pc {b : Int} (hb : baseK b) : ∀ n : Nat, n ≤ 1000 → PC Try.prog 16 [.g (.str (bstr (codeL n b)))] ⟨[], [], []⟩ (.g (.str (bstr (nameL n b)))) ⟨[], [], []⟩
  | 0, _ => by
    have g1 := code_head 0 b
    rw [if_pos rfl] at g1
    rcases hb with rfl | rfl | rfl | rfl | rfl
    all_goals
      refine PC_of_PW Try.func16 rfl rfl (rs := _) rfl (Nat.le_of_ble_eq_true (by kernel_rfl)) ?_
      (repeat (first | ((first | refine qA ?_ | refine qB ?_ | refine xN ?_ | refine xE ?_ | refine xT ?_); try show PW _ _ _ _ _ _) | refine r1 tabOk rfl rfl ?_ | refine r2 tabOk rfl rfl ?_ | refine r3 tabOk rfl rfl ?_ | refine r4 tabOk rfl rfl ?_ | refine r5 tabOk rfl rfl ?_ | refine r6 tabOk rfl rfl ?_ | ((first | apply oR rfl rfl | (apply dF rfl rfl rfl; intro _) | (apply dP rfl rfl rfl; intro _) | (apply dL rfl rfl rfl; intro _) | apply dC rfl rfl rfl rfl); (focus (first | exact PO_index rfl (ST rfl) rfl rfl (by decide) g1 | exact PO_makeMap rfl | exact PO_insert rfl M46 U9 rfl rfl rfl rfl rfl rfl | exact PO_lookup rfl M46 U9 (ZR rfl) rfl rfl rfl rfl rfl rfl | exact cJ | exact mG | exact bT | exact nD)); try exact kQ) | refine xS ?_ | refine xR ?_ | refine xa rfl rfl mixed ?_ | refine xb rfl rfl mixed ?_ | refine xc rfl rfl mixed ?_ | refine xd rfl rfl mixed ?_ | refine xB ?_ | refine xt rfl ?_ | refine xf rfl ?_))
      (first | refine Ret_int (vC vT vN) rfl ?_ | refine Ret_bool (vC vT vN) rfl ?_ | refine Ret_g (vC vT vN) rfl ?_ | refine Ret_int (vC (vA (AG rfl) (SZ rfl) rfl rfl (lB rfl)) vN) rfl ?_ | refine Ret_bool (vC (vA (AG rfl) (SZ rfl) rfl rfl (lB rfl)) vN) rfl ?_ | refine Ret_g (vC (vA (AG rfl) (SZ rfl) rfl rfl (lB rfl)) vN) rfl ?_)
      rfl
  | n + 1, hn => by
    have ih := name16_pc hb n (by omega)
    have g1 := code_head (n + 1) b
    have t1 := code_tail n b
    rw [if_neg (by omega)] at g1
    have s1 : ((bstr (codeL (n + 1) b)).size : Int) ≥ 1 := by rw [bstr_size, codeL_len]; omega
    have hs : (bstr (nameL n b)).size ≤ 9001 := by rw [bstr_size]; have := nameL_len n b; omega
    have hc : (ByteArray.mk #[108, 105, 115, 116, 32, 111, 102, 32]) ++ bstr (nameL n b) = bstr (nameL (n + 1) b) := bstr_cat [108, 105, 115, 116, 32, 111, 102, 32] (nameL n b)
    generalize bstr (nameL (n + 1) b) = R at hc
    generalize bstr (nameL n b) = z at ih hs hc
    generalize bstr (codeL (n + 1) b) = A at g1 t1 s1
    refine PC_of_PW Try.func16 rfl rfl (rs := _) rfl (Nat.le_of_ble_eq_true (by kernel_rfl)) ?_
    (repeat (first | ((first | refine qA ?_ | refine qB ?_ | refine xN ?_ | refine xE ?_ | refine xT ?_); try show PW _ _ _ _ _ _) | refine r1 tabOk rfl rfl ?_ | refine r2 tabOk rfl rfl ?_ | refine r3 tabOk rfl rfl ?_ | refine r4 tabOk rfl rfl ?_ | refine r5 tabOk rfl rfl ?_ | refine r6 tabOk rfl rfl ?_ | ((first | apply oR rfl rfl | (apply dF rfl rfl rfl; intro _) | (apply dP rfl rfl rfl; intro _) | (apply dL rfl rfl rfl; intro _) | apply dC rfl rfl rfl rfl); (focus (first | exact cq ih | exact PO_index rfl (ST rfl) rfl rfl (by decide) g1 | exact PO_as (PO_slice_str rfl (ST rfl) rfl rfl rfl (by decide) s1 (Int.le_refl _)) (congrArg (fun x => PV.g (.str x)) t1) | exact PO_as (PO_concat rfl rfl rfl (by show 8 + z.size ≤ _; omega)) (congrArg (fun x => PV.g (.str x)) hc) | exact cJ | exact mG | exact bT | exact nD)); try exact kQ) | refine xS ?_ | refine xR ?_ | refine xa rfl rfl mixed ?_ | refine xb rfl rfl mixed ?_ | refine xc rfl rfl mixed ?_ | refine xd rfl rfl mixed ?_ | refine xB ?_ | refine xt rfl ?_ | refine xf rfl ?_))
    (first | refine Ret_int (vC vT vN) rfl ?_ | refine Ret_bool (vC vT vN) rfl ?_ | refine Ret_g (vC vT vN) rfl ?_ | refine Ret_int (vC (vA (AG rfl) (SZ rfl) rfl rfl (lB rfl)) vN) rfl ?_ | refine Ret_bool (vC (vA (AG rfl) (SZ rfl) rfl rfl (lB rfl)) vN) rfl ?_ | refine Ret_g (vC (vA (AG rfl) (SZ rfl) rfl rfl (lB rfl)) vN) rfl ?_)
    rfl
end Go.Proofs.Ytlibajlfojkohaa

