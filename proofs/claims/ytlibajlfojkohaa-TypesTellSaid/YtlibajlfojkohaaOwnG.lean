/- The law TypesTell holds: for every two types and every value the program returns true, and leaves them as they were. Conditions: none. -/
import Derived.Test.YtlibajlfojkohaaOwnE
import Derived.Test.YtlibajlfojkohaaPureF
import Derived.Test.YtlibajlfojkohaaPureB
namespace Go.Proofs.Ytlibajlfojkohaa
open Go Go.Pure
attribute [local irreducible] PW POps POpsD PO PC Cond

set_option maxRecDepth 100000 in
set_option maxHeartbeats 8000000 in
theorem has13_pc {b : Int} (hb : baseK b) : ∀ (v : VVal) (n : Nat), gsz v.g → PC Try.prog 13 [.g v.g, .g (tyL n b).g] ⟨[], [], []⟩ (.g (.bool (hasT v n b))) ⟨[], [], []⟩
  | .mk kind yes coef exp text list, 0, hl => by
    rw [tyZ, hasT_eq]
    rcases hb with rfl | rfl | rfl | rfl | rfl
    all_goals
      refine PC_of_PW Try.func13 rfl rfl (rs := _) rfl (Nat.le_of_ble_eq_true (by kernel_rfl)) ?_
      (repeat' (first | (first | ((first | refine qA ?_ | refine qB ?_ | refine xN ?_ | refine xE ?_ | refine xT ?_); try show PW _ _ _ _ _ _) | refine r1 tabOk rfl rfl ?_ | refine r2 tabOk rfl rfl ?_ | refine r3 tabOk rfl rfl ?_ | refine r4 tabOk rfl rfl ?_ | refine r5 tabOk rfl rfl ?_ | refine r6 tabOk rfl rfl ?_ | ((first | apply oR rfl rfl | (apply dF rfl rfl rfl; intro _) | (apply dP rfl rfl rfl; intro _) | (apply dL rfl rfl rfl; intro _) | apply dC rfl rfl rfl rfl); (focus (first | exact cJ | exact mG | exact bT | exact nD)); try exact kQ) | refine xS ?_ | refine xR ?_ | refine xa rfl rfl mixed ?_ | refine xb rfl rfl mixed ?_ | refine xc rfl rfl mixed ?_ | refine xd rfl rfl mixed ?_ | refine xB ?_ | refine xt rfl ?_ | refine xf rfl ?_) | (refine POps_split rfl rfl (fun h => ?_) (fun h => ?_) <;> fail_if_success (first | (have : true = true := h) | (have : false = false := h))) | (refine POpsD_split rfl rfl (fun h => ?_) (fun h => ?_) <;> fail_if_success (first | (have : true = true := h) | (have : false = false := h))) | refine PW_cond rfl (fun h => ?_) (fun h => ?_)))
      all_goals (first | (exfalso; simp_all; done) | ((first | refine Ret_int (vC vT vN) rfl ?_ | refine Ret_bool (vC vT vN) rfl ?_ | refine Ret_g (vC vT vN) rfl ?_ | refine Ret_int (vC (vA (AG rfl) (SZ rfl) rfl rfl (lB rfl)) vN) rfl ?_ | refine Ret_bool (vC (vA (AG rfl) (SZ rfl) rfl rfl (lB rfl)) vN) rfl ?_ | refine Ret_g (vC (vA (AG rfl) (SZ rfl) rfl rfl (lB rfl)) vN) rfl ?_); simp_all; done))
  | .mk kind yes coef exp text list, n + 1, hl => by
    obtain ⟨hlen, hmem⟩ := VVal.gsz_list hl
    have ih : ∀ v ∈ list, PC Try.prog 13 [.g v.g, .g (tyL n b).g] ⟨[], [], []⟩ (.g (.bool (hasT v n b))) ⟨[], [], []⟩ := fun v hv => has13_pc hb v n (hmem v hv)
    have hgl : (VVal.gs list).length = list.length := by simp [VVal.gs_eq]
    rw [tyS, hasT_eq]
    generalize tyL n b = u at ih
    obtain ⟨uk, ues⟩ := u
    by_cases hk : kind = 5
    · subst hk
      rw [if_neg (by omega), if_neg (by decide), if_neg (by decide), if_neg (by decide), if_pos rfl]
      dsimp only
      refine PC_of_PW Try.func13 rfl rfl (rs := _) rfl (Nat.le_of_ble_eq_true (by kernel_rfl)) ?_
      (repeat (first | ((first | refine qA ?_ | refine qB ?_ | refine xN ?_ | refine xE ?_ | refine xT ?_); try show PW _ _ _ _ _ _) | refine r1 tabOk rfl rfl ?_ | refine r2 tabOk rfl rfl ?_ | refine r3 tabOk rfl rfl ?_ | refine r4 tabOk rfl rfl ?_ | refine r5 tabOk rfl rfl ?_ | refine r6 tabOk rfl rfl ?_ | ((first | apply oR rfl rfl | (apply dF rfl rfl rfl; intro _) | (apply dP rfl rfl rfl; intro _) | (apply dL rfl rfl rfl; intro _) | apply dC rfl rfl rfl rfl); (focus (first | exact cJ | exact mG | exact bT | exact nD)); try exact kQ) | refine xS ?_ | refine xR ?_ | refine xa rfl rfl mixed ?_ | refine xb rfl rfl mixed ?_ | refine xc rfl rfl mixed ?_ | refine xd rfl rfl mixed ?_ | refine xB ?_ | refine xt rfl ?_ | refine xf rfl ?_))
      refine PW_loop_cut (S := Nat) (fun i => [(3, .ptr 1 0), (47, .g (.sl (VVal.gs list))), (48, .g (.int .i64 list.length)), (49, .g (.int .i64 i))])
        (fun _ => ⟨[[.g (.int .i64 5), .g (.bool yes), .g (.int .i64 coef), .g (.int .i64 exp), .g (.str text), .g (.sl (VVal.gs list))], [.g (.int .i64 5), .g (.sl [(VTy.mk uk ues).g])]], [], []⟩) (fun i => i ≤ list.length ∧ hasTs (list.drop i) n b = hasTs list n b) (fun i => list.length - i) 0 ⟨Nat.zero_le _, rfl⟩
        (SlotsOk.le ⟨.inl rfl, .inl rfl, .inl (congrArg (fun k : Nat => PV.g (.int .i64 k)) hgl), .inl rfl, trivial⟩) (HLe.of_eq rfl) (fun _ => rfl) (fun i hi => ?_)
      obtain ⟨hi, hgo⟩ := hi
      (repeat (first | ((first | refine qA ?_ | refine qB ?_ | refine xN ?_ | refine xE ?_ | refine xT ?_); try show PW _ _ _ _ _ _) | refine r1 tabOk rfl rfl ?_ | refine r2 tabOk rfl rfl ?_ | refine r3 tabOk rfl rfl ?_ | refine r4 tabOk rfl rfl ?_ | refine r5 tabOk rfl rfl ?_ | refine r6 tabOk rfl rfl ?_ | ((first | apply oR rfl rfl | (apply dF rfl rfl rfl; intro _) | (apply dP rfl rfl rfl; intro _) | (apply dL rfl rfl rfl; intro _) | apply dC rfl rfl rfl rfl); (focus (first | exact cJ | exact mG | exact bT | exact nD)); try exact kQ) | refine xS ?_ | refine xR ?_ | refine xa rfl rfl mixed ?_ | refine xb rfl rfl mixed ?_ | refine xc rfl rfl mixed ?_ | refine xd rfl rfl mixed ?_ | refine xB ?_ | refine xt rfl ?_ | refine xf rfl ?_))
      (first | refine POps_split rfl rfl (fun h => ?_) (fun h => ?_) | refine POpsD_split rfl rfl (fun h => ?_) (fun h => ?_) | refine PW_cond rfl (fun h => ?_) (fun h => ?_))
      · have hlt : i < list.length := by have := of_decide_eq_true h; omega
        have hg : (VVal.gs list)[((i : Int)).toNat]? = some list[i].g := by rw [VVal.gs_eq]; exact map_get hlt
        have ih := ih list[i] (List.getElem_mem hlt)
        rw [List.drop_eq_getElem_cons hlt, hasTs] at hgo
        generalize list[i] = x at hg ih hgo
        generalize hasT x n b = r at ih hgo
        obtain ⟨k0, k1, k2, k3, k4, k5⟩ := x
        clear h
        cases r with
        | true =>
          (repeat (first | ((first | refine qA ?_ | refine qB ?_ | refine xN ?_ | refine xE ?_ | refine xT ?_); try show PW _ _ _ _ _ _) | refine r1 tabOk rfl rfl ?_ | refine r2 tabOk rfl rfl ?_ | refine r3 tabOk rfl rfl ?_ | refine r4 tabOk rfl rfl ?_ | refine r5 tabOk rfl rfl ?_ | refine r6 tabOk rfl rfl ?_ | ((first | apply oR rfl rfl | (apply dF rfl rfl rfl; intro _) | (apply dP rfl rfl rfl; intro _) | (apply dL rfl rfl rfl; intro _) | apply dC rfl rfl rfl rfl); (focus (first | exact cq ih | exact iA (g := ((VTy.mk uk ues)).g) rfl (EL rfl) (SZ rfl) rfl rfl (by decide) rfl rfl | exact iA rfl (EL rfl) (SZ rfl) rfl rfl (Int.natCast_nonneg _) hg rfl | exact cJ | exact mG | exact bT | exact nD)); try exact kQ) | refine xS ?_ | refine xR ?_ | refine xa rfl rfl mixed ?_ | refine xb rfl rfl mixed ?_ | refine xc rfl rfl mixed ?_ | refine xd rfl rfl mixed ?_ | refine xB ?_ | refine xt rfl ?_ | refine xf rfl ?_))
          exact ⟨i + 1, ⟨hlt, by simpa using hgo⟩, by omega, SlotsOk.le ⟨.inl rfl, .inl rfl, .inl rfl, .inl (congrArg (fun k => PV.g (.int .i64 k)) (wrap64 (by simp only [maxLen] at hlen; omega))), trivial⟩, Drops.mk [(VVal.mk k0 k1 k2 k3 k4 k5).g.cells.map PV.g] [] [] rfl⟩
        | false =>
          (repeat (first | ((first | refine qA ?_ | refine qB ?_ | refine xN ?_ | refine xE ?_ | refine xT ?_); try show PW _ _ _ _ _ _) | refine r1 tabOk rfl rfl ?_ | refine r2 tabOk rfl rfl ?_ | refine r3 tabOk rfl rfl ?_ | refine r4 tabOk rfl rfl ?_ | refine r5 tabOk rfl rfl ?_ | refine r6 tabOk rfl rfl ?_ | ((first | apply oR rfl rfl | (apply dF rfl rfl rfl; intro _) | (apply dP rfl rfl rfl; intro _) | (apply dL rfl rfl rfl; intro _) | apply dC rfl rfl rfl rfl); (focus (first | exact cq ih | exact iA (g := ((VTy.mk uk ues)).g) rfl (EL rfl) (SZ rfl) rfl rfl (by decide) rfl rfl | exact iA rfl (EL rfl) (SZ rfl) rfl rfl (Int.natCast_nonneg _) hg rfl | exact cJ | exact mG | exact bT | exact nD)); try exact kQ) | refine xS ?_ | refine xR ?_ | refine xa rfl rfl mixed ?_ | refine xb rfl rfl mixed ?_ | refine xc rfl rfl mixed ?_ | refine xd rfl rfl mixed ?_ | refine xB ?_ | refine xt rfl ?_ | refine xf rfl ?_))
          (first | refine Ret_int (vC vT vN) rfl ?_ | refine Ret_bool (vC vT vN) rfl ?_ | refine Ret_g (vC vT vN) rfl ?_ | refine Ret_int (vC (vA (AG rfl) (SZ rfl) rfl rfl (lB rfl)) vN) rfl ?_ | refine Ret_bool (vC (vA (AG rfl) (SZ rfl) rfl rfl (lB rfl)) vN) rfl ?_ | refine Ret_g (vC (vA (AG rfl) (SZ rfl) rfl rfl (lB rfl)) vN) rfl ?_)
          simpa using hgo
      · have hi' : i = list.length := by have := of_decide_eq_false h; omega
        subst hi'
        rw [List.drop_length, hasTs] at hgo
        (repeat (first | ((first | refine qA ?_ | refine qB ?_ | refine xN ?_ | refine xE ?_ | refine xT ?_); try show PW _ _ _ _ _ _) | refine r1 tabOk rfl rfl ?_ | refine r2 tabOk rfl rfl ?_ | refine r3 tabOk rfl rfl ?_ | refine r4 tabOk rfl rfl ?_ | refine r5 tabOk rfl rfl ?_ | refine r6 tabOk rfl rfl ?_ | ((first | apply oR rfl rfl | (apply dF rfl rfl rfl; intro _) | (apply dP rfl rfl rfl; intro _) | (apply dL rfl rfl rfl; intro _) | apply dC rfl rfl rfl rfl); (focus (first | exact cJ | exact mG | exact bT | exact nD)); try exact kQ) | refine xS ?_ | refine xR ?_ | refine xa rfl rfl mixed ?_ | refine xb rfl rfl mixed ?_ | refine xc rfl rfl mixed ?_ | refine xd rfl rfl mixed ?_ | refine xB ?_ | refine xt rfl ?_ | refine xf rfl ?_))
        (first | refine Ret_int (vC vT vN) rfl ?_ | refine Ret_bool (vC vT vN) rfl ?_ | refine Ret_g (vC vT vN) rfl ?_ | refine Ret_int (vC (vA (AG rfl) (SZ rfl) rfl rfl (lB rfl)) vN) rfl ?_ | refine Ret_bool (vC (vA (AG rfl) (SZ rfl) rfl rfl (lB rfl)) vN) rfl ?_ | refine Ret_g (vC (vA (AG rfl) (SZ rfl) rfl rfl (lB rfl)) vN) rfl ?_)
        exact hgo
    · rw [if_neg hk]
      refine PC_of_PW Try.func13 rfl rfl (rs := _) rfl (Nat.le_of_ble_eq_true (by kernel_rfl)) ?_
      (repeat' (first | (first | ((first | refine qA ?_ | refine qB ?_ | refine xN ?_ | refine xE ?_ | refine xT ?_); try show PW _ _ _ _ _ _) | refine r1 tabOk rfl rfl ?_ | refine r2 tabOk rfl rfl ?_ | refine r3 tabOk rfl rfl ?_ | refine r4 tabOk rfl rfl ?_ | refine r5 tabOk rfl rfl ?_ | refine r6 tabOk rfl rfl ?_ | ((first | apply oR rfl rfl | (apply dF rfl rfl rfl; intro _) | (apply dP rfl rfl rfl; intro _) | (apply dL rfl rfl rfl; intro _) | apply dC rfl rfl rfl rfl); (focus (first | exact cJ | exact mG | exact bT | exact nD)); try exact kQ) | refine xU [11] rfl ?_ | refine xR ?_ | refine xa rfl rfl mixed ?_ | refine xb rfl rfl mixed ?_ | refine xc rfl rfl mixed ?_ | refine xd rfl rfl mixed ?_ | refine xB ?_ | refine xt rfl ?_ | refine xf rfl ?_) | (refine POps_split rfl rfl (fun h => ?_) (fun h => ?_) <;> fail_if_success (first | (have : true = true := h) | (have : false = false := h))) | (refine POpsD_split rfl rfl (fun h => ?_) (fun h => ?_) <;> fail_if_success (first | (have : true = true := h) | (have : false = false := h))) | refine PW_cond rfl (fun h => ?_) (fun h => ?_)))
      all_goals (first | (exfalso; simp_all; done) | ((first | refine Ret_int (vC vT vN) rfl ?_ | refine Ret_bool (vC vT vN) rfl ?_ | refine Ret_g (vC vT vN) rfl ?_ | refine Ret_int (vC (vA (AG rfl) (SZ rfl) rfl rfl (lB rfl)) vN) rfl ?_ | refine Ret_bool (vC (vA (AG rfl) (SZ rfl) rfl rfl (lB rfl)) vN) rfl ?_ | refine Ret_g (vC (vA (AG rfl) (SZ rfl) rfl rfl (lB rfl)) vN) rfl ?_); simp_all; done))

set_option maxRecDepth 100000 in
set_option maxHeartbeats 8000000 in
theorem has14_pc {b : Int} (hb : baseK b) : ∀ (v : VVal) (n : Nat), gsz v.g → PC Try.prog 14 [.g v.g, .g (.str (bstr (codeL n b)))] ⟨[], [], []⟩ (.g (.bool (hasT v n b))) ⟨[], [], []⟩
  | .mk kind yes coef exp text list, n, hl => by
    obtain ⟨hlen, hmem⟩ := VVal.gsz_list hl
    have ih : ∀ n', n = n' + 1 → ∀ v ∈ list, PC Try.prog 14 [.g v.g, .g (.str (bstr (codeL n' b)))] ⟨[], [], []⟩ (.g (.bool (hasT v n' b))) ⟨[], [], []⟩ := fun n' _ v hv => has14_pc hb v n' (hmem v hv)
    have hgl : (VVal.gs list).length = list.length := by simp [VVal.gs_eq]
    have e6 : ((bstr (codeL n b)).toList == (ByteArray.mk #[97]).toList) = true ↔ (n = 0 ∧ b = 6) := by rw [show ((bstr (codeL n b)).toList == (ByteArray.mk #[97]).toList) = decide (n = 0 ∧ b = 6) from code_is hb n (k := 6) (by simp [baseK]), decide_eq_true_iff]
    have e2 : ((bstr (codeL n b)).toList == (ByteArray.mk #[98]).toList) = decide (n = 0 ∧ b = 2) := code_is hb n (k := 2) (by simp [baseK])
    have e3 : ((bstr (codeL n b)).toList == (ByteArray.mk #[110]).toList) = decide (n = 0 ∧ b = 3) := code_is hb n (k := 3) (by simp [baseK])
    have e4 : ((bstr (codeL n b)).toList == (ByteArray.mk #[116]).toList) = decide (n = 0 ∧ b = 4) := code_is hb n (k := 4) (by simp [baseK])
    have g1 := code_head n b
    have l1 := letter_nat hb
    rw [hasT_eq]
    by_cases hk : kind = 5
    · subst hk
      match n with
      | 0 =>
        rw [if_pos rfl] at g1
        generalize bstr (codeL 0 b) = A at e6 e2 e3 e4 g1
        refine PC_of_PW Try.func14 rfl rfl (rs := _) rfl (Nat.le_of_ble_eq_true (by kernel_rfl)) ?_
        (repeat' (first | (first | ((first | refine qA ?_ | refine qB ?_ | refine xN ?_ | refine xE ?_ | refine xT ?_); try show PW _ _ _ _ _ _) | refine r1 tabOk rfl rfl ?_ | refine r2 tabOk rfl rfl ?_ | refine r3 tabOk rfl rfl ?_ | refine r4 tabOk rfl rfl ?_ | refine r5 tabOk rfl rfl ?_ | refine r6 tabOk rfl rfl ?_ | ((first | apply oR rfl rfl | (apply dF rfl rfl rfl; intro _) | (apply dP rfl rfl rfl; intro _) | (apply dL rfl rfl rfl; intro _) | apply dC rfl rfl rfl rfl); (focus (first | exact PO_index rfl (ST rfl) rfl rfl (by decide) g1 | exact cJ | exact mG | exact bT | exact nD)); try exact kQ) | refine xU [13] rfl ?_ | refine xR ?_ | refine xa rfl rfl mixed ?_ | refine xb rfl rfl mixed ?_ | refine xc rfl rfl mixed ?_ | refine xd rfl rfl mixed ?_ | refine xB ?_ | refine xt rfl ?_ | refine xf rfl ?_) | (refine POps_split rfl rfl (fun h => ?_) (fun h => ?_) <;> fail_if_success (first | (have : true = true := h) | (have : false = false := h))) | (refine POpsD_split rfl rfl (fun h => ?_) (fun h => ?_) <;> fail_if_success (first | (have : true = true := h) | (have : false = false := h))) | refine PW_cond rfl (fun h => ?_) (fun h => ?_)))
        all_goals (first | (exfalso; simp_all; done) | ((first | refine Ret_int (vC vT vN) rfl ?_ | refine Ret_bool (vC vT vN) rfl ?_ | refine Ret_g (vC vT vN) rfl ?_ | refine Ret_int (vC (vA (AG rfl) (SZ rfl) rfl rfl (lB rfl)) vN) rfl ?_ | refine Ret_bool (vC (vA (AG rfl) (SZ rfl) rfl rfl (lB rfl)) vN) rfl ?_ | refine Ret_g (vC (vA (AG rfl) (SZ rfl) rfl rfl (lB rfl)) vN) rfl ?_); simp_all; done))
      | n + 1 =>
        have ih := ih n rfl
        have t1 := code_tail n b
        have s1 : ((bstr (codeL (n + 1) b)).size : Int) ≥ 1 := by rw [bstr_size, codeL_len]; omega
        rw [if_neg (by omega)] at g1
        rw [if_neg (by omega), if_neg (by decide), if_neg (by decide), if_neg (by decide), if_pos rfl]
        dsimp only
        generalize bstr (codeL (n + 1) b) = A at e6 e2 e3 e4 g1 t1 s1
        refine PC_of_PW Try.func14 rfl rfl (rs := _) rfl (Nat.le_of_ble_eq_true (by kernel_rfl)) ?_
        (repeat' (first | (first | ((first | refine qA ?_ | refine qB ?_ | refine xN ?_ | refine xE ?_ | refine xT ?_); try show PW _ _ _ _ _ _) | refine r1 tabOk rfl rfl ?_ | refine r2 tabOk rfl rfl ?_ | refine r3 tabOk rfl rfl ?_ | refine r4 tabOk rfl rfl ?_ | refine r5 tabOk rfl rfl ?_ | refine r6 tabOk rfl rfl ?_ | ((first | apply oR rfl rfl | (apply dF rfl rfl rfl; intro _) | (apply dP rfl rfl rfl; intro _) | (apply dL rfl rfl rfl; intro _) | apply dC rfl rfl rfl rfl); (focus (first | exact PO_index rfl (ST rfl) rfl rfl (by decide) g1 | exact cJ | exact mG | exact bT | exact nD)); try exact kQ) | refine xU [13] rfl ?_ | refine xR ?_ | refine xa rfl rfl mixed ?_ | refine xb rfl rfl mixed ?_ | refine xc rfl rfl mixed ?_ | refine xd rfl rfl mixed ?_ | refine xB ?_ | refine xt rfl ?_ | refine xf rfl ?_) | (refine POps_split rfl rfl (fun h => ?_) (fun h => ?_) <;> fail_if_success (first | (have : true = true := h) | (have : false = false := h))) | (refine POpsD_split rfl rfl (fun h => ?_) (fun h => ?_) <;> fail_if_success (first | (have : true = true := h) | (have : false = false := h))) | refine PW_cond rfl (fun h => ?_) (fun h => ?_)))
        all_goals (first | (exfalso; simp_all; done) | skip)
        (repeat (first | ((first | refine qA ?_ | refine qB ?_ | refine xN ?_ | refine xE ?_ | refine xT ?_); try show PW _ _ _ _ _ _) | refine r1 tabOk rfl rfl ?_ | refine r2 tabOk rfl rfl ?_ | refine r3 tabOk rfl rfl ?_ | refine r4 tabOk rfl rfl ?_ | refine r5 tabOk rfl rfl ?_ | refine r6 tabOk rfl rfl ?_ | ((first | apply oR rfl rfl | (apply dF rfl rfl rfl; intro _) | (apply dP rfl rfl rfl; intro _) | (apply dL rfl rfl rfl; intro _) | apply dC rfl rfl rfl rfl); (focus (first | exact cJ | exact mG | exact bT | exact nD)); try exact kQ) | refine xS ?_ | refine xR ?_ | refine xa rfl rfl mixed ?_ | refine xb rfl rfl mixed ?_ | refine xc rfl rfl mixed ?_ | refine xd rfl rfl mixed ?_ | refine xB ?_ | refine xt rfl ?_ | refine xf rfl ?_))
        refine PW_loop_cut (S := Nat) (fun i => [(1, .g (.str A)), (34, .g (.sl (VVal.gs list))), (35, .g (.int .i64 list.length)), (36, .g (.int .i64 i))])
          (fun _ => ⟨[[.g (.int .i64 5), .g (.bool yes), .g (.int .i64 coef), .g (.int .i64 exp), .g (.str text), .g (.sl (VVal.gs list))]], [], []⟩) (fun i => i ≤ list.length ∧ hasTs (list.drop i) n b = hasTs list n b) (fun i => list.length - i) 0 ⟨Nat.zero_le _, rfl⟩
          (SlotsOk.le ⟨.inl rfl, .inl rfl, .inl (congrArg (fun k : Nat => PV.g (.int .i64 k)) hgl), .inl rfl, trivial⟩) (HLe.of_eq rfl) (fun _ => rfl) (fun i hi => ?_)
        obtain ⟨hi, hgo⟩ := hi
        clear h
        (repeat (first | ((first | refine qA ?_ | refine qB ?_ | refine xN ?_ | refine xE ?_ | refine xT ?_); try show PW _ _ _ _ _ _) | refine r1 tabOk rfl rfl ?_ | refine r2 tabOk rfl rfl ?_ | refine r3 tabOk rfl rfl ?_ | refine r4 tabOk rfl rfl ?_ | refine r5 tabOk rfl rfl ?_ | refine r6 tabOk rfl rfl ?_ | ((first | apply oR rfl rfl | (apply dF rfl rfl rfl; intro _) | (apply dP rfl rfl rfl; intro _) | (apply dL rfl rfl rfl; intro _) | apply dC rfl rfl rfl rfl); (focus (first | exact cJ | exact mG | exact bT | exact nD)); try exact kQ) | refine xS ?_ | refine xR ?_ | refine xa rfl rfl mixed ?_ | refine xb rfl rfl mixed ?_ | refine xc rfl rfl mixed ?_ | refine xd rfl rfl mixed ?_ | refine xB ?_ | refine xt rfl ?_ | refine xf rfl ?_))
        (first | refine POps_split rfl rfl (fun h => ?_) (fun h => ?_) | refine POpsD_split rfl rfl (fun h => ?_) (fun h => ?_) | refine PW_cond rfl (fun h => ?_) (fun h => ?_))
        · have hlt : i < list.length := by have := of_decide_eq_true h; omega
          have hg : (VVal.gs list)[((i : Int)).toNat]? = some list[i].g := by rw [VVal.gs_eq]; exact map_get hlt
          have ih := ih list[i] (List.getElem_mem hlt)
          rw [List.drop_eq_getElem_cons hlt, hasTs] at hgo
          generalize list[i] = x at hg ih hgo
          generalize hasT x n b = r at ih hgo
          obtain ⟨k0, k1, k2, k3, k4, k5⟩ := x
          clear h
          cases r with
          | true =>
            (repeat (first | ((first | refine qA ?_ | refine qB ?_ | refine xN ?_ | refine xE ?_ | refine xT ?_); try show PW _ _ _ _ _ _) | refine r1 tabOk rfl rfl ?_ | refine r2 tabOk rfl rfl ?_ | refine r3 tabOk rfl rfl ?_ | refine r4 tabOk rfl rfl ?_ | refine r5 tabOk rfl rfl ?_ | refine r6 tabOk rfl rfl ?_ | ((first | apply oR rfl rfl | (apply dF rfl rfl rfl; intro _) | (apply dP rfl rfl rfl; intro _) | (apply dL rfl rfl rfl; intro _) | apply dC rfl rfl rfl rfl); (focus (first | exact cq ih | exact PO_as (PO_slice_str rfl (ST rfl) rfl rfl rfl (by decide) s1 (Int.le_refl _)) (congrArg (fun x => PV.g (.str x)) t1) | exact iA rfl (EL rfl) (SZ rfl) rfl rfl (Int.natCast_nonneg _) hg rfl | exact cJ | exact mG | exact bT | exact nD)); try exact kQ) | refine xS ?_ | refine xR ?_ | refine xa rfl rfl mixed ?_ | refine xb rfl rfl mixed ?_ | refine xc rfl rfl mixed ?_ | refine xd rfl rfl mixed ?_ | refine xB ?_ | refine xt rfl ?_ | refine xf rfl ?_))
            exact ⟨i + 1, ⟨hlt, by simpa using hgo⟩, by omega, SlotsOk.le ⟨.inl rfl, .inl rfl, .inl rfl, .inl (congrArg (fun k => PV.g (.int .i64 k)) (wrap64 (by simp only [maxLen] at hlen; omega))), trivial⟩, Drops.mk [(VVal.mk k0 k1 k2 k3 k4 k5).g.cells.map PV.g] [] [] rfl⟩
          | false =>
            (repeat (first | ((first | refine qA ?_ | refine qB ?_ | refine xN ?_ | refine xE ?_ | refine xT ?_); try show PW _ _ _ _ _ _) | refine r1 tabOk rfl rfl ?_ | refine r2 tabOk rfl rfl ?_ | refine r3 tabOk rfl rfl ?_ | refine r4 tabOk rfl rfl ?_ | refine r5 tabOk rfl rfl ?_ | refine r6 tabOk rfl rfl ?_ | ((first | apply oR rfl rfl | (apply dF rfl rfl rfl; intro _) | (apply dP rfl rfl rfl; intro _) | (apply dL rfl rfl rfl; intro _) | apply dC rfl rfl rfl rfl); (focus (first | exact cq ih | exact PO_as (PO_slice_str rfl (ST rfl) rfl rfl rfl (by decide) s1 (Int.le_refl _)) (congrArg (fun x => PV.g (.str x)) t1) | exact iA rfl (EL rfl) (SZ rfl) rfl rfl (Int.natCast_nonneg _) hg rfl | exact cJ | exact mG | exact bT | exact nD)); try exact kQ) | refine xS ?_ | refine xR ?_ | refine xa rfl rfl mixed ?_ | refine xb rfl rfl mixed ?_ | refine xc rfl rfl mixed ?_ | refine xd rfl rfl mixed ?_ | refine xB ?_ | refine xt rfl ?_ | refine xf rfl ?_))
            (first | refine Ret_int (vC vT vN) rfl ?_ | refine Ret_bool (vC vT vN) rfl ?_ | refine Ret_g (vC vT vN) rfl ?_ | refine Ret_int (vC (vA (AG rfl) (SZ rfl) rfl rfl (lB rfl)) vN) rfl ?_ | refine Ret_bool (vC (vA (AG rfl) (SZ rfl) rfl rfl (lB rfl)) vN) rfl ?_ | refine Ret_g (vC (vA (AG rfl) (SZ rfl) rfl rfl (lB rfl)) vN) rfl ?_)
            simpa using hgo
        · have hi' : i = list.length := by have := of_decide_eq_false h; omega
          subst hi'
          rw [List.drop_length, hasTs] at hgo
          (repeat (first | ((first | refine qA ?_ | refine qB ?_ | refine xN ?_ | refine xE ?_ | refine xT ?_); try show PW _ _ _ _ _ _) | refine r1 tabOk rfl rfl ?_ | refine r2 tabOk rfl rfl ?_ | refine r3 tabOk rfl rfl ?_ | refine r4 tabOk rfl rfl ?_ | refine r5 tabOk rfl rfl ?_ | refine r6 tabOk rfl rfl ?_ | ((first | apply oR rfl rfl | (apply dF rfl rfl rfl; intro _) | (apply dP rfl rfl rfl; intro _) | (apply dL rfl rfl rfl; intro _) | apply dC rfl rfl rfl rfl); (focus (first | exact cJ | exact mG | exact bT | exact nD)); try exact kQ) | refine xS ?_ | refine xR ?_ | refine xa rfl rfl mixed ?_ | refine xb rfl rfl mixed ?_ | refine xc rfl rfl mixed ?_ | refine xd rfl rfl mixed ?_ | refine xB ?_ | refine xt rfl ?_ | refine xf rfl ?_))
          (first | refine Ret_int (vC vT vN) rfl ?_ | refine Ret_bool (vC vT vN) rfl ?_ | refine Ret_g (vC vT vN) rfl ?_ | refine Ret_int (vC (vA (AG rfl) (SZ rfl) rfl rfl (lB rfl)) vN) rfl ?_ | refine Ret_bool (vC (vA (AG rfl) (SZ rfl) rfl rfl (lB rfl)) vN) rfl ?_ | refine Ret_g (vC (vA (AG rfl) (SZ rfl) rfl rfl (lB rfl)) vN) rfl ?_)
          exact hgo
    · rw [if_neg hk]
      generalize bstr (codeL n b) = A at e6 e2 e3 e4 g1
      refine PC_of_PW Try.func14 rfl rfl (rs := _) rfl (Nat.le_of_ble_eq_true (by kernel_rfl)) ?_
      (repeat' (first | (first | ((first | refine qA ?_ | refine qB ?_ | refine xN ?_ | refine xE ?_ | refine xT ?_); try show PW _ _ _ _ _ _) | refine r1 tabOk rfl rfl ?_ | refine r2 tabOk rfl rfl ?_ | refine r3 tabOk rfl rfl ?_ | refine r4 tabOk rfl rfl ?_ | refine r5 tabOk rfl rfl ?_ | refine r6 tabOk rfl rfl ?_ | ((first | apply oR rfl rfl | (apply dF rfl rfl rfl; intro _) | (apply dP rfl rfl rfl; intro _) | (apply dL rfl rfl rfl; intro _) | apply dC rfl rfl rfl rfl); (focus (first | exact cJ | exact mG | exact bT | exact nD)); try exact kQ) | refine xU [11] rfl ?_ | refine xR ?_ | refine xa rfl rfl mixed ?_ | refine xb rfl rfl mixed ?_ | refine xc rfl rfl mixed ?_ | refine xd rfl rfl mixed ?_ | refine xB ?_ | refine xt rfl ?_ | refine xf rfl ?_) | (refine POps_split rfl rfl (fun h => ?_) (fun h => ?_) <;> fail_if_success (first | (have : true = true := h) | (have : false = false := h))) | (refine POpsD_split rfl rfl (fun h => ?_) (fun h => ?_) <;> fail_if_success (first | (have : true = true := h) | (have : false = false := h))) | refine PW_cond rfl (fun h => ?_) (fun h => ?_)))
      all_goals (first | (exfalso; simp_all; done) | ((first | refine Ret_int (vC vT vN) rfl ?_ | refine Ret_bool (vC vT vN) rfl ?_ | refine Ret_g (vC vT vN) rfl ?_ | refine Ret_int (vC (vA (AG rfl) (SZ rfl) rfl rfl (lB rfl)) vN) rfl ?_ | refine Ret_bool (vC (vA (AG rfl) (SZ rfl) rfl rfl (lB rfl)) vN) rfl ?_ | refine Ret_g (vC (vA (AG rfl) (SZ rfl) rfl rfl (lB rfl)) vN) rfl ?_); simp_all; done))
end Go.Proofs.Ytlibajlfojkohaa


namespace Go.Proofs.Ytlibajlfojkohaa
open Go Go.Pure
attribute [local irreducible] PW POps POpsD PO PC Cond

set_option maxRecDepth 100000 in
set_option maxHeartbeats 8000000 in
theorem tell_none (a b : VTy) (v : VVal) (h : wrongT 1 a ≠ 0 ∨ wrongT 1 b ≠ 0) : PC Try.prog 3 [.g a.g, .g b.g, .g v.g] ⟨[], [], []⟩ (.g (.bool true)) ⟨[], [], []⟩ := by
  have h1 := wrong4_pc a
  have h2 := wrong5_pc a
  have h3 := wrong5_pc b
  generalize wrongT 1 a = x at h1 h2 h
  generalize wrongT 1 b = y at h3 h
  obtain ⟨a1, a2⟩ := a
  obtain ⟨b1, b2⟩ := b
  obtain ⟨v1, v2, v3, v4, v5, v6⟩ := v
  refine PC_of_PW Try.func3 rfl rfl (rs := _) rfl (Nat.le_of_ble_eq_true (by kernel_rfl)) ?_
  (repeat' (first | (first | ((first | refine qA ?_ | refine qB ?_ | refine xN ?_ | refine xE ?_ | refine xT ?_); try show PW _ _ _ _ _ _) | refine r1 tabOk rfl rfl ?_ | refine r2 tabOk rfl rfl ?_ | refine r3 tabOk rfl rfl ?_ | refine r4 tabOk rfl rfl ?_ | refine r5 tabOk rfl rfl ?_ | refine r6 tabOk rfl rfl ?_ | ((first | apply oR rfl rfl | (apply dF rfl rfl rfl; intro _) | (apply dP rfl rfl rfl; intro _) | (apply dL rfl rfl rfl; intro _) | apply dC rfl rfl rfl rfl); (focus (first | exact cq h1 | exact cq h2 | exact cq h3 | exact cJ | exact mG | exact bT | exact nD)); try exact kQ) | refine xU [5] rfl ?_ | refine xR ?_ | refine xa rfl rfl mixed ?_ | refine xb rfl rfl mixed ?_ | refine xc rfl rfl mixed ?_ | refine xd rfl rfl mixed ?_ | refine xB ?_ | refine xt rfl ?_ | refine xf rfl ?_) | (refine POps_split rfl rfl (fun h => ?_) (fun h => ?_) <;> fail_if_success (first | (have : true = true := h) | (have : false = false := h))) | (refine POpsD_split rfl rfl (fun h => ?_) (fun h => ?_) <;> fail_if_success (first | (have : true = true := h) | (have : false = false := h))) | refine PW_cond rfl (fun h => ?_) (fun h => ?_)))
  all_goals (first | (exfalso; simp_all; done) | ((first | refine Ret_int (vC vT vN) rfl ?_ | refine Ret_bool (vC vT vN) rfl ?_ | refine Ret_g (vC vT vN) rfl ?_ | refine Ret_int (vC (vA (AG rfl) (SZ rfl) rfl rfl (lB rfl)) vN) rfl ?_ | refine Ret_bool (vC (vA (AG rfl) (SZ rfl) rfl rfl (lB rfl)) vN) rfl ?_ | refine Ret_g (vC (vA (AG rfl) (SZ rfl) rfl rfl (lB rfl)) vN) rfl ?_); simp_all; done))

set_option maxRecDepth 100000 in
set_option maxHeartbeats 8000000 in
theorem tell_pc (a b : VTy) (v : VVal) (hv : gsz v.g) : PC Try.prog 3 [.g a.g, .g b.g, .g v.g] ⟨[], [], []⟩ (.g (.bool true)) ⟨[], [], []⟩ := by
  by_cases hn : wrongT 1 a ≠ 0 ∨ wrongT 1 b ≠ 0
  · exact tell_none a b v hn
  · have ha : wrongT 1 a = 0 := by omega
    have hb : wrongT 1 b = 0 := by omega
    have h1 := wrong4_pc a
    have h2 := wrong5_pc a
    have h3 := wrong5_pc b
    rw [ha] at h1 h2
    rw [hb] at h3
    obtain ⟨m, x, hm, hx, rfl⟩ := wrongT_ok a 1 ha
    obtain ⟨n, y, hn, hy, rfl⟩ := wrongT_ok b 1 hb
    have c1 := code_pc hx m (by omega)
    have c2 := code_pc hy n (by omega)
    have f1 := fits7_pc hx hy m n
    have f2 := fits8_pc hx hy m n
    have j1 := join10_pc hx hy m n
    have j2 := join12_pc hx hy m n (by omega) (by omega)
    have d1 := decode_pc (join_base hx hy m n).1 (joinT m x n y).1
    have s1 := same9_pc (joinT m x n y).1 (joinT m x n y).2
    have q1 := has13_pc hx v m hv
    have q2 := has14_pc hx v m hv
    have n1 := name15_pc hx m (by omega)
    have n2 := name16_pc hx m (by omega)
    generalize tyL (joinT m x n y).1 (joinT m x n y).2 = j at j1 d1 s1
    generalize bstr (codeL (joinT m x n y).1 (joinT m x n y).2) = js at j2 d1
    generalize tyL m x = a at h1 h2 c1 f1 j1 q1 n1
    generalize tyL n y = b at h3 c2 f1 j1
    generalize bstr (codeL m x) = sa at c1 f2 j2 q2 n2
    generalize bstr (codeL n y) = sb at c2 f2 j2
    generalize bstr (nameL m x) = nm at n1 n2
    generalize fitsT m x n y = r1 at f1 f2
    generalize hasT v m x = r2 at q1 q2
    obtain ⟨a1, a2⟩ := a
    obtain ⟨b1, b2⟩ := b
    obtain ⟨j3, j4⟩ := j
    obtain ⟨v1, v2, v3, v4, v5, v6⟩ := v
    cases r1 <;> cases r2
    all_goals
      refine PC_of_PW Try.func3 rfl rfl (rs := _) rfl (Nat.le_of_ble_eq_true (by kernel_rfl)) ?_
      (repeat (first | ((first | refine qA ?_ | refine qB ?_ | refine xN ?_ | refine xE ?_ | refine xT ?_); try show PW _ _ _ _ _ _) | refine r1 tabOk rfl rfl ?_ | refine r2 tabOk rfl rfl ?_ | refine r3 tabOk rfl rfl ?_ | refine r4 tabOk rfl rfl ?_ | refine r5 tabOk rfl rfl ?_ | refine r6 tabOk rfl rfl ?_ | ((first | apply oR rfl rfl | (apply dF rfl rfl rfl; intro _) | (apply dP rfl rfl rfl; intro _) | (apply dL rfl rfl rfl; intro _) | apply dC rfl rfl rfl rfl); (focus (first | exact cq h1 | exact cq h2 | exact cq h3 | exact cq c1 | exact cq c2 | exact cq f1 | exact cq f2 | exact cq j1 | exact cq j2 | exact cq d1 | exact cq s1 | exact cq q1 | exact cq q2 | exact cq n1 | exact cq n2 | exact cJ | exact mG | exact bT | exact nD)); try exact kQ) | refine xS ?_ | refine xR ?_ | refine xa rfl rfl mixed ?_ | refine xb rfl rfl mixed ?_ | refine xc rfl rfl mixed ?_ | refine xd rfl rfl mixed ?_ | refine xB ?_ | refine xt rfl ?_ | refine xf rfl ?_))
      (first | refine Ret_int (vC vT vN) rfl ?_ | refine Ret_bool (vC vT vN) rfl ?_ | refine Ret_g (vC vT vN) rfl ?_ | refine Ret_int (vC (vA (AG rfl) (SZ rfl) rfl rfl (lB rfl)) vN) rfl ?_ | refine Ret_bool (vC (vA (AG rfl) (SZ rfl) rfl rfl (lB rfl)) vN) rfl ?_ | refine Ret_g (vC (vA (AG rfl) (SZ rfl) rfl rfl (lB rfl)) vN) rfl ?_)
      simp
end Go.Proofs.Ytlibajlfojkohaa


namespace Go.Proofs.Ytlibajlfojkohaa
open Go.Pure

theorem own : Go.ownKnob Try.prog.godebug = none := by kernel_rfl
theorem laidOut : laidOutB Try.prog = true := by kernel_rfl
theorem val_in {g : GV} (h : GT Try.prog 29 g) : ∃ v : VVal, g = v.g :=
  val_inv (ti := 3) (tj := 2) (tb := 4) (ts := 9) (TD := 26) (LV := 27) Try.underlying3 Try.underlying2 Try.underlying4 Try.underlying9 ⟨_, Try.underlying29, rfl⟩ ⟨_, Try.underlying26, rfl⟩ Try.underlying27 _ g (Nat.le_refl _) h
theorem ty_in {g : GV} (h : GT Try.prog 24 g) : ∃ v : VTy, g = v.g :=
  ty_inv (ti := 3) (LY := 22) Try.underlying3 ⟨_, Try.underlying24, rfl⟩ Try.underlying22 _ g (Nat.le_refl _) h
end Go.Proofs.Ytlibajlfojkohaa


namespace Go.Proofs.Ytlibajlfojkohaa
open Go.Pure Go.ChangeShapes Go.WideShapes Go.ChangeAt Go.RowKit

set_option maxRecDepth 100000 in
theorem typesTell_lifted (os : Os) (started : os.Started) (H : Type) (enc : TypeId × Value → H) :
    ReturnsInHanded {} Try.checked os 3 .any (Rows.typesTellSpec.pre6 enc Try.prog Try.f3 Rows.typesTellRow.domain false) (Rows.typesTellSpec.post enc Try.prog Try.f3 false true false false) := by
  refine returnsInHanded_of_change (C := Try.checked) own started (by kernel_rfl) Try.func3
    (ChangeSpec.witness6 (enc := enc) (C := Try.checked) false ⟨#[], #[.agg #[.int .i64 0, .slice none 0 0], .agg #[.int .i64 0, .slice none 0 0], .agg #[.int .i64 0, .bool false, .int .i64 0, .int .i64 0, .string ⟨#[]⟩, .slice none 0 0]], []⟩ 8 (by kernel_rfl) (by kernel_rfl) (by kernel_rfl) (by kernel_rfl)) ?_
  intro W base args ds gs before hval hW _ _
  refine law_calls (set := [2, 3, 4, 9, 22, 24, 26, 27, 29]) (B := 4) (by kernel_rfl) (by kernel_rfl) laidOut rfl rfl Try.underlying4 (fun ds hl => ?_) W base args ds gs before hval hW (fun xs hl _ _ hT => ?_)
  · match ds, hl with
    | [a0, a1, a2], _ => rfl
  · match xs, hl with
    | [a0, a1, a2], _ =>
      have hz := (hT 2 29 _ rfl rfl).gsz
      obtain ⟨a, rfl⟩ := ty_in (hT 0 24 _ rfl rfl)
      obtain ⟨b, rfl⟩ := ty_in (hT 1 24 _ rfl rfl)
      obtain ⟨v, rfl⟩ := val_in (hT 2 29 _ rfl rfl)
      exact tell_pc a b v hz

theorem typesTell_holds : Rows.TypesTellSaid :=
  OpenClaim.holds_of_wide 3 Try.f3 rfl rfl rfl rfl rfl rfl rfl ⟨rfl, rfl, rfl, rfl, rfl⟩ rfl rfl rfl rfl rfl (by kernel_rfl) Try.func3 (by kernel_rfl)
    (of_decide_eq_true (by kernel_rfl)) (by unfold Func.isWrapper; first | (rw [if_pos (by decide +kernel)]; kernel_rfl) | (rw [if_neg (by decide +kernel)]; exact ⟨rfl, rfl⟩))
    (fun os started H enc _ => typesTell_lifted os started H enc)
#print axioms typesTell_holds
end Go.Proofs.Ytlibajlfojkohaa
