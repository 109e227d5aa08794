/- What the program's functions compute, each shown once; and plain laws of it. -/
import Derived.Test.YtffpepmfdjjjaaaOwnL
namespace Go.Proofs.Ytffpepmfdjjjaaa
open Go.Pure
attribute [local irreducible] PW POps POpsD PO PC Cond

theorem treeAt_bad {f p : Nat} {l : List UInt8} (h : (treeGo f (l.drop p) false).2.2 = true) : treeAt f l p = (noTree, -1) := by rw [treeAt, if_pos h]
theorem treeAt_good {f p q : Nat} {l : List UInt8} {t : Tr} (h : treeGo f (l.drop p) false = (t, l.drop q, false)) (hq : q ≤ l.length) : treeAt f l p = (t, (q : Int)) := by
  rw [treeAt, h, if_neg (by simp)]
  dsimp only
  rw [List.length_drop]
  congr 1
  omega
theorem half_val (x : Nat) (hx : x < 2 ^ 64) : IntKind.i64.wrap (IntKind.u64.wrap ((x : Int).tdiv 2)) = ((x / 2 : Nat) : Int) := by
  rw [show (2 : Int) = ((2 : Nat) : Int) from rfl, tdivN, u64mod, Nat.mod_eq_of_lt (by omega), wrap64 (by omega)]
theorem odd_val (x : Nat) : (((x : Int).tmod 2) == 1) = decide (x % 2 = 1) := by
  rw [show (2 : Int) = ((2 : Nat) : Int) from rfl, tmodN]
  rw [Bool.eq_iff_iff]
  simp
  omega
theorem tree_out {l : List UInt8} {p f : Nat} (h : l.length ≤ p) : (treeGo (f + 1) (l.drop p) false).2.2 = true := by
  rw [List.drop_of_length_le h, treeGo, if_neg (by decide)]
  exact kb _ (cb _ _ _ (cb _ _ _ (num_bad 10 0 0 []))) f

set_option maxRecDepth 100000 in
set_option maxHeartbeats 8000000 in
theorem tree_at : ∀ (f : Nat) (l : List UInt8) (p : Nat), f ≤ 40 → l.length ≤ 1000000000 → p ≤ l.length →
    PC Try.prog 56 [.g (.sl (bys l)), .g (.int .i64 p), .g (.int .i64 (41 - (f : Int)))] ⟨[], [], []⟩ (.tuple [.g (treeAt f l p).1.g, .g (.int .i64 (treeAt f l p).2)]) ⟨[], [], []⟩
  | 0, l, p, _, hl, hp => by
    have hta : treeAt 0 l p = (noTree, -1) := treeAt_bad (by simp [treeGo])
    rw [hta]
    refine PC_of_PW Try.func56 rfl rfl (rs := _) rfl (Nat.le_of_ble_eq_true (by kernel_rfl)) ?_
    (repeat' (first | (first | ((first | refine qA ?_ | refine qB ?_ | refine xN ?_ | refine xE ?_ | refine xT ?_); try show PW _ _ _ _ _ _) | refine ro1 tabOk rfl rfl ?_ | refine ro2 tabOk rfl rfl ?_ | refine ro3 tabOk rfl rfl ?_ | refine rd1 tabOk rfl rfl ?_ | refine rd2 tabOk rfl rfl ?_ | refine rd3 tabOk rfl rfl ?_ | ((first | apply oR rfl rfl | (apply dF rfl rfl rfl; intro _) | (apply dP rfl rfl rfl; intro _) | (apply dL rfl rfl rfl; intro _) | apply dC rfl rfl rfl rfl); (focus (first | exact cJ | exact mG | exact bT | exact nD)); try exact kQ) | refine xS ?_ | refine xR ?_ | refine qxa rfl rfl mixed ?_ | refine qxb rfl rfl mixed ?_ | refine qxc rfl rfl mixed ?_ | refine qxd rfl rfl mixed ?_ | refine xB ?_ | refine xt rfl ?_ | refine xf rfl ?_) | (refine POps_split rfl rfl (fun h => ?_) (fun h => ?_) <;> fail_if_success (first | (have : true = true := h) | (have : false = false := h))) | (refine POpsD_split rfl rfl (fun h => ?_) (fun h => ?_) <;> fail_if_success (first | (have : true = true := h) | (have : false = false := h))) | refine PW_cond rfl (fun h => ?_) (fun h => ?_)))
    exact Ret_two (resVs_cons (resV_agg (AG rfl) (SZ rfl) rfl rfl (Nat.le_of_ble_eq_true rfl)) (resVs_cons resV_tmp resVs_nil)) rfl rfl rfl
  | f + 1, l, p, hf, hl, hpl => by
    by_cases hp : p < l.length
    · have hg := bys_get hp
      have e1 : IntKind.i64.wrap ((p : Int) + 1) = ((p + 1 : Nat) : Int) := by rw [wrap64 (by omega)]; omega
      have n1 := number_at l (p + 1) hl
      rcases numAt_cases l (p + 1) hp with ⟨hN, hb⟩ | ⟨x, q, hN, hpq, hql, hx, hG⟩
      · have hta := treeAt_bad (tree_bad1 (f := f) hp hb)
        rw [hta]
        rw [hN, ← e1] at n1
        dsimp only at n1
        generalize l[p] = ch at hg
        refine PC_of_PW Try.func56 rfl rfl (rs := _) rfl (Nat.le_of_ble_eq_true (by kernel_rfl)) ?_
        (repeat' (first | (first | ((first | refine qA ?_ | refine qB ?_ | refine xN ?_ | refine xE ?_ | refine xT ?_); try show PW _ _ _ _ _ _) | refine ro1 tabOk rfl rfl ?_ | refine ro2 tabOk rfl rfl ?_ | refine ro3 tabOk rfl rfl ?_ | refine rd1 tabOk rfl rfl ?_ | refine rd2 tabOk rfl rfl ?_ | refine rd3 tabOk rfl rfl ?_ | ((first | apply oR rfl rfl | (apply dF rfl rfl rfl; intro _) | (apply dP rfl rfl rfl; intro _) | (apply dL rfl rfl rfl; intro _) | apply dC rfl rfl rfl rfl); (focus (first | exact cqP n1 | exact iA rfl (EL rfl) (SZ rfl) rfl rfl (Int.natCast_nonneg _) hg rfl | exact cJ | exact mG | exact bT | exact nD)); try exact kQ) | refine xS ?_ | refine xR ?_ | refine qxa rfl rfl mixed ?_ | refine qxb rfl rfl mixed ?_ | refine qxc rfl rfl mixed ?_ | refine qxd rfl rfl mixed ?_ | refine xB ?_ | refine xt rfl ?_ | refine xf rfl ?_) | (refine POps_split rfl rfl (fun h => ?_) (fun h => ?_) <;> fail_if_success (first | (have : true = true := h) | (have : false = false := h))) | (refine POpsD_split rfl rfl (fun h => ?_) (fun h => ?_) <;> fail_if_success (first | (have : true = true := h) | (have : false = false := h))) | refine PW_cond rfl (fun h => ?_) (fun h => ?_)))
        all_goals (try simp only [decide_eq_true_eq, decide_eq_false_iff_not, beq_iff_eq, bne_iff_ne, beq_eq_false_iff_ne, bne_eq_false_iff_eq, Bool.not_eq_true', Bool.not_eq_false', gt_iff_lt, ge_iff_le, ne_eq] at *)
        all_goals first
          | (exfalso; omega)
          | (exfalso; rw [bys_len] at *; omega)
          | exact Ret_two (resVs_cons (resV_agg (AG rfl) (SZ rfl) rfl rfl (Nat.le_of_ble_eq_true rfl)) (resVs_cons resV_tmp resVs_nil)) rfl rfl rfl
      · rw [hN, ← e1] at n1
        dsimp only at n1
        have hu : (if x % 2 = 1 then IntKind.i64.wrap (IntKind.i64.wrap (0 - IntKind.i64.wrap (IntKind.u64.wrap ((x : Int).tdiv 2))) - 1) else IntKind.i64.wrap (IntKind.u64.wrap ((x : Int).tdiv 2))) = unfold64 x := by
          rw [half_val x hx]
          unfold unfold64
          split
          · rw [if_neg (by omega), wrap64 (n := 0 - ((x / 2 : Nat) : Int)) (by omega), wrap64 (by omega)]; omega
          · rw [if_pos (by omega)]; omega
        have hod := odd_val x
        have n2 := number_at l q hl
        have htk := fun (q2 q3 n m : Nat) => @tree_kids l p q q2 q3 x n m f hp
        have hb2 := @tree_bad2 l p q x f hp hG
        have hmn := @tree_many l p q
        have hb3 := @tree_bad3 l p q
        generalize l[p] = ch at hg htk
        have hch := ch.toNat_lt
        have hcw : IntKind.i64.wrap ((ch.toNat : Nat) : Int) = ch.toNat := wrap64 (by omega)
        rcases numAt_cases l q hql with ⟨hN2, hbb⟩ | ⟨n, q2, hN2, hq2, hql2, hn, hG2⟩
        · have hta := treeAt_bad (hb2 hbb)
          rw [hta]
          rw [hN2] at n2
          dsimp only at n2
          refine PC_of_PW Try.func56 rfl rfl (rs := _) rfl (Nat.le_of_ble_eq_true (by kernel_rfl)) ?_
          (repeat' (first | (first | ((first | refine qA ?_ | refine qB ?_ | refine xN ?_ | refine xE ?_ | refine xT ?_); try show PW _ _ _ _ _ _) | refine ro1 tabOk rfl rfl ?_ | refine ro2 tabOk rfl rfl ?_ | refine ro3 tabOk rfl rfl ?_ | refine rd1 tabOk rfl rfl ?_ | refine rd2 tabOk rfl rfl ?_ | refine rd3 tabOk rfl rfl ?_ | ((first | apply oR rfl rfl | (apply dF rfl rfl rfl; intro _) | (apply dP rfl rfl rfl; intro _) | (apply dL rfl rfl rfl; intro _) | apply dC rfl rfl rfl rfl); (focus (first | exact cqP n1 | exact cqP n2 | exact iA rfl (EL rfl) (SZ rfl) rfl rfl (Int.natCast_nonneg _) hg rfl | exact PO_quo rfl rfl rfl (by decide) | exact PO_rem rfl rfl rfl (by decide) | exact cJ | exact mG | exact bT | exact nD)); try exact kQ) | refine xS ?_ | refine xR ?_ | refine qxa rfl rfl mixed ?_ | refine qxb rfl rfl mixed ?_ | refine qxc rfl rfl mixed ?_ | refine qxd rfl rfl mixed ?_ | refine xB ?_ | refine xt rfl ?_ | refine xf rfl ?_) | (refine POps_split rfl rfl (fun h => ?_) (fun h => ?_) <;> fail_if_success (first | (have : true = true := h) | (have : false = false := h))) | (refine POpsD_split rfl rfl (fun h => ?_) (fun h => ?_) <;> fail_if_success (first | (have : true = true := h) | (have : false = false := h))) | refine PW_cond rfl (fun h => ?_) (fun h => ?_)))
          all_goals (try simp only [decide_eq_true_eq, decide_eq_false_iff_not, beq_iff_eq, bne_iff_ne, beq_eq_false_iff_ne, bne_eq_false_iff_eq, Bool.not_eq_true', Bool.not_eq_false', gt_iff_lt, ge_iff_le, ne_eq] at *)
          all_goals first
            | (exfalso; omega)
            | (exfalso; simp only [bys_len] at *; omega)
            | exact Ret_two (resVs_cons (resV_agg (AG rfl) (SZ rfl) rfl rfl (Nat.le_of_ble_eq_true rfl)) (resVs_cons resV_tmp resVs_nil)) rfl rfl rfl
        · rw [hN2] at n2
          dsimp only at n2
          have hdw : IntKind.u64.wrap (IntKind.i64.wrap ((l.length : Int) - (q2 : Int))) = ((l.length - q2 : Nat) : Int) := by
            rw [wrap64 (by omega), show (l.length : Int) - (q2 : Int) = ((l.length - q2 : Nat) : Int) by omega, u64mod, Nat.mod_eq_of_lt (by omega)]
          by_cases hnl : l.length - q2 < n
          · have hta := treeAt_bad (hmn (f := f) hp hG hG2 hnl)
            rw [hta]
            refine PC_of_PW Try.func56 rfl rfl (rs := _) rfl (Nat.le_of_ble_eq_true (by kernel_rfl)) ?_
            (repeat' (first | (first | ((first | refine qA ?_ | refine qB ?_ | refine xN ?_ | refine xE ?_ | refine xT ?_); try show PW _ _ _ _ _ _) | refine ro1 tabOk rfl rfl ?_ | refine ro2 tabOk rfl rfl ?_ | refine ro3 tabOk rfl rfl ?_ | refine rd1 tabOk rfl rfl ?_ | refine rd2 tabOk rfl rfl ?_ | refine rd3 tabOk rfl rfl ?_ | ((first | apply oR rfl rfl | (apply dF rfl rfl rfl; intro _) | (apply dP rfl rfl rfl; intro _) | (apply dL rfl rfl rfl; intro _) | apply dC rfl rfl rfl rfl); (focus (first | exact cqP n1 | exact cqP n2 | exact iA rfl (EL rfl) (SZ rfl) rfl rfl (Int.natCast_nonneg _) hg rfl | exact PO_quo rfl rfl rfl (by decide) | exact PO_rem rfl rfl rfl (by decide) | exact cJ | exact mG | exact bT | exact nD)); try exact kQ) | refine xU [13] rfl ?_ | refine xR ?_ | refine qxa rfl rfl mixed ?_ | refine qxb rfl rfl mixed ?_ | refine qxc rfl rfl mixed ?_ | refine qxd rfl rfl mixed ?_ | refine xB ?_ | refine xt rfl ?_ | refine xf rfl ?_) | (refine POps_split rfl rfl (fun h => ?_) (fun h => ?_) <;> fail_if_success (first | (have : true = true := h) | (have : false = false := h))) | (refine POpsD_split rfl rfl (fun h => ?_) (fun h => ?_) <;> fail_if_success (first | (have : true = true := h) | (have : false = false := h))) | refine PW_cond rfl (fun h => ?_) (fun h => ?_)))
            all_goals (try simp only [decide_eq_true_eq, decide_eq_false_iff_not, beq_iff_eq, bne_iff_ne, beq_eq_false_iff_ne, bne_eq_false_iff_eq, Bool.not_eq_true', Bool.not_eq_false', gt_iff_lt, ge_iff_le, ne_eq] at *)
            all_goals first
              | (exfalso; omega)
              | (exfalso; simp only [bys_len] at *; omega)
              | exact Ret_two (resVs_cons (resV_agg (AG rfl) (SZ rfl) rfl rfl (Nat.le_of_ble_eq_true rfl)) (resVs_cons resV_tmp resVs_nil)) rfl rfl rfl
          · have hc1 : IntKind.i64.wrap ((n : Nat) : Int) = n := wrap64 (by omega)
            have hc2 : IntKind.i64.wrap ((q2 : Int) + IntKind.i64.wrap (n : Int)) = ((q2 + n : Nat) : Int) := by rw [hc1, wrap64 (by omega)]; omega
            have n3 := number_at l (q2 + n) hl
            have hlw : IntKind.u64.wrap ((l.length : Nat) : Int) = (l.length : Int) := by rw [u64mod, Nat.mod_eq_of_lt (by omega)]
            rw [← hc2] at n3
            rcases numAt_cases l (q2 + n) (by omega) with ⟨hN3, hbb⟩ | ⟨m, q3, hN3, hq3, hql3, hm, hG3⟩
            · have hta := treeAt_bad (hb3 (f := f) hp hG hG2 (by omega) hbb)
              rw [hta]
              rw [hN3] at n3
              dsimp only at n3
              refine PC_of_PW Try.func56 rfl rfl (rs := _) rfl (Nat.le_of_ble_eq_true (by kernel_rfl)) ?_
              (repeat' (first | (first | ((first | refine qA ?_ | refine qB ?_ | refine xN ?_ | refine xE ?_ | refine xT ?_); try show PW _ _ _ _ _ _) | refine ro1 tabOk rfl rfl ?_ | refine ro2 tabOk rfl rfl ?_ | refine ro3 tabOk rfl rfl ?_ | refine rd1 tabOk rfl rfl ?_ | refine rd2 tabOk rfl rfl ?_ | refine rd3 tabOk rfl rfl ?_ | ((first | apply oR rfl rfl | (apply dF rfl rfl rfl; intro _) | (apply dP rfl rfl rfl; intro _) | (apply dL rfl rfl rfl; intro _) | apply dC rfl rfl rfl rfl); (focus (first | exact cqP n1 | exact cqP n2 | exact cqP n3 | exact iA rfl (EL rfl) (SZ rfl) rfl rfl (Int.natCast_nonneg _) hg rfl | exact PO_quo rfl rfl rfl (by decide) | exact PO_rem rfl rfl rfl (by decide) | exact PO_slice_bys ((l.drop q2).take n) q2 (q2 + n) rfl (EL rfl) (SZ rfl) rfl rfl rfl rfl hc2 (by omega) (by omega) (by rw [Nat.add_sub_cancel_left]) | exact PO_conv_bytes rfl (EL rfl) (IK rfl) (ST rfl) rfl | exact cJ | exact mG | exact bT | exact nD)); try exact kQ) | refine xS ?_ | refine xR ?_ | refine qxa rfl rfl mixed ?_ | refine qxb rfl rfl mixed ?_ | refine qxc rfl rfl mixed ?_ | refine qxd rfl rfl mixed ?_ | refine xB ?_ | refine xt rfl ?_ | refine xf rfl ?_) | (refine POps_split rfl rfl (fun h => ?_) (fun h => ?_) <;> fail_if_success (first | (have : true = true := h) | (have : false = false := h))) | (refine POpsD_split rfl rfl (fun h => ?_) (fun h => ?_) <;> fail_if_success (first | (have : true = true := h) | (have : false = false := h))) | refine PW_cond rfl (fun h => ?_) (fun h => ?_)))
              all_goals (try simp only [decide_eq_true_eq, decide_eq_false_iff_not, beq_iff_eq, bne_iff_ne, beq_eq_false_iff_ne, bne_eq_false_iff_eq, Bool.not_eq_true', Bool.not_eq_false', gt_iff_lt, ge_iff_le, ne_eq] at *)
              all_goals first
                | (exfalso; omega)
                | (exfalso; simp only [bys_len] at *; omega)
                | exact Ret_two (resVs_cons (resV_agg (AG rfl) (SZ rfl) rfl rfl (Nat.le_of_ble_eq_true rfl)) (resVs_cons resV_tmp resVs_nil)) rfl rfl rfl
            · rw [hN3] at n3
              dsimp only at n3
              obtain ⟨htk1, htk2⟩ := htk q2 q3 n m hG hG2 (by omega) hG3
              clear hb2 hmn hb3
              by_cases hml : l.length < m
              · have hkb : (kidsGo (treeGo f) m (l.drop q3) false).2.2 = true := by
                  cases hkk : (kidsGo (treeGo f) m (l.drop q3) false).2.2 with
                  | true => rfl
                  | false => have := kids_few f hkk; simp at this; omega
                have hta := treeAt_bad (htk1 hkb)
                rw [hta]
                refine PC_of_PW Try.func56 rfl rfl (rs := _) rfl (Nat.le_of_ble_eq_true (by kernel_rfl)) ?_
                (repeat' (first | (first | ((first | refine qA ?_ | refine qB ?_ | refine xN ?_ | refine xE ?_ | refine xT ?_); try show PW _ _ _ _ _ _) | refine ro1 tabOk rfl rfl ?_ | refine ro2 tabOk rfl rfl ?_ | refine ro3 tabOk rfl rfl ?_ | refine rd1 tabOk rfl rfl ?_ | refine rd2 tabOk rfl rfl ?_ | refine rd3 tabOk rfl rfl ?_ | ((first | apply oR rfl rfl | (apply dF rfl rfl rfl; intro _) | (apply dP rfl rfl rfl; intro _) | (apply dL rfl rfl rfl; intro _) | apply dC rfl rfl rfl rfl); (focus (first | exact cqP n1 | exact cqP n2 | exact cqP n3 | exact iA rfl (EL rfl) (SZ rfl) rfl rfl (Int.natCast_nonneg _) hg rfl | exact PO_quo rfl rfl rfl (by decide) | exact PO_rem rfl rfl rfl (by decide) | exact PO_slice_bys ((l.drop q2).take n) q2 (q2 + n) rfl (EL rfl) (SZ rfl) rfl rfl rfl rfl hc2 (by omega) (by omega) (by rw [Nat.add_sub_cancel_left]) | exact PO_conv_bytes rfl (EL rfl) (IK rfl) (ST rfl) rfl | exact cJ | exact mG | exact bT | exact nD)); try exact kQ) | refine xS ?_ | refine xR ?_ | refine qxa rfl rfl mixed ?_ | refine qxb rfl rfl mixed ?_ | refine qxc rfl rfl mixed ?_ | refine qxd rfl rfl mixed ?_ | refine xB ?_ | refine xt rfl ?_ | refine xf rfl ?_) | (refine POps_split rfl rfl (fun h => ?_) (fun h => ?_) <;> fail_if_success (first | (have : true = true := h) | (have : false = false := h))) | (refine POpsD_split rfl rfl (fun h => ?_) (fun h => ?_) <;> fail_if_success (first | (have : true = true := h) | (have : false = false := h))) | refine PW_cond rfl (fun h => ?_) (fun h => ?_)))
                all_goals (try simp only [decide_eq_true_eq, decide_eq_false_iff_not, beq_iff_eq, bne_iff_ne, beq_eq_false_iff_ne, bne_eq_false_iff_eq, Bool.not_eq_true', Bool.not_eq_false', gt_iff_lt, ge_iff_le, ne_eq] at *)
                all_goals first
                  | (exfalso; omega)
                  | (exfalso; simp only [bys_len] at *; omega)
                  | exact Ret_two (resVs_cons (resV_agg (AG rfl) (SZ rfl) rfl rfl (Nat.le_of_ble_eq_true rfl)) (resVs_cons resV_tmp resVs_nil)) rfl rfl rfl
              · refine PC_of_PW Try.func56 rfl rfl (rs := _) rfl (Nat.le_of_ble_eq_true (by kernel_rfl)) ?_
                (repeat' (first | (first | ((first | refine qA ?_ | refine qB ?_ | refine xN ?_ | refine xE ?_ | refine xT ?_); try show PW _ _ _ _ _ _) | refine ro1 tabOk rfl rfl ?_ | refine ro2 tabOk rfl rfl ?_ | refine ro3 tabOk rfl rfl ?_ | refine rd1 tabOk rfl rfl ?_ | refine rd2 tabOk rfl rfl ?_ | refine rd3 tabOk rfl rfl ?_ | ((first | apply oR rfl rfl | (apply dF rfl rfl rfl; intro _) | (apply dP rfl rfl rfl; intro _) | (apply dL rfl rfl rfl; intro _) | apply dC rfl rfl rfl rfl); (focus (first | exact cqP n1 | exact iA rfl (EL rfl) (SZ rfl) rfl rfl (Int.natCast_nonneg _) hg rfl | exact PO_quo rfl rfl rfl (by decide) | exact PO_rem rfl rfl rfl (by decide) | exact cJ | exact mG | exact bT | exact nD)); try exact kQ) | refine xU [8] rfl ?_ | refine xR ?_ | refine qxa rfl rfl mixed ?_ | refine qxb rfl rfl mixed ?_ | refine qxc rfl rfl mixed ?_ | refine qxd rfl rfl mixed ?_ | refine xB ?_ | refine xt rfl ?_ | refine xf rfl ?_) | (refine POps_split rfl rfl (fun h => ?_) (fun h => ?_) <;> fail_if_success (first | (have : true = true := h) | (have : false = false := h))) | (refine POpsD_split rfl rfl (fun h => ?_) (fun h => ?_) <;> fail_if_success (first | (have : true = true := h) | (have : false = false := h))) | refine PW_cond rfl (fun h => ?_) (fun h => ?_)))
                all_goals (try simp only [decide_eq_true_eq, decide_eq_false_iff_not, beq_iff_eq, bne_iff_ne, beq_eq_false_iff_ne, bne_eq_false_iff_eq, Bool.not_eq_true', Bool.not_eq_false', gt_iff_lt, ge_iff_le, ne_eq] at *)
                all_goals try (exfalso; first | omega | (simp only [bys_len] at *; omega))
                refine PW_cut (slots [(0, .g (.sl (bys l))), (1, .g (.int .i64 q)), (2, .g (.int .i64 (41 - ((f + 1 : Nat) : Int)))), (6, .ptr 0 0), (8, .ptr 1 0)])
                  ⟨[[.g (.int .i64 0), .g (.int .i64 0), .g (.str ⟨#[]⟩), .nils], [.g (.int .i64 ch.toNat), .g (.int .i64 (unfold64 x)), .g (.str ⟨#[]⟩), .nils]], [], []⟩ ?_ ?_
                · (repeat' (first | (first | ((first | refine qA ?_ | refine qB ?_ | refine xN ?_ | refine xE ?_ | refine xT ?_); try show PW _ _ _ _ _ _) | refine ro1 tabOk rfl rfl ?_ | refine ro2 tabOk rfl rfl ?_ | refine ro3 tabOk rfl rfl ?_ | refine rd1 tabOk rfl rfl ?_ | refine rd2 tabOk rfl rfl ?_ | refine rd3 tabOk rfl rfl ?_ | ((first | apply oR rfl rfl | (apply dF rfl rfl rfl; intro _) | (apply dP rfl rfl rfl; intro _) | (apply dL rfl rfl rfl; intro _) | apply dC rfl rfl rfl rfl); (focus (first | exact PO_quo rfl rfl rfl (by decide) | exact PO_rem rfl rfl rfl (by decide) | exact cJ | exact mG | exact bT | exact nD)); try exact kQ) | refine xS ?_ | refine xR ?_ | refine qxa rfl rfl mixed ?_ | refine qxb rfl rfl mixed ?_ | refine qxc rfl rfl mixed ?_ | refine qxd rfl rfl mixed ?_ | refine xB ?_ | refine xt rfl ?_ | refine xf rfl ?_) | (refine POps_split rfl rfl (fun h => ?_) (fun h => ?_) <;> fail_if_success (first | (have : true = true := h) | (have : false = false := h))) | (refine POpsD_split rfl rfl (fun h => ?_) (fun h => ?_) <;> fail_if_success (first | (have : true = true := h) | (have : false = false := h))) | refine PW_cond rfl (fun h => ?_) (fun h => ?_)))
                  · rw [hod] at h
                    rw [if_pos (of_decide_eq_true h)] at hu
                    (refine ⟨SlotsOk.le ?_, HLe.of_eq ?_⟩; (repeat (first | exact meet_nil | refine meet_cons (.inl rfl) ?_ | refine meet_cons (.inr rfl) ?_ | refine meet_cons (.inl (by simp_all)) ?_)))
                    rw [hu, hcw]
                    rfl
                  · rw [hod] at h
                    rw [if_neg (of_decide_eq_false h)] at hu
                    (refine ⟨SlotsOk.le ?_, HLe.of_eq ?_⟩; (repeat (first | exact meet_nil | refine meet_cons (.inl rfl) ?_ | refine meet_cons (.inr rfl) ?_ | refine meet_cons (.inl (by simp_all)) ?_)))
                    rw [hu, hcw]
                    rfl
                · (repeat' (first | (first | ((first | refine qA ?_ | refine qB ?_ | refine xN ?_ | refine xE ?_ | refine xT ?_); try show PW _ _ _ _ _ _) | refine ro1 tabOk rfl rfl ?_ | refine ro2 tabOk rfl rfl ?_ | refine ro3 tabOk rfl rfl ?_ | refine rd1 tabOk rfl rfl ?_ | refine rd2 tabOk rfl rfl ?_ | refine rd3 tabOk rfl rfl ?_ | ((first | apply oR rfl rfl | (apply dF rfl rfl rfl; intro _) | (apply dP rfl rfl rfl; intro _) | (apply dL rfl rfl rfl; intro _) | apply dC rfl rfl rfl rfl); (focus (first | exact cqP n2 | exact cqP n3 | exact PO_slice_bys ((l.drop q2).take n) q2 (q2 + n) rfl (EL rfl) (SZ rfl) rfl rfl rfl rfl hc2 (by omega) (by omega) (by rw [Nat.add_sub_cancel_left]) | exact PO_conv_bytes rfl (EL rfl) (IK rfl) (ST rfl) rfl | exact cJ | exact mG | exact bT | exact nD)); try exact kQ) | refine xS ?_ | refine xR ?_ | refine qxa rfl rfl mixed ?_ | refine qxb rfl rfl mixed ?_ | refine qxc rfl rfl mixed ?_ | refine qxd rfl rfl mixed ?_ | refine xB ?_ | refine xt rfl ?_ | refine xf rfl ?_) | (refine POps_split rfl rfl (fun h => ?_) (fun h => ?_) <;> fail_if_success (first | (have : true = true := h) | (have : false = false := h))) | (refine POpsD_split rfl rfl (fun h => ?_) (fun h => ?_) <;> fail_if_success (first | (have : true = true := h) | (have : false = false := h))) | refine PW_cond rfl (fun h => ?_) (fun h => ?_)))
                  all_goals (try simp only [decide_eq_true_eq, decide_eq_false_iff_not, beq_iff_eq, bne_iff_ne, beq_eq_false_iff_ne, bne_eq_false_iff_eq, Bool.not_eq_true', Bool.not_eq_false', gt_iff_lt, ge_iff_le, ne_eq] at *)
                  all_goals try (exfalso; first | omega | (simp only [bys_len] at *; omega))
                  refine PW_bufbox 1 3 30 (SZ rfl) rfl rfl ?_
                  refine PW_loop_cut (S := Nat × Nat) (fun s => [(0, .g (.sl (bys l))), (1, .g (.int .i64 (s.2 : Int))), (2, .g (.int .i64 (41 - ((f + 1 : Nat) : Int)))), (6, .ptr 0 0), (8, .ptr 1 0), (11, .g (.int .u64 ((m - s.1 : Nat) : Int)))])
                    (fun s => ⟨[[.g (.int .i64 0), .g (.int .i64 0), .g (.str ⟨#[]⟩), .nils], [.g (.int .i64 ch.toNat), .g (.int .i64 (unfold64 x)), .g (.str ⟨((l.drop q2).take n).toArray⟩), .own (Tr.gs (kidsGo (treeGo f) s.1 (l.drop q3) false).1) 0]], [(30, s.1)], []⟩)
                    (fun s => s.1 ≤ m ∧ s.2 ≤ l.length ∧ (kidsGo (treeGo f) s.1 (l.drop q3) false).2 = (l.drop s.2, false)) (fun s => m - s.1) (0, q3) ⟨Nat.zero_le _, hql3, rfl⟩ ?_ ?_ (fun _ => rfl) (fun s hs => ?_)
                  · exact SlotsOk.le ⟨.inl rfl, .inl rfl, .inl rfl, .inl rfl, .inl rfl, .inl rfl, trivial⟩
                  · exact HLe.of_eq rfl
                  obtain ⟨i, q'⟩ := s
                  obtain ⟨hi, hq', hK⟩ := hs
                  dsimp only at hi hq' hK ⊢
                  (repeat (first | ((first | refine qA ?_ | refine qB ?_ | refine xN ?_ | refine xE ?_ | refine xT ?_); try show PW _ _ _ _ _ _) | refine ro1 tabOk rfl rfl ?_ | refine ro2 tabOk rfl rfl ?_ | refine ro3 tabOk rfl rfl ?_ | refine rd1 tabOk rfl rfl ?_ | refine rd2 tabOk rfl rfl ?_ | refine rd3 tabOk rfl rfl ?_ | ((first | apply oR rfl rfl | (apply dF rfl rfl rfl; intro _) | (apply dP rfl rfl rfl; intro _) | (apply dL rfl rfl rfl; intro _) | apply dC rfl rfl rfl rfl); (focus (first | exact cJ | exact mG | exact bT | exact nD)); try exact kQ) | refine xS ?_ | refine xR ?_ | refine qxa rfl rfl mixed ?_ | refine qxb rfl rfl mixed ?_ | refine qxc rfl rfl mixed ?_ | refine qxd rfl rfl mixed ?_ | refine xB ?_ | refine xt rfl ?_ | refine xf rfl ?_))
                  (first | refine POps_split rfl rfl (fun h => ?_) (fun h => ?_) | refine POpsD_split rfl rfl (fun h => ?_) (fun h => ?_) | refine PW_cond rfl (fun h => ?_) (fun h => ?_))
                  · have hlt : i < m := by have := of_decide_eq_true h; omega
                    have hks := kids_count (treeGo f) i (l.drop q3) false
                    have hks2 := kids_succ (treeGo f) i (l.drop q3) false
                    rw [hK] at hks2
                    dsimp only at hks2
                    have hf4 : 4 * i ≤ (l.drop q3).length := kids_few f (by rw [hK])
                    rw [List.length_drop] at hf4
                    have hT := tree_at f l q' (by omega) hl hq'
                    have hdp : IntKind.i64.wrap ((41 : Int) - ((f + 1 : Nat) : Int) + 1) = 41 - (f : Int) := by rw [wrap64 (by omega)]; omega
                    rw [← hdp] at hT
                    rcases treeAt_cases f l q' hq' with ⟨hA, hbad⟩ | ⟨t, q4, hA, hq4, hql4, hgo⟩
                    · rw [hA] at hT
                      unfold noTree at hT
                      dsimp only at hT
                      have hK1 : (kidsGo (treeGo f) (i + 1) (l.drop q3) false).2.2 = true := by rw [hks2]; exact hbad
                      have hta := treeAt_bad (htk1 (kids_stop f hK1 hlt))
                      rw [hta]
                      (repeat (first | ((first | refine qA ?_ | refine qB ?_ | refine xN ?_ | refine xE ?_ | refine xT ?_); try show PW _ _ _ _ _ _) | refine ro1 tabOk rfl rfl ?_ | refine ro2 tabOk rfl rfl ?_ | refine ro3 tabOk rfl rfl ?_ | refine rd1 tabOk rfl rfl ?_ | refine rd2 tabOk rfl rfl ?_ | refine rd3 tabOk rfl rfl ?_ | ((first | apply oR rfl rfl | (apply dF rfl rfl rfl; intro _) | (apply dP rfl rfl rfl; intro _) | (apply dL rfl rfl rfl; intro _) | apply dC rfl rfl rfl rfl); (focus (first | exact cqP hT | exact cJ | exact mG | exact bT | exact nD)); try exact kQ) | refine xS ?_ | refine xR ?_ | refine qxa rfl rfl mixed ?_ | refine qxb rfl rfl mixed ?_ | refine qxc rfl rfl mixed ?_ | refine qxd rfl rfl mixed ?_ | refine xB ?_ | refine xt rfl ?_ | refine xf rfl ?_))
                      exact Ret_two (resVs_cons (resV_agg (AG rfl) (SZ rfl) rfl rfl (Nat.le_of_ble_eq_true rfl)) (resVs_cons resV_tmp resVs_nil)) rfl rfl rfl
                    · obtain ⟨ta, tb, tc, td⟩ := t
                      rw [hA] at hT
                      dsimp only at hT
                      rw [hgo] at hks2
                      dsimp only at hks2
                      have hxs : ∀ x ∈ [(Tr.mk ta tb tc td).g], x.cells.length = 4 := by
                        intro x hx; rw [List.mem_singleton.1 hx]; exact g_cells _
                      (repeat (first | ((first | refine qA ?_ | refine qB ?_ | refine xN ?_ | refine xE ?_ | refine xT ?_); try show PW _ _ _ _ _ _) | refine ro1 tabOk rfl rfl ?_ | refine ro2 tabOk rfl rfl ?_ | refine ro3 tabOk rfl rfl ?_ | refine rd1 tabOk rfl rfl ?_ | refine rd2 tabOk rfl rfl ?_ | refine rd3 tabOk rfl rfl ?_ | ((first | apply oR rfl rfl | (apply dF rfl rfl rfl; intro _) | (apply dP rfl rfl rfl; intro _) | (apply dL rfl rfl rfl; intro _) | apply dC rfl rfl rfl rfl); (focus (first | exact cqP hT | exact aP (xs := [(Tr.mk ta tb tc td).g]) rfl (EL rfl) (SZ rfl) (BY rfl) (ZR rfl) rfl rfl rfl rfl (by rw [gs_len]; exact hks) hxs (by simp; omega) (by simp [maxLen]; omega) | exact cJ | exact mG | exact bT | exact nD)); try exact kQ) | refine xS ?_ | refine xR ?_ | refine qxa rfl rfl mixed ?_ | refine qxb rfl rfl mixed ?_ | refine qxc rfl rfl mixed ?_ | refine qxd rfl rfl mixed ?_ | refine xB ?_ | refine xt rfl ?_ | refine xf rfl ?_))
                      refine ⟨(i + 1, q4), ⟨hlt, hql4, by rw [hks2]⟩, by dsimp only; omega, ?_, Drops.mk [[.g (.int .i64 ta), .g (.int .i64 tb), .g (.str tc), .g (.sl (Tr.gs td))]] [] [] ?_⟩
                      · exact SlotsOk.le ⟨.inl rfl, .inl rfl, .inl rfl, .inl rfl, .inl rfl, .inl (congrArg (fun z => PV.g (.int .u64 z)) (by rw [show ((m - i : Nat) : Int) - 1 = ((m - (i + 1) : Nat) : Int) by omega, u64mod, Nat.mod_eq_of_lt (by omega)])), trivial⟩
                      · rw [hks2]
                        dsimp only
                        rw [gs_append]
                        rfl
                  · have hi' : i = m := by have := of_decide_eq_false h; omega
                    subst hi'
                    have hgd := htk2 (by rw [hK])
                    rw [hK] at hgd
                    have hta := treeAt_good hgd hq'
                    rw [hta]
                    (repeat (first | ((first | refine qA ?_ | refine qB ?_ | refine xN ?_ | refine xE ?_ | refine xT ?_); try show PW _ _ _ _ _ _) | refine ro1 tabOk rfl rfl ?_ | refine ro2 tabOk rfl rfl ?_ | refine ro3 tabOk rfl rfl ?_ | refine rd1 tabOk rfl rfl ?_ | refine rd2 tabOk rfl rfl ?_ | refine rd3 tabOk rfl rfl ?_ | ((first | apply oR rfl rfl | (apply dF rfl rfl rfl; intro _) | (apply dP rfl rfl rfl; intro _) | (apply dL rfl rfl rfl; intro _) | apply dC rfl rfl rfl rfl); (focus (first | exact cJ | exact mG | exact bT | exact nD)); try exact kQ) | refine xS ?_ | refine xR ?_ | refine qxa rfl rfl mixed ?_ | refine qxb rfl rfl mixed ?_ | refine qxc rfl rfl mixed ?_ | refine qxd rfl rfl mixed ?_ | refine xB ?_ | refine xt rfl ?_ | refine xf rfl ?_))
                    exact Ret_two (resVs_cons (resV_agg (AG rfl) (SZ rfl) rfl rfl (Nat.le_of_ble_eq_true rfl)) (resVs_cons resV_tmp resVs_nil)) rfl rfl rfl
    · have hta : treeAt (f + 1) l p = (noTree, -1) := treeAt_bad (tree_out (by omega))
      rw [hta]
      refine PC_of_PW Try.func56 rfl rfl (rs := _) rfl (Nat.le_of_ble_eq_true (by kernel_rfl)) ?_
      (repeat' (first | (first | ((first | refine qA ?_ | refine qB ?_ | refine xN ?_ | refine xE ?_ | refine xT ?_); try show PW _ _ _ _ _ _) | refine ro1 tabOk rfl rfl ?_ | refine ro2 tabOk rfl rfl ?_ | refine ro3 tabOk rfl rfl ?_ | refine rd1 tabOk rfl rfl ?_ | refine rd2 tabOk rfl rfl ?_ | refine rd3 tabOk rfl rfl ?_ | ((first | apply oR rfl rfl | (apply dF rfl rfl rfl; intro _) | (apply dP rfl rfl rfl; intro _) | (apply dL rfl rfl rfl; intro _) | apply dC rfl rfl rfl rfl); (focus (first | exact cJ | exact mG | exact bT | exact nD)); try exact kQ) | refine xS ?_ | refine xR ?_ | refine qxa rfl rfl mixed ?_ | refine qxb rfl rfl mixed ?_ | refine qxc rfl rfl mixed ?_ | refine qxd rfl rfl mixed ?_ | refine xB ?_ | refine xt rfl ?_ | refine xf rfl ?_) | (refine POps_split rfl rfl (fun h => ?_) (fun h => ?_) <;> fail_if_success (first | (have : true = true := h) | (have : false = false := h))) | (refine POpsD_split rfl rfl (fun h => ?_) (fun h => ?_) <;> fail_if_success (first | (have : true = true := h) | (have : false = false := h))) | refine PW_cond rfl (fun h => ?_) (fun h => ?_)))
      all_goals (try simp only [decide_eq_true_eq, decide_eq_false_iff_not, beq_iff_eq, bne_iff_ne, beq_eq_false_iff_ne, bne_eq_false_iff_eq, Bool.not_eq_true', Bool.not_eq_false', gt_iff_lt, ge_iff_le, ne_eq] at *)
      all_goals first
        | (exfalso; omega)
        | (exfalso; simp only [bys_len] at *; omega)
        | exact Ret_two (resVs_cons (resV_agg (AG rfl) (SZ rfl) rfl rfl (Nat.le_of_ble_eq_true rfl)) (resVs_cons resV_tmp resVs_nil)) rfl rfl rfl
end Go.Proofs.Ytffpepmfdjjjaaa


namespace Go.Proofs.Ytffpepmfdjjjaaa
open Go.Pure
attribute [local irreducible] PW POps POpsD PO PC Cond

theorem eq_of_all {a b : List UInt8} (hl : a.length = b.length) (h : ∀ j, j < a.length → a[j]? = b[j]?) : a = b := by
  apply List.ext_getElem? 
  intro i
  by_cases hi : i < a.length
  · exact h i hi
  · rw [List.getElem?_eq_none (by omega), List.getElem?_eq_none (by omega)]

set_option maxRecDepth 100000 in
set_option maxHeartbeats 8000000 in
theorem parse_ref_b (body tl : List UInt8) (s : BitVec 32) (htl : tl.length = 4) (hs : tl = four (sumB body) ↔ sumB body = s) (hl : body.length + 4 ≤ 100000) :
    PC Try.prog 25 [.g (.sl (bys (body ++ tl)))] ⟨[], [], []⟩ (.tuple [.g (parseB body s).1.g, .g (.int .i64 (parseB body s).2)]) ⟨[], [], []⟩ := by
  generalize hll : body ++ tl = l
  have hlen : l.length = body.length + 4 := by rw [← hll]; simp [htl]
  have hw : IntKind.i64.wrap (((bys l).length : Int) - 4) = (body.length : Int) := by rw [bys_len, hlen]; rw [wrap64 (by omega)]; omega
  have hsum := sum_ref body (by omega)
  have hfour := four_ref (sumB body)
  have htake : (l.drop 0).take (body.length - 0) = body := by rw [← hll]; simp
  have hfl : (four (sumB body)).length = 4 := by simp [four]
  obtain ⟨R, hpb⟩ : ∃ R, parseB body s = R := ⟨_, rfl⟩
  rw [hpb]
  unfold parseB at hpb
  generalize four (sumB body) = fs at hfour hs hfl
  have ht : PC Try.prog 56 [.g (.sl (bys body)), .g (.int .i64 0), .g (.int .i64 1)] ⟨[], [], []⟩ (.tuple [.g (treeAt 40 body 0).1.g, .g (.int .i64 (treeAt 40 body 0).2)]) ⟨[], [], []⟩ := tree_at 40 body 0 (Nat.le_refl _) (by omega) (Nat.zero_le _)
  have hcs := treeAt_cases 40 body 0 (Nat.zero_le _)
  have hok := tree_ok 40 body false (by omega)
  rw [List.drop_zero] at hcs
  refine PC_of_PW Try.func25 rfl rfl (rs := _) rfl (Nat.le_of_ble_eq_true (by kernel_rfl)) ?_
  (repeat' (first | (first | ((first | refine qA ?_ | refine qB ?_ | refine xN ?_ | refine xE ?_ | refine xT ?_); try show PW _ _ _ _ _ _) | refine ro1 tabOk rfl rfl ?_ | refine ro2 tabOk rfl rfl ?_ | refine ro3 tabOk rfl rfl ?_ | refine rd1 tabOk rfl rfl ?_ | refine rd2 tabOk rfl rfl ?_ | refine rd3 tabOk rfl rfl ?_ | ((first | apply oR rfl rfl | (apply dF rfl rfl rfl; intro _) | (apply dP rfl rfl rfl; intro _) | (apply dL rfl rfl rfl; intro _) | apply dC rfl rfl rfl rfl); (focus (first | exact cqP hsum | exact cqP hfour | exact PO_slice_bys body 0 body.length rfl (EL rfl) (SZ rfl) rfl rfl rfl rfl hw (Nat.zero_le _) (by omega) htake | exact cJ | exact mG | exact bT | exact nD)); try exact kQ) | refine xS ?_ | refine xR ?_ | refine qxa rfl rfl mixed ?_ | refine qxb rfl rfl mixed ?_ | refine qxc rfl rfl mixed ?_ | refine qxd rfl rfl mixed ?_ | refine xB ?_ | refine xt rfl ?_ | refine xf rfl ?_) | (refine POps_split rfl rfl (fun h => ?_) (fun h => ?_) <;> fail_if_success (first | (have : true = true := h) | (have : false = false := h))) | (refine POpsD_split rfl rfl (fun h => ?_) (fun h => ?_) <;> fail_if_success (first | (have : true = true := h) | (have : false = false := h))) | refine PW_cond rfl (fun h => ?_) (fun h => ?_)))
  all_goals (try simp only [decide_eq_true_eq, decide_eq_false_iff_not, beq_iff_eq, bne_iff_ne, beq_eq_false_iff_ne, bne_eq_false_iff_eq, Bool.not_eq_true', Bool.not_eq_false', gt_iff_lt, ge_iff_le, ne_eq] at *)
  all_goals try (exfalso; first | omega | (simp only [bys_len] at *; omega))
  refine PW_loop (S := Nat) (fun i => slots [(0, .g (.sl (bys l))), (2, .ptr 0 0), (4, .g (.int .i64 (body.length : Int))), (24, .g (.sl (bys fs))), (25, .g (.int .i64 4)), (26, .g (.int .i64 (i : Int)))]) (fun _ => ⟨[[.g (.int .i64 0), .g (.int .i64 0), .g (.str ⟨#[]⟩), .nils]], [], []⟩)
    (fun i => i ≤ 4 ∧ ∀ j, j < i → tl[j]? = fs[j]?) (fun i => 4 - i) 0 ⟨Nat.zero_le _, fun j hj => absurd hj (Nat.not_lt_zero _)⟩ ?_ ?_ (fun i hi => ?_)
  · refine SlotsOk.le ⟨.inl rfl, .inl rfl, .inl (congrArg (fun z => PV.g (.int .i64 z)) hw), .inl rfl, .inl (congrArg (fun z => PV.g (.int .i64 z)) ?_), .inl rfl, trivial⟩
    rw [bys_len, hfl]; rfl
  · exact HLe.of_eq rfl
  obtain ⟨hi, heq⟩ := hi
  (repeat (first | ((first | refine qA ?_ | refine qB ?_ | refine xN ?_ | refine xE ?_ | refine xT ?_); try show PW _ _ _ _ _ _) | refine ro1 tabOk rfl rfl ?_ | refine ro2 tabOk rfl rfl ?_ | refine ro3 tabOk rfl rfl ?_ | refine rd1 tabOk rfl rfl ?_ | refine rd2 tabOk rfl rfl ?_ | refine rd3 tabOk rfl rfl ?_ | ((first | apply oR rfl rfl | (apply dF rfl rfl rfl; intro _) | (apply dP rfl rfl rfl; intro _) | (apply dL rfl rfl rfl; intro _) | apply dC rfl rfl rfl rfl); (focus (first | exact cJ | exact mG | exact bT | exact nD)); try exact kQ) | refine xS ?_ | refine xR ?_ | refine qxa rfl rfl mixed ?_ | refine qxb rfl rfl mixed ?_ | refine qxc rfl rfl mixed ?_ | refine qxd rfl rfl mixed ?_ | refine xB ?_ | refine xt rfl ?_ | refine xf rfl ?_))
  (first | refine POps_split rfl rfl (fun h => ?_) (fun h => ?_) | refine POpsD_split rfl rfl (fun h => ?_) (fun h => ?_) | refine PW_cond rfl (fun h => ?_) (fun h => ?_))
  · have hlt : i < 4 := by have := of_decide_eq_true h; omega
    have hga := bys_get (l := fs) (i := i) (by omega)
    have hlg : (bys l)[(IntKind.i64.wrap ((body.length : Int) + (i : Int))).toNat]? = some (byteG (tl[i]'(by omega))) := by
      rw [wrap64 (by omega), ← hll, show ((body.length : Int) + (i : Int)).toNat = body.length + i by omega]
      unfold bys
      rw [List.map_append, List.getElem?_append_right (by simp)]
      simp
      exact ⟨_, List.getElem?_eq_getElem _, rfl⟩
    have hp0 : 0 ≤ IntKind.i64.wrap ((body.length : Int) + (i : Int)) := by rw [wrap64 (by omega)]; omega
    have hta : tl[i]? = some (tl[i]'(by omega)) := List.getElem?_eq_getElem _
    have htb : fs[i]? = some (fs[i]'(by omega)) := List.getElem?_eq_getElem _
    generalize fs[i]'(by omega) = x at hga htb
    generalize tl[i]'(by omega) = y at hlg hta
    (repeat (first | ((first | refine qA ?_ | refine qB ?_ | refine xN ?_ | refine xE ?_ | refine xT ?_); try show PW _ _ _ _ _ _) | refine ro1 tabOk rfl rfl ?_ | refine ro2 tabOk rfl rfl ?_ | refine ro3 tabOk rfl rfl ?_ | refine rd1 tabOk rfl rfl ?_ | refine rd2 tabOk rfl rfl ?_ | refine rd3 tabOk rfl rfl ?_ | ((first | apply oR rfl rfl | (apply dF rfl rfl rfl; intro _) | (apply dP rfl rfl rfl; intro _) | (apply dL rfl rfl rfl; intro _) | apply dC rfl rfl rfl rfl); (focus (first | exact iA rfl (EL rfl) (SZ rfl) rfl rfl (Int.natCast_nonneg _) hga rfl | exact iA rfl (EL rfl) (SZ rfl) rfl rfl hp0 hlg rfl | exact cJ | exact mG | exact bT | exact nD)); try exact kQ) | refine xS ?_ | refine xR ?_ | refine qxa rfl rfl mixed ?_ | refine qxb rfl rfl mixed ?_ | refine qxc rfl rfl mixed ?_ | refine qxd rfl rfl mixed ?_ | refine xB ?_ | refine xt rfl ?_ | refine xf rfl ?_))
    (first | refine POps_split rfl rfl (fun h => ?_) (fun h => ?_) | refine POpsD_split rfl rfl (fun h => ?_) (fun h => ?_) | refine PW_cond rfl (fun h => ?_) (fun h => ?_))
    · have hne : y ≠ x := by rintro rfl; simp at h
      have hns : ¬ sumB body = s := fun hh => hne (by have := hs.2 hh; rw [this] at hta; rw [hta] at htb; cases htb; rfl)
      rw [if_pos hns] at hpb
      subst hpb
      (repeat (first | ((first | refine qA ?_ | refine qB ?_ | refine xN ?_ | refine xE ?_ | refine xT ?_); try show PW _ _ _ _ _ _) | refine ro1 tabOk rfl rfl ?_ | refine ro2 tabOk rfl rfl ?_ | refine ro3 tabOk rfl rfl ?_ | refine rd1 tabOk rfl rfl ?_ | refine rd2 tabOk rfl rfl ?_ | refine rd3 tabOk rfl rfl ?_ | ((first | apply oR rfl rfl | (apply dF rfl rfl rfl; intro _) | (apply dP rfl rfl rfl; intro _) | (apply dL rfl rfl rfl; intro _) | apply dC rfl rfl rfl rfl); (focus (first | exact cJ | exact mG | exact bT | exact nD)); try exact kQ) | refine xS ?_ | refine xR ?_ | refine qxa rfl rfl mixed ?_ | refine qxb rfl rfl mixed ?_ | refine qxc rfl rfl mixed ?_ | refine qxd rfl rfl mixed ?_ | refine xB ?_ | refine xt rfl ?_ | refine xf rfl ?_))
      exact Ret_two (resVs_cons (resV_agg (AG rfl) (SZ rfl) rfl rfl (Nat.le_of_ble_eq_true rfl)) (resVs_cons resV_tmp resVs_nil)) rfl rfl rfl
    · have hxy : y = x := by
        have h' : ¬ ((y.toNat : Int) = x.toNat) → False := by simpa [bne] using h
        apply UInt8.toNat_inj.1
        by_cases hq : y.toNat = x.toNat
        · exact hq
        · exact absurd (fun e => hq (by omega)) h'
      (repeat (first | ((first | refine qA ?_ | refine qB ?_ | refine xN ?_ | refine xE ?_ | refine xT ?_); try show PW _ _ _ _ _ _) | refine ro1 tabOk rfl rfl ?_ | refine ro2 tabOk rfl rfl ?_ | refine ro3 tabOk rfl rfl ?_ | refine rd1 tabOk rfl rfl ?_ | refine rd2 tabOk rfl rfl ?_ | refine rd3 tabOk rfl rfl ?_ | ((first | apply oR rfl rfl | (apply dF rfl rfl rfl; intro _) | (apply dP rfl rfl rfl; intro _) | (apply dL rfl rfl rfl; intro _) | apply dC rfl rfl rfl rfl); (focus (first | exact cJ | exact mG | exact bT | exact nD)); try exact kQ) | refine xS ?_ | refine xR ?_ | refine qxa rfl rfl mixed ?_ | refine qxb rfl rfl mixed ?_ | refine qxc rfl rfl mixed ?_ | refine qxd rfl rfl mixed ?_ | refine xB ?_ | refine xt rfl ?_ | refine xf rfl ?_))
      refine ⟨i + 1, ⟨hlt, fun j hj => ?_⟩, by omega, SlotsOk.le ⟨.inl rfl, .inl rfl, .inl rfl, .inl rfl, .inl rfl, .inl (congrArg (fun z => PV.g (.int .i64 z)) (wrap64 (by omega))), trivial⟩, HLe.refl _⟩
      by_cases hj' : j < i
      · exact heq j hj'
      · have : j = i := by omega
        subst this
        rw [hta, htb, hxy]
  · have hi4 : i = 4 := by have := of_decide_eq_false h; omega
    subst hi4
    have hse : sumB body = s := hs.1 (eq_of_all (by omega) (fun j hj => heq j (by omega)))
    rw [if_neg (fun hn => hn hse)] at hpb
    have hw2 : (IntKind.i64.wrap (body.length : Int)) = body.length := wrap64 (by omega)
    rcases hcs with ⟨hA, hbad⟩ | ⟨t, q, hA, _, hql, hgo⟩
    · rw [if_pos (.inl hbad)] at hpb
      subst hpb
      rw [hA] at ht
      unfold noTree at ht
      dsimp only at ht
      (repeat' (first | (first | ((first | refine qA ?_ | refine qB ?_ | refine xN ?_ | refine xE ?_ | refine xT ?_); try show PW _ _ _ _ _ _) | refine ro1 tabOk rfl rfl ?_ | refine ro2 tabOk rfl rfl ?_ | refine ro3 tabOk rfl rfl ?_ | refine rd1 tabOk rfl rfl ?_ | refine rd2 tabOk rfl rfl ?_ | refine rd3 tabOk rfl rfl ?_ | ((first | apply oR rfl rfl | (apply dF rfl rfl rfl; intro _) | (apply dP rfl rfl rfl; intro _) | (apply dL rfl rfl rfl; intro _) | apply dC rfl rfl rfl rfl); (focus (first | exact cqP ht | exact PO_slice_bys body 0 body.length rfl (EL rfl) (SZ rfl) rfl rfl rfl rfl rfl (Nat.zero_le _) (by omega) htake | exact cJ | exact mG | exact bT | exact nD)); try exact kQ) | refine xS ?_ | refine xR ?_ | refine qxa rfl rfl mixed ?_ | refine qxb rfl rfl mixed ?_ | refine qxc rfl rfl mixed ?_ | refine qxd rfl rfl mixed ?_ | refine xB ?_ | refine xt rfl ?_ | refine xf rfl ?_) | (refine POps_split rfl rfl (fun h => ?_) (fun h => ?_) <;> fail_if_success (first | (have : true = true := h) | (have : false = false := h))) | (refine POpsD_split rfl rfl (fun h => ?_) (fun h => ?_) <;> fail_if_success (first | (have : true = true := h) | (have : false = false := h))) | refine PW_cond rfl (fun h => ?_) (fun h => ?_)))
      all_goals first
        | exact Ret_two (resVs_cons (resV_agg (AG rfl) (SZ rfl) rfl rfl (Nat.le_of_ble_eq_true rfl)) (resVs_cons resV_tmp resVs_nil)) rfl rfl rfl
    · rw [hgo] at hpb hok
      rw [hA] at ht
      dsimp only at ht hpb hok
      have hwr := wrong_ref t hok
      obtain ⟨ta, tb, tc, td⟩ := t
      rw [List.length_drop] at hpb
      (repeat' (first | (first | ((first | refine qA ?_ | refine qB ?_ | refine xN ?_ | refine xE ?_ | refine xT ?_); try show PW _ _ _ _ _ _) | refine ro1 tabOk rfl rfl ?_ | refine ro2 tabOk rfl rfl ?_ | refine ro3 tabOk rfl rfl ?_ | refine rd1 tabOk rfl rfl ?_ | refine rd2 tabOk rfl rfl ?_ | refine rd3 tabOk rfl rfl ?_ | ((first | apply oR rfl rfl | (apply dF rfl rfl rfl; intro _) | (apply dP rfl rfl rfl; intro _) | (apply dL rfl rfl rfl; intro _) | apply dC rfl rfl rfl rfl); (focus (first | exact cqP ht | exact cqP hwr | exact PO_slice_bys body 0 body.length rfl (EL rfl) (SZ rfl) rfl rfl rfl rfl rfl (Nat.zero_le _) (by omega) htake | exact cJ | exact mG | exact bT | exact nD)); try exact kQ) | refine xS ?_ | refine xR ?_ | refine qxa rfl rfl mixed ?_ | refine qxb rfl rfl mixed ?_ | refine qxc rfl rfl mixed ?_ | refine qxd rfl rfl mixed ?_ | refine xB ?_ | refine xt rfl ?_ | refine xf rfl ?_) | (refine POps_split rfl rfl (fun h => ?_) (fun h => ?_) <;> fail_if_success (first | (have : true = true := h) | (have : false = false := h))) | (refine POpsD_split rfl rfl (fun h => ?_) (fun h => ?_) <;> fail_if_success (first | (have : true = true := h) | (have : false = false := h))) | refine PW_cond rfl (fun h => ?_) (fun h => ?_)))
      all_goals (try simp only [decide_eq_true_eq, decide_eq_false_iff_not, beq_iff_eq, bne_iff_ne, beq_eq_false_iff_ne, bne_eq_false_iff_eq, Bool.not_eq_true', Bool.not_eq_false', gt_iff_lt, ge_iff_le, ne_eq] at *)
      all_goals first
        | (rw [if_pos (.inr (.inl (by omega)))] at hpb
           subst hpb
           exact Ret_two (resVs_cons (resV_agg (AG rfl) (SZ rfl) rfl rfl (Nat.le_of_ble_eq_true rfl)) (resVs_cons resV_tmp resVs_nil)) rfl rfl rfl)
        | (rw [if_pos (.inr (.inr (by assumption)))] at hpb
           subst hpb
           exact Ret_two (resVs_cons (resV_agg (AG rfl) (SZ rfl) rfl rfl (Nat.le_of_ble_eq_true rfl)) (resVs_cons resV_tmp resVs_nil)) rfl rfl rfl)
        | (rw [if_neg (by rintro (hh | hh | hh) <;> first | omega | contradiction)] at hpb
           subst hpb
           exact Ret_two (resVs_cons (resV_agg (AG rfl) (SZ rfl) rfl rfl (Nat.le_of_ble_eq_true rfl)) (resVs_cons resV_tmp resVs_nil)) rfl rfl rfl)
end Go.Proofs.Ytffpepmfdjjjaaa


namespace Go.Proofs.Ytffpepmfdjjjaaa
open Go.Pure
attribute [local irreducible] PW POps POpsD PO PC Cond

set_option maxRecDepth 100000 in
set_option maxHeartbeats 4000000 in
theorem parse_ref_long (l : List UInt8) (h : 100000 < l.length) : PC Try.prog 25 [.g (.sl (bys l))] ⟨[], [], []⟩ (.tuple [.g noTree.g, .g (.int .i64 4)]) ⟨[], [], []⟩ := by
  refine PC_of_PW Try.func25 rfl rfl (rs := _) rfl (Nat.le_of_ble_eq_true (by kernel_rfl)) ?_
  (repeat (first | ((first | refine qA ?_ | refine qB ?_ | refine xN ?_ | refine xE ?_ | refine xT ?_); try show PW _ _ _ _ _ _) | refine ro1 tabOk rfl rfl ?_ | refine ro2 tabOk rfl rfl ?_ | refine ro3 tabOk rfl rfl ?_ | refine rd1 tabOk rfl rfl ?_ | refine rd2 tabOk rfl rfl ?_ | refine rd3 tabOk rfl rfl ?_ | ((first | apply oR rfl rfl | (apply dF rfl rfl rfl; intro _) | (apply dP rfl rfl rfl; intro _) | (apply dL rfl rfl rfl; intro _) | apply dC rfl rfl rfl rfl); (focus (first | exact cJ | exact mG | exact bT | exact nD)); try exact kQ) | refine xS ?_ | refine xR ?_ | refine qxa rfl rfl mixed ?_ | refine qxb rfl rfl mixed ?_ | refine qxc rfl rfl mixed ?_ | refine qxd rfl rfl mixed ?_ | refine xB ?_ | refine xt rfl ?_ | refine xf rfl ?_))
  (first | refine POps_split rfl rfl (fun h => ?_) (fun h => ?_) | refine POpsD_split rfl rfl (fun h => ?_) (fun h => ?_) | refine PW_cond rfl (fun h => ?_) (fun h => ?_))
  · (repeat (first | ((first | refine qA ?_ | refine qB ?_ | refine xN ?_ | refine xE ?_ | refine xT ?_); try show PW _ _ _ _ _ _) | refine ro1 tabOk rfl rfl ?_ | refine ro2 tabOk rfl rfl ?_ | refine ro3 tabOk rfl rfl ?_ | refine rd1 tabOk rfl rfl ?_ | refine rd2 tabOk rfl rfl ?_ | refine rd3 tabOk rfl rfl ?_ | ((first | apply oR rfl rfl | (apply dF rfl rfl rfl; intro _) | (apply dP rfl rfl rfl; intro _) | (apply dL rfl rfl rfl; intro _) | apply dC rfl rfl rfl rfl); (focus (first | exact cJ | exact mG | exact bT | exact nD)); try exact kQ) | refine xS ?_ | refine xR ?_ | refine qxa rfl rfl mixed ?_ | refine qxb rfl rfl mixed ?_ | refine qxc rfl rfl mixed ?_ | refine qxd rfl rfl mixed ?_ | refine xB ?_ | refine xt rfl ?_ | refine xf rfl ?_))
    exact Ret_two (resVs_cons (resV_agg (AG rfl) (SZ rfl) rfl rfl (Nat.le_of_ble_eq_true rfl)) (resVs_cons resV_tmp resVs_nil)) rfl rfl rfl
  · have := of_decide_eq_false h
    rw [bys_len] at this
    omega
set_option maxRecDepth 100000 in
set_option maxHeartbeats 4000000 in
theorem parse_ref_short (l : List UInt8) (h : l.length < 4) : PC Try.prog 25 [.g (.sl (bys l))] ⟨[], [], []⟩ (.tuple [.g noTree.g, .g (.int .i64 2)]) ⟨[], [], []⟩ := by
  refine PC_of_PW Try.func25 rfl rfl (rs := _) rfl (Nat.le_of_ble_eq_true (by kernel_rfl)) ?_
  (repeat (first | ((first | refine qA ?_ | refine qB ?_ | refine xN ?_ | refine xE ?_ | refine xT ?_); try show PW _ _ _ _ _ _) | refine ro1 tabOk rfl rfl ?_ | refine ro2 tabOk rfl rfl ?_ | refine ro3 tabOk rfl rfl ?_ | refine rd1 tabOk rfl rfl ?_ | refine rd2 tabOk rfl rfl ?_ | refine rd3 tabOk rfl rfl ?_ | ((first | apply oR rfl rfl | (apply dF rfl rfl rfl; intro _) | (apply dP rfl rfl rfl; intro _) | (apply dL rfl rfl rfl; intro _) | apply dC rfl rfl rfl rfl); (focus (first | exact cJ | exact mG | exact bT | exact nD)); try exact kQ) | refine xS ?_ | refine xR ?_ | refine qxa rfl rfl mixed ?_ | refine qxb rfl rfl mixed ?_ | refine qxc rfl rfl mixed ?_ | refine qxd rfl rfl mixed ?_ | refine xB ?_ | refine xt rfl ?_ | refine xf rfl ?_))
  (first | refine POps_split rfl rfl (fun h => ?_) (fun h => ?_) | refine POpsD_split rfl rfl (fun h => ?_) (fun h => ?_) | refine PW_cond rfl (fun h => ?_) (fun h => ?_))
  · have := of_decide_eq_true h
    rw [bys_len] at this
    omega
  · (repeat (first | ((first | refine qA ?_ | refine qB ?_ | refine xN ?_ | refine xE ?_ | refine xT ?_); try show PW _ _ _ _ _ _) | refine ro1 tabOk rfl rfl ?_ | refine ro2 tabOk rfl rfl ?_ | refine ro3 tabOk rfl rfl ?_ | refine rd1 tabOk rfl rfl ?_ | refine rd2 tabOk rfl rfl ?_ | refine rd3 tabOk rfl rfl ?_ | ((first | apply oR rfl rfl | (apply dF rfl rfl rfl; intro _) | (apply dP rfl rfl rfl; intro _) | (apply dL rfl rfl rfl; intro _) | apply dC rfl rfl rfl rfl); (focus (first | exact cJ | exact mG | exact bT | exact nD)); try exact kQ) | refine xS ?_ | refine xR ?_ | refine qxa rfl rfl mixed ?_ | refine qxb rfl rfl mixed ?_ | refine qxc rfl rfl mixed ?_ | refine qxd rfl rfl mixed ?_ | refine xB ?_ | refine xt rfl ?_ | refine xf rfl ?_))
    (first | refine POps_split rfl rfl (fun h => ?_) (fun h => ?_) | refine POpsD_split rfl rfl (fun h => ?_) (fun h => ?_) | refine PW_cond rfl (fun h => ?_) (fun h => ?_))
    · (repeat (first | ((first | refine qA ?_ | refine qB ?_ | refine xN ?_ | refine xE ?_ | refine xT ?_); try show PW _ _ _ _ _ _) | refine ro1 tabOk rfl rfl ?_ | refine ro2 tabOk rfl rfl ?_ | refine ro3 tabOk rfl rfl ?_ | refine rd1 tabOk rfl rfl ?_ | refine rd2 tabOk rfl rfl ?_ | refine rd3 tabOk rfl rfl ?_ | ((first | apply oR rfl rfl | (apply dF rfl rfl rfl; intro _) | (apply dP rfl rfl rfl; intro _) | (apply dL rfl rfl rfl; intro _) | apply dC rfl rfl rfl rfl); (focus (first | exact cJ | exact mG | exact bT | exact nD)); try exact kQ) | refine xS ?_ | refine xR ?_ | refine qxa rfl rfl mixed ?_ | refine qxb rfl rfl mixed ?_ | refine qxc rfl rfl mixed ?_ | refine qxd rfl rfl mixed ?_ | refine xB ?_ | refine xt rfl ?_ | refine xf rfl ?_))
      exact Ret_two (resVs_cons (resV_agg (AG rfl) (SZ rfl) rfl rfl (Nat.le_of_ble_eq_true rfl)) (resVs_cons resV_tmp resVs_nil)) rfl rfl rfl
    · have := of_decide_eq_false h
      rw [bys_len] at this
      omega
theorem parse_ref (l : List UInt8) : PC Try.prog 25 [.g (.sl (bys l))] ⟨[], [], []⟩ (.tuple [.g (parseT l).1.g, .g (.int .i64 (parseT l).2)]) ⟨[], [], []⟩ := by
  by_cases h1 : 100000 < l.length
  · have : parseT l = (noTree, 4) := by unfold parseT; rw [if_pos h1]
    rw [this]
    exact parse_ref_long l h1
  · by_cases h2 : l.length < 4
    · have : parseT l = (noTree, 2) := by
        unfold parseT
        rw [if_neg h1]
        have : (l.drop (l.length - 4)).length ≠ 4 := by simp; omega
        split
        · rename_i hd; rw [hd] at this; simp at this
        · rfl
      rw [this]
      exact parse_ref_short l h2
    · obtain ⟨body, a, b, c, d, rfl⟩ := last_four l (by omega)
      have hl : (body ++ [a, b, c, d]).length = body.length + 4 := by simp
      rw [parseT_four _ _ _ _ _ (by omega)]
      refine parse_ref_b body [a, b, c, d] (le32 a b c d) rfl ?_ (by omega)
      constructor
      · intro hh
        obtain ⟨a', b', c', d', h4, h5⟩ := four_back (sumB body)
        rw [h4] at hh
        cases hh
        exact h5.symm
      · intro hh
        rw [hh, four_le32]

end Go.Proofs.Ytffpepmfdjjjaaa


namespace Go.Proofs.Ytffpepmfdjjjaaa
open Go.Pure
attribute [local irreducible] PW POps POpsD PO PC Cond

/-- What the reference's Whole tells: where the record ends, or -1. -/
def wholeX (file : List UInt8) (at_ : Nat) : VCmd × Int := if (nextX file at_).2.2 = true then ((nextX file at_).1, (nextX file at_).2.1) else (noCmd, -1)
theorem get4 {l : List UInt8} {at_ : Nat} (h : at_ + 4 ≤ l.length) : ∃ a b c d : UInt8, (l.drop at_).take 4 = [a, b, c, d] ∧ l[at_]? = some a ∧ l[at_ + 1]? = some b ∧ l[at_ + 2]? = some c ∧ l[at_ + 3]? = some d := by
  refine ⟨l[at_], l[at_ + 1], l[at_ + 2], l[at_ + 3], ?_, by simp, by simp, by simp, by simp⟩
  apply List.ext_getElem?
  intro i
  match i with
  | 0 => simp [List.getElem?_take, List.getElem?_drop]
  | 1 => simp [List.getElem?_take, List.getElem?_drop]
  | 2 => simp [List.getElem?_take, List.getElem?_drop]
  | 3 => simp [List.getElem?_take, List.getElem?_drop]
  | i + 4 => rw [List.getElem?_eq_none (by simp; omega)]; rfl
theorem bys_found {l : List UInt8} {i : Int} {j : Nat} {a : UInt8} (h : l[j]? = some a) (e : i = (j : Int)) : (bys l)[i.toNat]? = some (GV.int .u8 a.toNat) := by
  subst e
  simp [bys, h, byteG]

set_option maxRecDepth 100000 in
set_option maxHeartbeats 8000000 in
theorem whole_ref (file : List UInt8) (at_ : Nat) (hf : file.length ≤ 1000000) (ha : at_ ≤ file.length) :
    PC Try.prog 58 [.g (.sl (bys file)), .g (.int .i64 at_)] ⟨[], [], []⟩ (.tuple [.g (wholeX file at_).1.g, .g (.int .i64 (wholeX file at_).2)]) ⟨[], [], []⟩ := by
  have hfl : (bys file).length = file.length := bys_len file
  have hnx : nextX file at_ = nextX file at_ := rfl
  conv at hnx => rhs; unfold nextX
  unfold wholeX
  refine PC_of_PW Try.func58 rfl rfl (rs := _) rfl (Nat.le_of_ble_eq_true (by kernel_rfl)) ?_
  (repeat (first | ((first | refine qA ?_ | refine qB ?_ | refine xN ?_ | refine xE ?_ | refine xT ?_); try show PW _ _ _ _ _ _) | refine ro1 tabOk rfl rfl ?_ | refine ro2 tabOk rfl rfl ?_ | refine ro3 tabOk rfl rfl ?_ | refine rd1 tabOk rfl rfl ?_ | refine rd2 tabOk rfl rfl ?_ | refine rd3 tabOk rfl rfl ?_ | ((first | apply oR rfl rfl | (apply dF rfl rfl rfl; intro _) | (apply dP rfl rfl rfl; intro _) | (apply dL rfl rfl rfl; intro _) | apply dC rfl rfl rfl rfl); (focus (first | exact cJ | exact mG | exact bT | exact nD)); try exact kQ) | refine xS ?_ | refine xR ?_ | refine qxa rfl rfl mixed ?_ | refine qxb rfl rfl mixed ?_ | refine qxc rfl rfl mixed ?_ | refine qxd rfl rfl mixed ?_ | refine xB ?_ | refine xt rfl ?_ | refine xf rfl ?_))
  (first | refine POps_split rfl rfl (fun h => ?_) (fun h => ?_) | refine POpsD_split rfl rfl (fun h => ?_) (fun h => ?_) | refine PW_cond rfl (fun h => ?_) (fun h => ?_))
  · have h4 : file.length < at_ + 4 := by have := of_decide_eq_true h; rw [hfl, wrap64 (by omega)] at this; omega
    rw [if_pos h4] at hnx
    rw [hnx]
    (repeat (first | ((first | refine qA ?_ | refine qB ?_ | refine xN ?_ | refine xE ?_ | refine xT ?_); try show PW _ _ _ _ _ _) | refine ro1 tabOk rfl rfl ?_ | refine ro2 tabOk rfl rfl ?_ | refine ro3 tabOk rfl rfl ?_ | refine rd1 tabOk rfl rfl ?_ | refine rd2 tabOk rfl rfl ?_ | refine rd3 tabOk rfl rfl ?_ | ((first | apply oR rfl rfl | (apply dF rfl rfl rfl; intro _) | (apply dP rfl rfl rfl; intro _) | (apply dL rfl rfl rfl; intro _) | apply dC rfl rfl rfl rfl); (focus (first | exact cJ | exact mG | exact bT | exact nD)); try exact kQ) | refine xS ?_ | refine xR ?_ | refine qxa rfl rfl mixed ?_ | refine qxb rfl rfl mixed ?_ | refine qxc rfl rfl mixed ?_ | refine qxd rfl rfl mixed ?_ | refine xB ?_ | refine xt rfl ?_ | refine xf rfl ?_))
    exact Ret_two (vC (vA (AG rfl) (SZ rfl) rfl rfl (lB rfl)) (vC vT vN)) rfl rfl rfl
  · have h4 : at_ + 4 ≤ file.length := by have := of_decide_eq_false h; rw [hfl, wrap64 (by omega)] at this; omega
    clear h
    rw [if_neg (by omega)] at hnx
    have hw (k : Nat) (hk : k ≤ 4) : IntKind.i64.wrap ((at_ : Int) + k) = ((at_ + k : Nat) : Int) := by rw [wrap64 (by omega)]; omega
    obtain ⟨b0, b1, b2, b3, hhd, q0, q1, q2, q3⟩ := get4 h4
    have g0 := bys_found (i := (at_ : Int)) q0 rfl
    have g1 := bys_found q1 (hw 1 (by decide))
    have g2 := bys_found q2 (hw 2 (by decide))
    have g3 := bys_found q3 (hw 3 (by decide))
    rw [hhd] at hnx
    have z0 : (0 : Int) ≤ (at_ : Int) := Int.natCast_nonneg _
    have z1 : 0 ≤ IntKind.i64.wrap ((at_ : Int) + (1 : Nat)) := by rw [hw 1 (by decide)]; exact Int.natCast_nonneg _
    have z2 : 0 ≤ IntKind.i64.wrap ((at_ : Int) + (2 : Nat)) := by rw [hw 2 (by decide)]; exact Int.natCast_nonneg _
    have z3 : 0 ≤ IntKind.i64.wrap ((at_ : Int) + (3 : Nat)) := by rw [hw 3 (by decide)]; exact Int.natCast_nonneg _
    (repeat (first | ((first | refine qA ?_ | refine qB ?_ | refine xN ?_ | refine xE ?_ | refine xT ?_); try show PW _ _ _ _ _ _) | refine ro1 tabOk rfl rfl ?_ | refine ro2 tabOk rfl rfl ?_ | refine ro3 tabOk rfl rfl ?_ | refine rd1 tabOk rfl rfl ?_ | refine rd2 tabOk rfl rfl ?_ | refine rd3 tabOk rfl rfl ?_ | ((first | apply oR rfl rfl | (apply dF rfl rfl rfl; intro _) | (apply dP rfl rfl rfl; intro _) | (apply dL rfl rfl rfl; intro _) | apply dC rfl rfl rfl rfl); (focus (first | exact iA rfl (EL rfl) (SZ rfl) rfl rfl z0 g0 rfl | exact iA rfl (EL rfl) (SZ rfl) rfl rfl z1 g1 rfl | exact iA rfl (EL rfl) (SZ rfl) rfl rfl z2 g2 rfl | exact iA rfl (EL rfl) (SZ rfl) rfl rfl z3 g3 rfl | exact cJ | exact mG | exact bT | exact nD)); try exact kQ) | refine xS ?_ | refine xR ?_ | refine qxa rfl rfl mixed ?_ | refine qxb rfl rfl mixed ?_ | refine qxc rfl rfl mixed ?_ | refine qxd rfl rfl mixed ?_ | refine xB ?_ | refine xt rfl ?_ | refine xf rfl ?_))
    have hbl := beN_lt [b0, b1, b2, b3]
    have hN : IntKind.i64.wrap (IntKind.i64.wrap (IntKind.i64.wrap (IntKind.i64.wrap (IntKind.i64.wrap (b0.toNat : Int) * 16777216) + IntKind.i64.wrap (IntKind.i64.wrap (b1.toNat : Int) * 65536)) + IntKind.i64.wrap (IntKind.i64.wrap (b2.toNat : Int) * 256)) + IntKind.i64.wrap (b3.toNat : Int)) = ((beN [b0, b1, b2, b3] : Nat) : Int) := by
      have ha := b0.toNat_lt; have hb := b1.toNat_lt; have hc := b2.toNat_lt; have hd := b3.toNat_lt
      rw [wrap64 (n := (b0.toNat : Int)) (by omega), wrap64 (n := (b1.toNat : Int)) (by omega), wrap64 (n := (b2.toNat : Int)) (by omega), wrap64 (n := (b3.toNat : Int)) (by omega)]
      rw [wrap64 (n := (b0.toNat : Int) * 16777216) (by omega), wrap64 (n := (b1.toNat : Int) * 65536) (by omega), wrap64 (n := (b2.toNat : Int) * 256) (by omega)]
      rw [wrap64 (n := (b0.toNat : Int) * 16777216 + (b1.toNat : Int) * 65536) (by omega), wrap64 (n := (b0.toNat : Int) * 16777216 + (b1.toNat : Int) * 65536 + (b2.toNat : Int) * 256) (by omega), wrap64 (by omega)]
      simp only [beN, List.foldl_cons, List.foldl_nil]
      omega
    rw [hN]
    clear hN g0 g1 g2 g3 z0 z1 z2 z3 q0 q1 q2 q3
    have hw := hw 4 (by decide)
    simp only [List.length_cons, List.length_nil] at hbl
    dsimp only at hnx
    generalize beN [b0, b1, b2, b3] = n at hbl hnx
    (first | refine POps_split rfl rfl (fun h => ?_) (fun h => ?_) | refine POpsD_split rfl rfl (fun h => ?_) (fun h => ?_) | refine PW_cond rfl (fun h => ?_) (fun h => ?_))
    · have h5 : file.length < at_ + 4 + n := by have := of_decide_eq_true h; rw [hfl, wrap64 (n := (file.length : Int) - at_) (by omega), wrap64 (by omega)] at this; omega
      rw [if_pos h5] at hnx
      rw [hnx]
      (repeat (first | ((first | refine qA ?_ | refine qB ?_ | refine xN ?_ | refine xE ?_ | refine xT ?_); try show PW _ _ _ _ _ _) | refine ro1 tabOk rfl rfl ?_ | refine ro2 tabOk rfl rfl ?_ | refine ro3 tabOk rfl rfl ?_ | refine rd1 tabOk rfl rfl ?_ | refine rd2 tabOk rfl rfl ?_ | refine rd3 tabOk rfl rfl ?_ | ((first | apply oR rfl rfl | (apply dF rfl rfl rfl; intro _) | (apply dP rfl rfl rfl; intro _) | (apply dL rfl rfl rfl; intro _) | apply dC rfl rfl rfl rfl); (focus (first | exact cJ | exact mG | exact bT | exact nD)); try exact kQ) | refine xS ?_ | refine xR ?_ | refine qxa rfl rfl mixed ?_ | refine qxb rfl rfl mixed ?_ | refine qxc rfl rfl mixed ?_ | refine qxd rfl rfl mixed ?_ | refine xB ?_ | refine xt rfl ?_ | refine xf rfl ?_))
      exact Ret_two (vC (vA (AG rfl) (SZ rfl) rfl rfl (lB rfl)) (vC vT vN)) rfl rfl rfl
    · have h5 : at_ + 4 + n ≤ file.length := by have := of_decide_eq_false h; rw [hfl, wrap64 (n := (file.length : Int) - at_) (by omega), wrap64 (by omega)] at this; omega
      clear h
      rw [if_neg (by omega)] at hnx
      have hw2 : IntKind.i64.wrap (IntKind.i64.wrap ((at_ : Int) + 4) + (n : Int)) = ((at_ + 4 + n : Nat) : Int) := by rw [show ((4 : Int)) = ((4 : Nat) : Int) from rfl, hw, wrap64 (by omega)]; omega
      generalize hpt : (file.drop (at_ + 4)).take n = pt at hnx
      have hP := parse_ref pt
      have hU : (parseT pt).2 = 0 → PC Try.prog 86 [.g (parseT pt).1.g] ⟨[], [], []⟩ (.tuple [.g (lenCmd (parseT pt).1).g, .g (.bool (sameT (packCmd (lenCmd (parseT pt).1)) (parseT pt).1))]) ⟨[], [], []⟩ := fun h0 => by
        have h6 := (parse_bytes (u := (parseT pt).1) (Prod.ext rfl h0)).1
        have h7 := (bytes_enc h6).1
        have h8 := bulk_enc (parseT pt).1
        have h9 := lenCmd_bulk (parseT pt).1
        have h10 := (cmd_bulks (lenCmd (parseT pt).1)).2
        refine command_pc _ (by omega) (ok_of_bulk _ _ (Nat.le_refl _) (by simp only [maxLen]; omega)) (ok_of_bulk _ _ (Nat.le_refl _) (by simp only [maxLen]; omega))
      have hI : (parseT pt).2 = 0 → (sameT (packCmd (lenCmd (parseT pt).1)) (parseT pt).1 = decide ((unCmd (parseT pt).1).2 = 0)) ∧ (sameT (packCmd (lenCmd (parseT pt).1)) (parseT pt).1 = true → (unCmd (parseT pt).1).1 = lenCmd (parseT pt).1) := fun _ => by
        constructor
        · rw [Bool.eq_iff_iff, sameT_iff, decide_eq_true_iff]; exact (len_iff _).symm
        · intro h; rw [len_un _ ((sameT_iff _ _).1 h)]
      generalize parseT pt = pr at hP hU hnx hI
      obtain ⟨t, e⟩ := pr
      dsimp only at hP hU hnx hI
      have hsl : List.take (at_ + 4 + n - (at_ + 4)) (List.drop (at_ + 4) file) = pt := by rw [← hpt]; congr 1; omega
      by_cases he : e = 0
      · subst he
        have hU := hU rfl
        obtain ⟨hi1, hi2⟩ := hI rfl
        rw [if_pos rfl, ← hi1] at hnx
        generalize sameT (packCmd (lenCmd t)) t = ok at hU hi2 hnx
        generalize lenCmd t = lc at hU hi2
        generalize unCmd t = uc at hi2 hnx
        obtain ⟨t0, t1, t2, t3⟩ := t
        obtain ⟨c0, c1, c2, ⟨d0, d1, d2, d3, d4⟩, c4, c5⟩ := lc
        cases ok with
        | true =>
          rw [hi2 rfl] at hnx
          rw [hnx, if_pos rfl]
          (repeat (first | ((first | refine qA ?_ | refine qB ?_ | refine xN ?_ | refine xE ?_ | refine xT ?_); try show PW _ _ _ _ _ _) | refine ro1 tabOk rfl rfl ?_ | refine ro2 tabOk rfl rfl ?_ | refine ro3 tabOk rfl rfl ?_ | refine rd1 tabOk rfl rfl ?_ | refine rd2 tabOk rfl rfl ?_ | refine rd3 tabOk rfl rfl ?_ | ((first | apply oR rfl rfl | (apply dF rfl rfl rfl; intro _) | (apply dP rfl rfl rfl; intro _) | (apply dL rfl rfl rfl; intro _) | apply dC rfl rfl rfl rfl); (focus (first | exact cqP hP | exact cqP hU | exact PO_slice_bys pt (at_ + 4) (at_ + 4 + n) rfl (EL rfl) (SZ rfl) rfl rfl rfl hw hw2 (by omega) h5 hsl | exact cJ | exact mG | exact bT | exact nD)); try exact kQ) | refine xS ?_ | refine xR ?_ | refine qxa rfl rfl mixed ?_ | refine qxb rfl rfl mixed ?_ | refine qxc rfl rfl mixed ?_ | refine qxd rfl rfl mixed ?_ | refine xB ?_ | refine xt rfl ?_ | refine xf rfl ?_))
          exact Ret_two (vC (vA (AG rfl) (SZ rfl) rfl rfl (lB rfl)) (vC vT vN)) rfl rfl (congrArg (GV.int .i64) hw2)
        | false =>
          rw [hnx, if_neg (by simp)]
          (repeat (first | ((first | refine qA ?_ | refine qB ?_ | refine xN ?_ | refine xE ?_ | refine xT ?_); try show PW _ _ _ _ _ _) | refine ro1 tabOk rfl rfl ?_ | refine ro2 tabOk rfl rfl ?_ | refine ro3 tabOk rfl rfl ?_ | refine rd1 tabOk rfl rfl ?_ | refine rd2 tabOk rfl rfl ?_ | refine rd3 tabOk rfl rfl ?_ | ((first | apply oR rfl rfl | (apply dF rfl rfl rfl; intro _) | (apply dP rfl rfl rfl; intro _) | (apply dL rfl rfl rfl; intro _) | apply dC rfl rfl rfl rfl); (focus (first | exact cqP hP | exact cqP hU | exact PO_slice_bys pt (at_ + 4) (at_ + 4 + n) rfl (EL rfl) (SZ rfl) rfl rfl rfl hw hw2 (by omega) h5 hsl | exact cJ | exact mG | exact bT | exact nD)); try exact kQ) | refine xS ?_ | refine xR ?_ | refine qxa rfl rfl mixed ?_ | refine qxb rfl rfl mixed ?_ | refine qxc rfl rfl mixed ?_ | refine qxd rfl rfl mixed ?_ | refine xB ?_ | refine xt rfl ?_ | refine xf rfl ?_))
          exact Ret_two (vC (vA (AG rfl) (SZ rfl) rfl rfl (lB rfl)) (vC vT vN)) rfl rfl rfl
      · rw [if_neg he] at hnx
        rw [hnx, if_neg (by simp)]
        obtain ⟨t0, t1, t2, t3⟩ := t
        (repeat (first | ((first | refine qA ?_ | refine qB ?_ | refine xN ?_ | refine xE ?_ | refine xT ?_); try show PW _ _ _ _ _ _) | refine ro1 tabOk rfl rfl ?_ | refine ro2 tabOk rfl rfl ?_ | refine ro3 tabOk rfl rfl ?_ | refine rd1 tabOk rfl rfl ?_ | refine rd2 tabOk rfl rfl ?_ | refine rd3 tabOk rfl rfl ?_ | ((first | apply oR rfl rfl | (apply dF rfl rfl rfl; intro _) | (apply dP rfl rfl rfl; intro _) | (apply dL rfl rfl rfl; intro _) | apply dC rfl rfl rfl rfl); (focus (first | exact cqP hP | exact PO_slice_bys pt (at_ + 4) (at_ + 4 + n) rfl (EL rfl) (SZ rfl) rfl rfl rfl hw hw2 (by omega) h5 hsl | exact cJ | exact mG | exact bT | exact nD)); try exact kQ) | refine xS ?_ | refine xR ?_ | refine qxa rfl rfl mixed ?_ | refine qxb rfl rfl mixed ?_ | refine qxc rfl rfl mixed ?_ | refine qxd rfl rfl mixed ?_ | refine xB ?_ | refine xt rfl ?_ | refine xf rfl ?_))
        (first | refine POps_split rfl rfl (fun h => ?_) (fun h => ?_) | refine POpsD_split rfl rfl (fun h => ?_) (fun h => ?_) | refine PW_cond rfl (fun h => ?_) (fun h => ?_))
        · (repeat (first | ((first | refine qA ?_ | refine qB ?_ | refine xN ?_ | refine xE ?_ | refine xT ?_); try show PW _ _ _ _ _ _) | refine ro1 tabOk rfl rfl ?_ | refine ro2 tabOk rfl rfl ?_ | refine ro3 tabOk rfl rfl ?_ | refine rd1 tabOk rfl rfl ?_ | refine rd2 tabOk rfl rfl ?_ | refine rd3 tabOk rfl rfl ?_ | ((first | apply oR rfl rfl | (apply dF rfl rfl rfl; intro _) | (apply dP rfl rfl rfl; intro _) | (apply dL rfl rfl rfl; intro _) | apply dC rfl rfl rfl rfl); (focus (first | exact cJ | exact mG | exact bT | exact nD)); try exact kQ) | refine xS ?_ | refine xR ?_ | refine qxa rfl rfl mixed ?_ | refine qxb rfl rfl mixed ?_ | refine qxc rfl rfl mixed ?_ | refine qxd rfl rfl mixed ?_ | refine xB ?_ | refine xt rfl ?_ | refine xf rfl ?_))
          exact Ret_two (vC (vA (AG rfl) (SZ rfl) rfl rfl (lB rfl)) (vC vT vN)) rfl rfl rfl
        · exact absurd (by simpa [bne] using h) he
end Go.Proofs.Ytffpepmfdjjjaaa


namespace Go.Proofs.Ytffpepmfdjjjaaa
open Go.Pure
attribute [local irreducible] PW POps POpsD PO PC Cond

/-- The reference's record of a command. -/
def recordR (c : VCmd) : List UInt8 × Int := if (body c).2 = 0 then (recB c, 0) else ([], (body c).2)

theorem quo4 (n : Nat) (h : n < 1000000000) : [GV.int .u8 (IntKind.u8.wrap (IntKind.i64.wrap ((n : Int).tdiv 16777216))), .int .u8 (IntKind.u8.wrap ((IntKind.i64.wrap ((n : Int).tdiv 65536)).tmod 256)), .int .u8 (IntKind.u8.wrap ((IntKind.i64.wrap ((n : Int).tdiv 256)).tmod 256)), .int .u8 (IntKind.u8.wrap ((n : Int).tmod 256))] = bys (be4 n) := by
  have r (m : Nat) : (m : Int).tmod 256 = ((m % 256 : Nat) : Int) := rfl
  have q1 : (n : Int).tdiv 16777216 = ((n / 16777216 : Nat) : Int) := rfl
  have q2 : (n : Int).tdiv 65536 = ((n / 65536 : Nat) : Int) := rfl
  have q3 : (n : Int).tdiv 256 = ((n / 256 : Nat) : Int) := rfl
  rw [q1, q2, q3, wrap64 (n := ((n / 16777216 : Nat) : Int)) (by omega), wrap64 (n := ((n / 65536 : Nat) : Int)) (by omega), wrap64 (n := ((n / 256 : Nat) : Int)) (by omega), r, r, r, u8nat, u8nat, u8nat, u8nat, Nat.mod_mod, Nat.mod_mod, Nat.mod_mod]
  rfl

set_option maxRecDepth 100000 in
set_option maxHeartbeats 8000000 in
theorem record_ref (c : VCmd) (hc : gbulk c.g ≤ 1048576) (hw : gwf c.g) :
    PC Try.prog 28 [.g c.g] ⟨[], [], []⟩ (.tuple [.g (.sl (bys (recordR c).1)), .g (.int .i64 (recordR c).2)]) ⟨[], [], []⟩ := by
  have hb := cmd_bulks c
  have hE := enc_bulk (packCmd c)
  have hok := ok_of_bulk _ (packCmd c) (Nat.le_refl _) (by simp only [maxLen]; omega)
  have hfit := fit_cmd c hw
  have h1 := refpack_pc c (by omega)
  have h2 : PC Try.prog 22 [.g (packCmd c).g] ⟨[], [], []⟩ (.tuple [.g (.sl (bys (body c).1)), .g (.int .i64 (body c).2)]) ⟨[], [], []⟩ := by
    unfold body
    generalize packCmd c = p at hb hE hok hfit
    obtain ⟨p0, p1, p2, p3⟩ := p
    exact bytes_ref p0 p1 p2 p3 hok hfit.2 (by omega)
  have hl := body_len c
  unfold recordR recB
  generalize body c = r at h2 hl
  obtain ⟨b, e⟩ := r
  generalize packCmd c = p at h1 h2
  obtain ⟨p0, p1, p2, p3⟩ := p
  obtain ⟨session, seq, kind, ⟨tname, policy, ins, outs, rules⟩, name, to⟩ := c
  dsimp only at h2 hl ⊢
  have hbl : (bys b).length = b.length := bys_len b
  have hxs : ∀ x ∈ bys b, x.cells.length = 1 := by intro x hx; obtain ⟨v, _, rfl⟩ := List.mem_map.1 hx; rfl
  have hes : ∀ x ∈ [GV.int .u8 (IntKind.u8.wrap (IntKind.i64.wrap (((bys b).length : Int).tdiv 16777216))), .int .u8 (IntKind.u8.wrap ((IntKind.i64.wrap (((bys b).length : Int).tdiv 65536)).tmod 256)), .int .u8 (IntKind.u8.wrap ((IntKind.i64.wrap (((bys b).length : Int).tdiv 256)).tmod 256)), .int .u8 (IntKind.u8.wrap (((bys b).length : Int).tmod 256))], x.cells.length = 1 := by
    intro x hx
    simp only [List.mem_cons, List.not_mem_nil, or_false] at hx
    rcases hx with rfl | rfl | rfl | rfl <;> rfl
  clear hc hb hE hok hfit hw
  refine PC_of_PW Try.func28 rfl rfl (rs := _) rfl (Nat.le_of_ble_eq_true (by kernel_rfl)) ?_
  (repeat' (first | (first | ((first | refine qA ?_ | refine qB ?_ | refine xN ?_ | refine xE ?_ | refine xT ?_); try show PW _ _ _ _ _ _) | refine ro1 tabOk rfl rfl ?_ | refine ro2 tabOk rfl rfl ?_ | refine ro3 tabOk rfl rfl ?_ | refine rd1 tabOk rfl rfl ?_ | refine rd2 tabOk rfl rfl ?_ | refine rd3 tabOk rfl rfl ?_ | ((first | apply oR rfl rfl | (apply dF rfl rfl rfl; intro _) | (apply dP rfl rfl rfl; intro _) | (apply dL rfl rfl rfl; intro _) | apply dC rfl rfl rfl rfl); (focus (first | exact cqP h1 | exact cqP h2 | exact PO_quo rfl rfl rfl (by decide) | exact PO_rem rfl rfl rfl (by decide) | exact PO_buildSlice_lit rfl (EL rfl) (SZ rfl) (AG rfl) (ZR rfl) rfl rfl rfl rfl rfl rfl rfl | exact PO_append_litg (es := [.int .u8 (IntKind.u8.wrap (IntKind.i64.wrap (((bys b).length : Int).tdiv 16777216))), .int .u8 (IntKind.u8.wrap ((IntKind.i64.wrap (((bys b).length : Int).tdiv 65536)).tmod 256)), .int .u8 (IntKind.u8.wrap ((IntKind.i64.wrap (((bys b).length : Int).tdiv 256)).tmod 256)), .int .u8 (IntKind.u8.wrap (((bys b).length : Int).tmod 256))]) rfl (EL rfl) (SZ rfl) (BY rfl) (ZR rfl) rfl rfl rfl rfl hes hxs (by rw [hbl]; simp; omega) (by rw [hbl]; simp [maxLen]; omega) | exact cJ | exact mG | exact bT | exact nD)); try exact kQ) | refine xS ?_ | refine xR ?_ | refine qxa rfl rfl mixed ?_ | refine qxb rfl rfl mixed ?_ | refine qxc rfl rfl mixed ?_ | refine qxd rfl rfl mixed ?_ | refine xB ?_ | refine xt rfl ?_ | refine xf rfl ?_) | (refine POps_split rfl rfl (fun h => ?_) (fun h => ?_) <;> fail_if_success (first | (have : true = true := h) | (have : false = false := h))) | (refine POpsD_split rfl rfl (fun h => ?_) (fun h => ?_) <;> fail_if_success (first | (have : true = true := h) | (have : false = false := h))) | refine PW_cond rfl (fun h => ?_) (fun h => ?_)))
  · have he : ¬ e = 0 := by simpa [bne] using h
    rw [if_neg he]
    exact Ret_two (resVs_cons resV_tmp (resVs_cons resV_tmp resVs_nil)) rfl rfl rfl
  · have he : e = 0 := by simpa [bne] using h
    rw [if_pos he]
    refine Ret_two (vC vT (vC vT vN)) rfl ?_ rfl
    show GV.sl (_ ++ bys b) = _
    rw [quo4 (bys b).length (by omega), hbl, bys_append]
end Go.Proofs.Ytffpepmfdjjjaaa


namespace Go.Proofs.Ytffpepmfdjjjaaa
open Go.Pure
attribute [local irreducible] PW POps POpsD PO PC Cond

set_option maxRecDepth 100000 in
set_option maxHeartbeats 8000000 in
theorem recover_ref (file : List UInt8) : PC Try.prog 30 [.g (.sl (bys file))] ⟨[], [], []⟩ (.tuple [.g (.sl (VCmd.gs (recoverJ file).1)), .g (.int .i64 (recoverJ file).2.1), .g (.int .i64 (recoverJ file).2.2)]) ⟨[], [], []⟩ := by
  have hfl : (bys file).length = file.length := bys_len file
  unfold recoverJ
  refine PC_of_PW Try.func30 rfl rfl (rs := _) rfl (Nat.le_of_ble_eq_true (by kernel_rfl)) ?_
  (repeat (first | ((first | refine qA ?_ | refine qB ?_ | refine xN ?_ | refine xE ?_ | refine xT ?_); try show PW _ _ _ _ _ _) | refine ro1 tabOk rfl rfl ?_ | refine ro2 tabOk rfl rfl ?_ | refine ro3 tabOk rfl rfl ?_ | refine rd1 tabOk rfl rfl ?_ | refine rd2 tabOk rfl rfl ?_ | refine rd3 tabOk rfl rfl ?_ | ((first | apply oR rfl rfl | (apply dF rfl rfl rfl; intro _) | (apply dP rfl rfl rfl; intro _) | (apply dL rfl rfl rfl; intro _) | apply dC rfl rfl rfl rfl); (focus (first | exact cJ | exact mG | exact bT | exact nD)); try exact kQ) | refine xS ?_ | refine xR ?_ | refine qxa rfl rfl mixed ?_ | refine qxb rfl rfl mixed ?_ | refine qxc rfl rfl mixed ?_ | refine qxd rfl rfl mixed ?_ | refine xB ?_ | refine xt rfl ?_ | refine xf rfl ?_))
  (first | refine POps_split rfl rfl (fun h => ?_) (fun h => ?_) | refine POpsD_split rfl rfl (fun h => ?_) (fun h => ?_) | refine PW_cond rfl (fun h => ?_) (fun h => ?_))
  · have h1 : 1000000 < file.length := by have := of_decide_eq_true h; rw [hfl] at this; omega
    rw [if_pos h1]
    (repeat (first | ((first | refine qA ?_ | refine qB ?_ | refine xN ?_ | refine xE ?_ | refine xT ?_); try show PW _ _ _ _ _ _) | refine ro1 tabOk rfl rfl ?_ | refine ro2 tabOk rfl rfl ?_ | refine ro3 tabOk rfl rfl ?_ | refine rd1 tabOk rfl rfl ?_ | refine rd2 tabOk rfl rfl ?_ | refine rd3 tabOk rfl rfl ?_ | ((first | apply oR rfl rfl | (apply dF rfl rfl rfl; intro _) | (apply dP rfl rfl rfl; intro _) | (apply dL rfl rfl rfl; intro _) | apply dC rfl rfl rfl rfl); (focus (first | exact cJ | exact mG | exact bT | exact nD)); try exact kQ) | refine xS ?_ | refine xR ?_ | refine qxa rfl rfl mixed ?_ | refine qxb rfl rfl mixed ?_ | refine qxc rfl rfl mixed ?_ | refine qxd rfl rfl mixed ?_ | refine xB ?_ | refine xt rfl ?_ | refine xf rfl ?_))
    exact Ret_three (vC vT (vC vT (vC vT vN))) rfl rfl rfl rfl
  · have h1 : ¬ 1000000 < file.length := by have := of_decide_eq_false h; rw [hfl] at this; omega
    clear h
    rw [if_neg h1]
    generalize hR : recX (file.length + 1) file 0 = R
    dsimp only
    (repeat (first | ((first | refine qA ?_ | refine qB ?_ | refine xN ?_ | refine xE ?_ | refine xT ?_); try show PW _ _ _ _ _ _) | refine ro1 tabOk rfl rfl ?_ | refine ro2 tabOk rfl rfl ?_ | refine ro3 tabOk rfl rfl ?_ | refine rd1 tabOk rfl rfl ?_ | refine rd2 tabOk rfl rfl ?_ | refine rd3 tabOk rfl rfl ?_ | ((first | apply oR rfl rfl | (apply dF rfl rfl rfl; intro _) | (apply dP rfl rfl rfl; intro _) | (apply dL rfl rfl rfl; intro _) | apply dC rfl rfl rfl rfl); (focus (first | exact cJ | exact mG | exact bT | exact nD)); try exact kQ) | refine xS ?_ | refine xR ?_ | refine qxa rfl rfl mixed ?_ | refine qxb rfl rfl mixed ?_ | refine qxc rfl rfl mixed ?_ | refine qxd rfl rfl mixed ?_ | refine xB ?_ | refine xt rfl ?_ | refine xf rfl ?_))
    refine PW_buf 5 27 (SZ rfl) rfl ?_
    refine PW_loop_cut (S := Nat × Nat × List VCmd) (fun s => [(0, .g (.sl (bys file))), (5, .own (VCmd.gs s.2.2) 0), (6, .g (.int .i64 s.2.1))])
      (fun s => ⟨[], [(27, s.2.2.length)], []⟩) (fun s => s.2.1 ≤ file.length ∧ file.length - s.2.1 < s.1 ∧ s.2.2.length ≤ s.2.1 ∧ (s.2.2 ++ (recX s.1 file s.2.1).1, (recX s.1 file s.2.1).2) = R) (fun s => file.length - s.2.1) (file.length + 1, 0, []) ⟨Nat.zero_le _, by dsimp only; omega, by simp, by rw [← hR]; simp⟩
      (SlotsOk.le ⟨.inl rfl, .inl rfl, .inl rfl, trivial⟩) (HLe.of_eq rfl) (fun _ => rfl) (fun s hs => ?_)
    obtain ⟨k, at_, acc⟩ := s
    obtain ⟨ha, hk, hacc, hgo⟩ := hs
    dsimp only at ha hk hacc hgo
    cases k with
    | zero => omega
    | succ k =>
      have hN := whole_ref file at_ (by omega) ha
      unfold wholeX at hN
      have hE := next_end (file := file) (at_ := at_)
      rw [recX] at hgo
      generalize nextX file at_ = nx at hN hE hgo
      obtain ⟨c, e, ok⟩ := nx
      obtain ⟨session, seq, kind, ⟨tname, policy, ins, outs, rules⟩, name, to⟩ := c
      dsimp only at hN hE hgo
      cases ok with
      | false =>
        rw [if_neg (by decide)] at hgo
        rw [if_neg (by decide)] at hN
        (repeat (first | ((first | refine qA ?_ | refine qB ?_ | refine xN ?_ | refine xE ?_ | refine xT ?_); try show PW _ _ _ _ _ _) | refine ro1 tabOk rfl rfl ?_ | refine ro2 tabOk rfl rfl ?_ | refine ro3 tabOk rfl rfl ?_ | refine rd1 tabOk rfl rfl ?_ | refine rd2 tabOk rfl rfl ?_ | refine rd3 tabOk rfl rfl ?_ | ((first | apply oR rfl rfl | (apply dF rfl rfl rfl; intro _) | (apply dP rfl rfl rfl; intro _) | (apply dL rfl rfl rfl; intro _) | apply dC rfl rfl rfl rfl); (focus (first | exact cqP hN | exact cJ | exact mG | exact bT | exact nD)); try exact kQ) | refine xS ?_ | refine xR ?_ | refine qxa rfl rfl mixed ?_ | refine qxb rfl rfl mixed ?_ | refine qxc rfl rfl mixed ?_ | refine qxd rfl rfl mixed ?_ | refine xB ?_ | refine xt rfl ?_ | refine xf rfl ?_))
        refine Ret_three (vC vT (vC vT (vC vT vN))) rfl ?_ ?_ rfl
        · rw [← hgo]; simp
        · rw [← hgo]
      | true =>
        obtain ⟨e', rfl, he1, he2⟩ := hE rfl
        rw [if_pos rfl] at hgo
        rw [if_pos rfl] at hN
        have hlt0 : ¬ ((e' : Nat) : Int) < 0 := by omega
        have hxs : ∀ x ∈ [(VCmd.mk session seq kind ⟨tname, policy, ins, outs, rules⟩ name to).g], x.cells.length = 10 := by
          intro x hx; rw [List.mem_singleton.1 hx]; exact VCmd.cells _
        (repeat (first | ((first | refine qA ?_ | refine qB ?_ | refine xN ?_ | refine xE ?_ | refine xT ?_); try show PW _ _ _ _ _ _) | refine ro1 tabOk rfl rfl ?_ | refine ro2 tabOk rfl rfl ?_ | refine ro3 tabOk rfl rfl ?_ | refine rd1 tabOk rfl rfl ?_ | refine rd2 tabOk rfl rfl ?_ | refine rd3 tabOk rfl rfl ?_ | ((first | apply oR rfl rfl | (apply dF rfl rfl rfl; intro _) | (apply dP rfl rfl rfl; intro _) | (apply dL rfl rfl rfl; intro _) | apply dC rfl rfl rfl rfl); (focus (first | exact cqP hN | exact aP (xs := [(VCmd.mk session seq kind ⟨tname, policy, ins, outs, rules⟩ name to).g]) rfl (EL rfl) (SZ rfl) (BY rfl) (ZR rfl) rfl rfl rfl rfl (by simp [VCmd.gs]) hxs (by simp; omega) (by simp [maxLen]; omega) | exact cJ | exact mG | exact bT | exact nD)); try exact kQ) | refine xS ?_ | refine xR ?_ | refine qxa rfl rfl mixed ?_ | refine qxb rfl rfl mixed ?_ | refine qxc rfl rfl mixed ?_ | refine qxd rfl rfl mixed ?_ | refine xB ?_ | refine xt rfl ?_ | refine xf rfl ?_))
        refine ⟨(k, e', acc ++ [.mk session seq kind ⟨tname, policy, ins, outs, rules⟩ name to]), ⟨he2, by dsimp only; omega, by simp; omega, ?_⟩, by dsimp only; omega, SlotsOk.le ⟨.inl rfl, .inl ?_, .inl rfl, trivial⟩, Drops.mk [(VCmd.mk session seq kind ⟨tname, policy, ins, outs, rules⟩ name to).g.cells.map PV.g] [] [] ?_⟩
        · rw [← hgo]
          simp
        · simp only [VCmd.gs, List.map_append]; rfl
        · simp only [List.length_append]; rfl
end Go.Proofs.Ytffpepmfdjjjaaa


namespace Go.Proofs.Ytffpepmfdjjjaaa
open Go.Pure

theorem goes_plain {file : List UInt8} {l : List VCmd} {n : Nat} {e : Int} (h : recoverJ file = (l, n, e)) (he : e = 0) : (∀ c ∈ l, sound c) ∧ file.take n = allB l ∧ n = (allB l).length ∧ n ≤ file.length ∧ gbulks (l.map VCmd.g) ≤ 1000000 ∧ file.length ≤ 1000000 := by
  unfold recoverJ at h
  split at h
  · simp only [Prod.mk.injEq] at h
    rw [he] at h
    exact absurd h.2.2 (by decide)
  · rename_i hl
    simp only [Prod.mk.injEq] at h
    obtain ⟨a1, a2, a3, a4, a5⟩ := recX_back (file.length + 1) file 0 l n (Nat.zero_le _) (Prod.ext h.1 h.2.1)
    simp only [List.take_zero, List.nil_append, Nat.zero_add] at a2 a3
    exact ⟨a1, a2, a3, a4, by omega, by omega⟩
/-! ### One byte changed -/
end Go.Proofs.Ytffpepmfdjjjaaa


namespace Go.Proofs.Ytffpepmfdjjjaaa
open Go.Pure
attribute [local irreducible] PW POps POpsD PO PC Cond

end Go.Proofs.Ytffpepmfdjjjaaa


namespace Go.Proofs.Ytffpepmfdjjjaaa
open Go.Pure
attribute [local irreducible] PW POps POpsD PO PC Cond

end Go.Proofs.Ytffpepmfdjjjaaa

