/- What the program's functions compute, each shown once; and plain laws of it. -/
import Derived.Test.YtdicineiaifahaaGreatDoorOwnV
import Derived.Test.YtdicineiaifahaaGreatDoorPureW
import Derived.Test.YtdicineiaifahaaGreatDoorPureU
import Derived.Test.YtdicineiaifahaaGreatDoorOwnT
import Derived.Test.YtdicineiaifahaaGreatDoorOwnF
namespace Go.Proofs.YtdicineiaifahaaGreatDoor
open Go Go.Pure
attribute [local irreducible] PW POps POpsD PO PC Cond

theorem truthV_rng (v : VVal) : truthV v = 0 ∨ truthV v = 1 ∨ truthV v = -1 := by
  obtain ⟨k, y, c, e, t, l⟩ := v
  unfold truthV
  repeat' split
  all_goals simp
theorem toldV_g (n : Int) : (toldV n).g = (VVal.mk (tk n) (ty n) 0 0 ⟨#[]⟩ []).g := by rw [toldV_eq]
set_option maxRecDepth 100000 in
set_option maxHeartbeats 4000000 in
theorem not_pc (a : VVal) : PC Tryz.prog 15 [.g a.g] ⟨[], [], []⟩ (.g (toldV (-truthV a)).g) ⟨[], [], []⟩ := by
  have h1 := truth_pc a
  have hr := truthV_rng a
  have h3 := told_pc (-truthV a)
  rw [← toldV_g] at h3
  have h4 : PC Tryz.prog 25 [.g (.int .i64 (IntKind.i64.wrap (0 - truthV a)))] ⟨[], [], []⟩ (.g (toldV (-truthV a)).g) ⟨[], [], []⟩ := by
    rw [show IntKind.i64.wrap (0 - truthV a) = -truthV a by rw [wrap64 (by omega)]; omega]; exact h3
  generalize toldV (-truthV a) = r at h4 ⊢
  generalize truthV a = p at h1 h4
  obtain ⟨r0, r1, r2, r3, r4, r5⟩ := r
  obtain ⟨k, y, c, e, t, l⟩ := a
  refine PC_of_PW Tryz.func15 rfl rfl (rs := _) rfl (Nat.le_of_ble_eq_true (by kernel_rfl)) ?_
  (repeat (first|((first|refine qA ?_|refine qB ?_|refine xN ?_|refine xE ?_|refine xT ?_); try show PW _ _ _ _ _ _)|refine ro1 tabOk rfl rfl ?_|refine ro2 tabOk rfl rfl ?_|refine ro3 tabOk rfl rfl ?_|(apply oR rfl rfl; (focus (first|exact cqP h1|exact cqP h4|exact cJ|exact mG|exact bT|exact nD)))|refine xS ?_|refine xR ?_|refine xB ?_|refine xt rfl ?_|refine xf rfl ?_))
  (first|refine Ret_int (vC (vA (AG rfl) (SZ rfl) rfl rfl (lB rfl)) vN) rfl ?_|refine Ret_bool (vC (vA (AG rfl) (SZ rfl) rfl rfl (lB rfl)) vN) rfl ?_|refine Ret_g (vC (vA (AG rfl) (SZ rfl) rfl rfl (lB rfl)) vN) rfl ?_)
  rfl
set_option maxRecDepth 100000 in
theorem halves_pc (v : VVal) : PC Tryz.prog 27 [.g v.g] ⟨[], [], []⟩ (.g (.int .i64 (truthV v + 1))) ⟨[], [], []⟩ := by
  obtain ⟨k, y, c, e, t, l⟩ := v
  unfold truthV
  cases y
  all_goals
    refine PC_of_PW Tryz.func27 rfl rfl (rs := _) rfl (Nat.le_of_ble_eq_true (by kernel_rfl)) ?_
    (repeat' (first|(first|((first|refine qA ?_|refine qB ?_|refine xN ?_|refine xE ?_|refine xT ?_); try show PW _ _ _ _ _ _)|refine ro1 tabOk rfl rfl ?_|refine ro2 tabOk rfl rfl ?_|refine ro3 tabOk rfl rfl ?_|(apply oR rfl rfl; (focus (first|exact cJ|exact mG|exact bT|exact nD)))|refine xS ?_|refine xR ?_|refine xB ?_|refine xt rfl ?_|refine xf rfl ?_)|(refine POps_split rfl rfl (fun h => ?_) (fun h => ?_) <;> fail_if_success (first|(have : true = true := h)|(have : false = false := h)))|refine PW_cond rfl (fun h => ?_) (fun h => ?_)))
    all_goals ((first|refine Ret_int (vC vT vN) rfl ?_|refine Ret_bool (vC vT vN) rfl ?_|refine Ret_g (vC vT vN) rfl ?_); simp_all; done)
set_option maxRecDepth 100000 in
theorem of_pc {n : Int} (hn : n = 0 ∨ n = 1 ∨ n = -1) : PC Tryz.prog 17 [.g (.int .i64 (n + 1))] ⟨[], [], []⟩ (.g (toldV n).g) ⟨[], [], []⟩ := by
  rcases hn with rfl | rfl | rfl
  all_goals
    refine PC_of_PW Tryz.func17 rfl rfl (rs := _) rfl (Nat.le_of_ble_eq_true (by kernel_rfl)) ?_
    (repeat (first|((first|refine qA ?_|refine qB ?_|refine xN ?_|refine xE ?_|refine xT ?_); try show PW _ _ _ _ _ _)|refine ro1 tabOk rfl rfl ?_|refine ro2 tabOk rfl rfl ?_|refine ro3 tabOk rfl rfl ?_|(apply oR rfl rfl; (focus (first|exact cJ|exact mG|exact bT|exact nD)))|refine xS ?_|refine xR ?_|refine xB ?_|refine xt rfl ?_|refine xf rfl ?_))
    (first|refine Ret_int (vC (vA (AG rfl) (SZ rfl) rfl rfl (lB rfl)) vN) rfl ?_|refine Ret_bool (vC (vA (AG rfl) (SZ rfl) rfl rfl (lB rfl)) vN) rfl ?_|refine Ret_g (vC (vA (AG rfl) (SZ rfl) rfl rfl (lB rfl)) vN) rfl ?_)
    rfl
set_option maxRecDepth 100000 in
theorem rnot_pc (a : VVal) : PC Tryz.prog 16 [.g a.g] ⟨[], [], []⟩ (.g (toldV (-truthV a)).g) ⟨[], [], []⟩ := by
  have h1 := halves_pc a
  have hr := truthV_rng a
  have h3 := of_pc (n := -truthV a) (by omega)
  have h4 : PC Tryz.prog 17 [.g (.int .i64 (IntKind.i64.wrap (2 - (truthV a + 1))))] ⟨[], [], []⟩ (.g (toldV (-truthV a)).g) ⟨[], [], []⟩ := by
    rw [show IntKind.i64.wrap (2 - (truthV a + 1)) = -truthV a + 1 by rw [wrap64 (by omega)]; omega]; exact h3
  generalize toldV (-truthV a) = r at h4 ⊢
  generalize truthV a = p at h1 h4
  obtain ⟨r0, r1, r2, r3, r4, r5⟩ := r
  obtain ⟨k, y, c, e, t, l⟩ := a
  refine PC_of_PW Tryz.func16 rfl rfl (rs := _) rfl (Nat.le_of_ble_eq_true (by kernel_rfl)) ?_
  (repeat (first|((first|refine qA ?_|refine qB ?_|refine xN ?_|refine xE ?_|refine xT ?_); try show PW _ _ _ _ _ _)|refine ro1 tabOk rfl rfl ?_|refine ro2 tabOk rfl rfl ?_|refine ro3 tabOk rfl rfl ?_|(apply oR rfl rfl; (focus (first|exact cqP h1|exact cqP h4|exact cJ|exact mG|exact bT|exact nD)))|refine xS ?_|refine xR ?_|refine xB ?_|refine xt rfl ?_|refine xf rfl ?_))
  (first|refine Ret_int (vC (vA (AG rfl) (SZ rfl) rfl rfl (lB rfl)) vN) rfl ?_|refine Ret_bool (vC (vA (AG rfl) (SZ rfl) rfl rfl (lB rfl)) vN) rfl ?_|refine Ret_g (vC (vA (AG rfl) (SZ rfl) rfl rfl (lB rfl)) vN) rfl ?_)
  rfl
set_option maxRecDepth 100000 in
theorem rand_pc (a b : VVal) : PC Tryz.prog 12 [.g a.g, .g b.g] ⟨[], [], []⟩ (.g (toldV (min (truthV a) (truthV b))).g) ⟨[], [], []⟩ := by
  have h1 := halves_pc a
  have h2 := halves_pc b
  have ra := truthV_rng a
  have rb := truthV_rng b
  by_cases hlt : truthV a < truthV b
  · rw [show min (truthV a) (truthV b) = truthV a by omega]
    have h3 := of_pc ra
    have hd : decide (truthV a + 1 < truthV b + 1) = true := decide_eq_true (by omega)
    generalize toldV (truthV a) = r at h3 ⊢
    generalize truthV a + 1 = p at h1 h3 hd
    generalize truthV b + 1 = q at h2 hd
    obtain ⟨r0, r1, r2, r3, r4, r5⟩ := r
    obtain ⟨k, y, c, e, t, l⟩ := a
    obtain ⟨k', y', c', e', t', l'⟩ := b
    refine PC_of_PW Tryz.func12 rfl rfl (rs := _) rfl (Nat.le_of_ble_eq_true (by kernel_rfl)) ?_
    (repeat (first|((first|refine qA ?_|refine qB ?_|refine xN ?_|refine xE ?_|refine xT ?_); try show PW _ _ _ _ _ _)|refine ro1 tabOk rfl rfl ?_|refine ro2 tabOk rfl rfl ?_|refine ro3 tabOk rfl rfl ?_|refine rd1 tabOk rfl rfl ?_|refine rd2 tabOk rfl rfl ?_|refine rd3 tabOk rfl rfl ?_|((first|apply oR rfl rfl|(apply dF rfl rfl rfl; intro _)|(apply dP rfl rfl rfl; intro _)|(apply dL rfl rfl rfl; intro _)|apply dC rfl rfl rfl rfl); (focus (first|exact cqP h1|exact cqP h2|exact cqP h3|exact cJ|exact mG|exact bT|exact nD)); try exact kQ)|refine xS ?_|refine xR ?_|refine qxa rfl rfl mixed ?_|refine qxb rfl rfl mixed ?_|refine qxi rfl rfl rfl rfl rfl mixed ?_|refine qxc rfl rfl mixed ?_|refine qxd rfl rfl mixed ?_|refine xB ?_|refine xt rfl ?_|refine xf rfl ?_))
    (first|refine POps_split rfl rfl (fun h => ?_) (fun h => ?_)|refine POpsD_split rfl rfl (fun h => ?_) (fun h => ?_)|refine PW_cond rfl (fun h => ?_) (fun h => ?_))
    · (repeat (first|((first|refine qA ?_|refine qB ?_|refine xN ?_|refine xE ?_|refine xT ?_); try show PW _ _ _ _ _ _)|refine ro1 tabOk rfl rfl ?_|refine ro2 tabOk rfl rfl ?_|refine ro3 tabOk rfl rfl ?_|refine rd1 tabOk rfl rfl ?_|refine rd2 tabOk rfl rfl ?_|refine rd3 tabOk rfl rfl ?_|((first|apply oR rfl rfl|(apply dF rfl rfl rfl; intro _)|(apply dP rfl rfl rfl; intro _)|(apply dL rfl rfl rfl; intro _)|apply dC rfl rfl rfl rfl); (focus (first|exact cqP h1|exact cqP h2|exact cqP h3|exact cJ|exact mG|exact bT|exact nD)); try exact kQ)|refine xS ?_|refine xR ?_|refine qxa rfl rfl mixed ?_|refine qxb rfl rfl mixed ?_|refine qxi rfl rfl rfl rfl rfl mixed ?_|refine qxc rfl rfl mixed ?_|refine qxd rfl rfl mixed ?_|refine xB ?_|refine xt rfl ?_|refine xf rfl ?_))
      (first|refine Ret_int (vC (vA (AG rfl) (SZ rfl) rfl rfl (lB rfl)) vN) rfl ?_|refine Ret_bool (vC (vA (AG rfl) (SZ rfl) rfl rfl (lB rfl)) vN) rfl ?_|refine Ret_g (vC (vA (AG rfl) (SZ rfl) rfl rfl (lB rfl)) vN) rfl ?_)
      rfl
    · exfalso; rw [hd] at h; cases h
  · rw [show min (truthV a) (truthV b) = truthV b by omega]
    have h3 := of_pc rb
    have hd : decide (truthV a + 1 < truthV b + 1) = false := decide_eq_false (by omega)
    generalize toldV (truthV b) = r at h3 ⊢
    generalize truthV a + 1 = p at h1 hd
    generalize truthV b + 1 = q at h2 h3 hd
    obtain ⟨r0, r1, r2, r3, r4, r5⟩ := r
    obtain ⟨k, y, c, e, t, l⟩ := a
    obtain ⟨k', y', c', e', t', l'⟩ := b
    refine PC_of_PW Tryz.func12 rfl rfl (rs := _) rfl (Nat.le_of_ble_eq_true (by kernel_rfl)) ?_
    (repeat (first|((first|refine qA ?_|refine qB ?_|refine xN ?_|refine xE ?_|refine xT ?_); try show PW _ _ _ _ _ _)|refine ro1 tabOk rfl rfl ?_|refine ro2 tabOk rfl rfl ?_|refine ro3 tabOk rfl rfl ?_|refine rd1 tabOk rfl rfl ?_|refine rd2 tabOk rfl rfl ?_|refine rd3 tabOk rfl rfl ?_|((first|apply oR rfl rfl|(apply dF rfl rfl rfl; intro _)|(apply dP rfl rfl rfl; intro _)|(apply dL rfl rfl rfl; intro _)|apply dC rfl rfl rfl rfl); (focus (first|exact cqP h1|exact cqP h2|exact cqP h3|exact cJ|exact mG|exact bT|exact nD)); try exact kQ)|refine xS ?_|refine xR ?_|refine qxa rfl rfl mixed ?_|refine qxb rfl rfl mixed ?_|refine qxi rfl rfl rfl rfl rfl mixed ?_|refine qxc rfl rfl mixed ?_|refine qxd rfl rfl mixed ?_|refine xB ?_|refine xt rfl ?_|refine xf rfl ?_))
    (first|refine POps_split rfl rfl (fun h => ?_) (fun h => ?_)|refine POpsD_split rfl rfl (fun h => ?_) (fun h => ?_)|refine PW_cond rfl (fun h => ?_) (fun h => ?_))
    · exfalso; rw [hd] at h; cases h
    · (repeat (first|((first|refine qA ?_|refine qB ?_|refine xN ?_|refine xE ?_|refine xT ?_); try show PW _ _ _ _ _ _)|refine ro1 tabOk rfl rfl ?_|refine ro2 tabOk rfl rfl ?_|refine ro3 tabOk rfl rfl ?_|refine rd1 tabOk rfl rfl ?_|refine rd2 tabOk rfl rfl ?_|refine rd3 tabOk rfl rfl ?_|((first|apply oR rfl rfl|(apply dF rfl rfl rfl; intro _)|(apply dP rfl rfl rfl; intro _)|(apply dL rfl rfl rfl; intro _)|apply dC rfl rfl rfl rfl); (focus (first|exact cqP h1|exact cqP h2|exact cqP h3|exact cJ|exact mG|exact bT|exact nD)); try exact kQ)|refine xS ?_|refine xR ?_|refine qxa rfl rfl mixed ?_|refine qxb rfl rfl mixed ?_|refine qxi rfl rfl rfl rfl rfl mixed ?_|refine qxc rfl rfl mixed ?_|refine qxd rfl rfl mixed ?_|refine xB ?_|refine xt rfl ?_|refine xf rfl ?_))
      (first|refine Ret_int (vC (vA (AG rfl) (SZ rfl) rfl rfl (lB rfl)) vN) rfl ?_|refine Ret_bool (vC (vA (AG rfl) (SZ rfl) rfl rfl (lB rfl)) vN) rfl ?_|refine Ret_g (vC (vA (AG rfl) (SZ rfl) rfl rfl (lB rfl)) vN) rfl ?_)
      rfl
theorem truth_toldV {n : Int} (hn : n = 0 ∨ n = 1 ∨ n = -1) : truthV (toldV n) = n := by rcases hn with rfl | rfl | rfl <;> decide
set_option maxRecDepth 100000 in
theorem ror_pc (a b : VVal) : PC Tryz.prog 14 [.g a.g, .g b.g] ⟨[], [], []⟩ (.g (toldV (max (truthV a) (truthV b))).g) ⟨[], [], []⟩ := by
  have h1 := rnot_pc a
  have h2 := rnot_pc b
  have ra := truthV_rng a
  have rb := truthV_rng b
  have h3 := rand_pc (toldV (-truthV a)) (toldV (-truthV b))
  rw [truth_toldV (by omega), truth_toldV (by omega)] at h3
  have h4 := rnot_pc (toldV (min (-truthV a) (-truthV b)))
  rw [truth_toldV (by omega), show -min (-truthV a) (-truthV b) = max (truthV a) (truthV b) by omega] at h4
  generalize toldV (max (truthV a) (truthV b)) = r at h4 ⊢
  generalize toldV (min (-truthV a) (-truthV b)) = s at h3 h4
  generalize toldV (-truthV a) = p at h1 h3
  generalize toldV (-truthV b) = q at h2 h3
  obtain ⟨r0, r1, r2, r3, r4, r5⟩ := r
  obtain ⟨s0, s1, s2, s3, s4, s5⟩ := s
  obtain ⟨p0, p1, p2, p3, p4, p5⟩ := p
  obtain ⟨q0, q1, q2, q3, q4, q5⟩ := q
  obtain ⟨k, y, c, e, t, l⟩ := a
  obtain ⟨k', y', c', e', t', l'⟩ := b
  refine PC_of_PW Tryz.func14 rfl rfl (rs := _) rfl (Nat.le_of_ble_eq_true (by kernel_rfl)) ?_
  (repeat (first|((first|refine qA ?_|refine qB ?_|refine xN ?_|refine xE ?_|refine xT ?_); try show PW _ _ _ _ _ _)|refine ro1 tabOk rfl rfl ?_|refine ro2 tabOk rfl rfl ?_|refine ro3 tabOk rfl rfl ?_|refine rd1 tabOk rfl rfl ?_|refine rd2 tabOk rfl rfl ?_|refine rd3 tabOk rfl rfl ?_|((first|apply oR rfl rfl|(apply dF rfl rfl rfl; intro _)|(apply dP rfl rfl rfl; intro _)|(apply dL rfl rfl rfl; intro _)|apply dC rfl rfl rfl rfl); (focus (first|exact cqP h1|exact cqP h2|exact cqP h3|exact cqP h4|exact cJ|exact mG|exact bT|exact nD)); try exact kQ)|refine xS ?_|refine xR ?_|refine qxa rfl rfl mixed ?_|refine qxb rfl rfl mixed ?_|refine qxi rfl rfl rfl rfl rfl mixed ?_|refine qxc rfl rfl mixed ?_|refine qxd rfl rfl mixed ?_|refine xB ?_|refine xt rfl ?_|refine xf rfl ?_))
  (first|refine Ret_int (vC (vA (AG rfl) (SZ rfl) rfl rfl (lB rfl)) vN) rfl ?_|refine Ret_bool (vC (vA (AG rfl) (SZ rfl) rfl rfl (lB rfl)) vN) rfl ?_|refine Ret_g (vC (vA (AG rfl) (SZ rfl) rfl rfl (lB rfl)) vN) rfl ?_)
  rfl
end Go.Proofs.YtdicineiaifahaaGreatDoor


namespace Go.Proofs.YtdicineiaifahaaGreatDoor
open Go Go.Pure
attribute [local irreducible] PW POps POpsD PO PC Cond

set_option maxRecDepth 100000 in
set_option maxHeartbeats 8000000 in
theorem requal_pc : ∀ (a b : VVal), gsz a.g → gsz b.g → PC Tryz.prog 18 [.g a.g, .g b.g] ⟨[], [], []⟩ (.g (.int .i64 (eqH a b))) ⟨[], [], []⟩
  | .mk k y c e t l, .mk k' y' c' e' t' l', ha, hb => by
    obtain ⟨hla, hma⟩ := VVal.gsz_list ha
    obtain ⟨hlb, hmb⟩ := VVal.gsz_list hb
    have ih : ∀ x ∈ l, ∀ z ∈ l', PC Tryz.prog 18 [.g x.g, .g z.g] ⟨[], [], []⟩ (.g (.int .i64 (eqH x z))) ⟨[], [], []⟩ := fun x hx z hz => requal_pc x z (hma x hx) (hmb z hz)
    have g1 : (VVal.gs l).length = l.length := by simp [VVal.gs_eq]
    have g2 : (VVal.gs l').length = l'.length := by simp [VVal.gs_eq]
    rw [eqH_eq]
    by_cases k1 : k = 1 ∨ k' = 1
    · rw [if_pos k1]
      by_cases hk : k = k'
      · rw [if_pos hk]
        refine PC_of_PW Tryz.func18 rfl rfl (rs := _) rfl (Nat.le_of_ble_eq_true (by kernel_rfl)) ?_
        (repeat' (first|(first|((first|refine qA ?_|refine qB ?_|refine xN ?_|refine xE ?_|refine xT ?_); try show PW _ _ _ _ _ _)|refine ro1 tabOk rfl rfl ?_|refine ro2 tabOk rfl rfl ?_|refine ro3 tabOk rfl rfl ?_|refine rd1 tabOk rfl rfl ?_|refine rd2 tabOk rfl rfl ?_|refine rd3 tabOk rfl rfl ?_|((first|apply oR rfl rfl|(apply dF rfl rfl rfl; intro _)|(apply dP rfl rfl rfl; intro _)|(apply dL rfl rfl rfl; intro _)|apply dC rfl rfl rfl rfl); (focus (first|exact cJ|exact mG|exact bT|exact nD)); try exact kQ)|refine xU [5] rfl ?_|refine xR ?_|refine qxa rfl rfl mixed ?_|refine qxb rfl rfl mixed ?_|refine qxi rfl rfl rfl rfl rfl mixed ?_|refine qxc rfl rfl mixed ?_|refine qxd rfl rfl mixed ?_|refine xB ?_|refine xt rfl ?_|refine xf rfl ?_)|(refine POps_split rfl rfl (fun h => ?_) (fun h => ?_) <;> fail_if_success (first|(have : true = true := h)|(have : false = false := h)))|(refine POpsD_split rfl rfl (fun h => ?_) (fun h => ?_) <;> fail_if_success (first|(have : true = true := h)|(have : false = false := h)))|refine PW_cond rfl (fun h => ?_) (fun h => ?_)))
        all_goals (first | ((first|refine Ret_int (vC vT vN) rfl ?_|refine Ret_bool (vC vT vN) rfl ?_|refine Ret_g (vC vT vN) rfl ?_); rfl) | (exfalso; (try simp only [fX] at *); first | done | omega) | (exfalso; simp at h; done) | (exfalso; simp_all; done))
      · rw [if_neg hk]
        refine PC_of_PW Tryz.func18 rfl rfl (rs := _) rfl (Nat.le_of_ble_eq_true (by kernel_rfl)) ?_
        (repeat' (first|(first|((first|refine qA ?_|refine qB ?_|refine xN ?_|refine xE ?_|refine xT ?_); try show PW _ _ _ _ _ _)|refine ro1 tabOk rfl rfl ?_|refine ro2 tabOk rfl rfl ?_|refine ro3 tabOk rfl rfl ?_|refine rd1 tabOk rfl rfl ?_|refine rd2 tabOk rfl rfl ?_|refine rd3 tabOk rfl rfl ?_|((first|apply oR rfl rfl|(apply dF rfl rfl rfl; intro _)|(apply dP rfl rfl rfl; intro _)|(apply dL rfl rfl rfl; intro _)|apply dC rfl rfl rfl rfl); (focus (first|exact cJ|exact mG|exact bT|exact nD)); try exact kQ)|refine xU [5] rfl ?_|refine xR ?_|refine qxa rfl rfl mixed ?_|refine qxb rfl rfl mixed ?_|refine qxi rfl rfl rfl rfl rfl mixed ?_|refine qxc rfl rfl mixed ?_|refine qxd rfl rfl mixed ?_|refine xB ?_|refine xt rfl ?_|refine xf rfl ?_)|(refine POps_split rfl rfl (fun h => ?_) (fun h => ?_) <;> fail_if_success (first|(have : true = true := h)|(have : false = false := h)))|(refine POpsD_split rfl rfl (fun h => ?_) (fun h => ?_) <;> fail_if_success (first|(have : true = true := h)|(have : false = false := h)))|refine PW_cond rfl (fun h => ?_) (fun h => ?_)))
        all_goals (first | ((first|refine Ret_int (vC vT vN) rfl ?_|refine Ret_bool (vC vT vN) rfl ?_|refine Ret_g (vC vT vN) rfl ?_); rfl) | (exfalso; (try simp only [fX] at *); first | done | omega) | (exfalso; simp at h; done) | (exfalso; simp_all; done))
    · rw [if_neg k1]
      by_cases hk : k = k'
      · subst hk
        rw [if_neg (by simp)]
        have kd : (k == 1) = false := beq_eq_false_iff_ne.2 (by omega)
        by_cases k2 : k = 2
        · subst k2
          rw [if_pos rfl]
          cases y <;> cases y'
          all_goals
            refine PC_of_PW Tryz.func18 rfl rfl (rs := _) rfl (Nat.le_of_ble_eq_true (by kernel_rfl)) ?_
            (repeat (first|((first|refine qA ?_|refine qB ?_|refine xN ?_|refine xE ?_|refine xT ?_); try show PW _ _ _ _ _ _)|refine ro1 tabOk rfl rfl ?_|refine ro2 tabOk rfl rfl ?_|refine ro3 tabOk rfl rfl ?_|refine rd1 tabOk rfl rfl ?_|refine rd2 tabOk rfl rfl ?_|refine rd3 tabOk rfl rfl ?_|((first|apply oR rfl rfl|(apply dF rfl rfl rfl; intro _)|(apply dP rfl rfl rfl; intro _)|(apply dL rfl rfl rfl; intro _)|apply dC rfl rfl rfl rfl); (focus (first|exact cJ|exact mG|exact bT|exact nD)); try exact kQ)|refine xS ?_|refine xR ?_|refine qxa rfl rfl mixed ?_|refine qxb rfl rfl mixed ?_|refine qxi rfl rfl rfl rfl rfl mixed ?_|refine qxc rfl rfl mixed ?_|refine qxd rfl rfl mixed ?_|refine xB ?_|refine xt rfl ?_|refine xf rfl ?_))
            (first|refine Ret_int (vC vT vN) rfl ?_|refine Ret_bool (vC vT vN) rfl ?_|refine Ret_g (vC vT vN) rfl ?_)
            rfl
        · rw [if_neg k2]
          by_cases k3 : k = 3
          · subst k3
            rw [if_pos rfl]
            by_cases hce : c = c' ∧ e = e'
            · rw [decide_eq_true hce]
              obtain ⟨rfl, rfl⟩ := hce
              refine PC_of_PW Tryz.func18 rfl rfl (rs := _) rfl (Nat.le_of_ble_eq_true (by kernel_rfl)) ?_
              (repeat' (first|(first|((first|refine qA ?_|refine qB ?_|refine xN ?_|refine xE ?_|refine xT ?_); try show PW _ _ _ _ _ _)|refine ro1 tabOk rfl rfl ?_|refine ro2 tabOk rfl rfl ?_|refine ro3 tabOk rfl rfl ?_|refine rd1 tabOk rfl rfl ?_|refine rd2 tabOk rfl rfl ?_|refine rd3 tabOk rfl rfl ?_|((first|apply oR rfl rfl|(apply dF rfl rfl rfl; intro _)|(apply dP rfl rfl rfl; intro _)|(apply dL rfl rfl rfl; intro _)|apply dC rfl rfl rfl rfl); (focus (first|exact cJ|exact mG|exact bT|exact nD)); try exact kQ)|refine xS ?_|refine xR ?_|refine qxa rfl rfl mixed ?_|refine qxb rfl rfl mixed ?_|refine qxi rfl rfl rfl rfl rfl mixed ?_|refine qxc rfl rfl mixed ?_|refine qxd rfl rfl mixed ?_|refine xB ?_|refine xt rfl ?_|refine xf rfl ?_)|(refine POps_split rfl rfl (fun h => ?_) (fun h => ?_) <;> fail_if_success (first|(have : true = true := h)|(have : false = false := h)))|(refine POpsD_split rfl rfl (fun h => ?_) (fun h => ?_) <;> fail_if_success (first|(have : true = true := h)|(have : false = false := h)))|refine PW_cond rfl (fun h => ?_) (fun h => ?_)))
              all_goals (first | ((first|refine Ret_int (vC vT vN) rfl ?_|refine Ret_bool (vC vT vN) rfl ?_|refine Ret_g (vC vT vN) rfl ?_); rfl) | (exfalso; simp at h; done) | (exfalso; simp_all; done))
            · rw [decide_eq_false hce]
              refine PC_of_PW Tryz.func18 rfl rfl (rs := _) rfl (Nat.le_of_ble_eq_true (by kernel_rfl)) ?_
              (repeat' (first|(first|((first|refine qA ?_|refine qB ?_|refine xN ?_|refine xE ?_|refine xT ?_); try show PW _ _ _ _ _ _)|refine ro1 tabOk rfl rfl ?_|refine ro2 tabOk rfl rfl ?_|refine ro3 tabOk rfl rfl ?_|refine rd1 tabOk rfl rfl ?_|refine rd2 tabOk rfl rfl ?_|refine rd3 tabOk rfl rfl ?_|((first|apply oR rfl rfl|(apply dF rfl rfl rfl; intro _)|(apply dP rfl rfl rfl; intro _)|(apply dL rfl rfl rfl; intro _)|apply dC rfl rfl rfl rfl); (focus (first|exact cJ|exact mG|exact bT|exact nD)); try exact kQ)|refine xS ?_|refine xR ?_|refine qxa rfl rfl mixed ?_|refine qxb rfl rfl mixed ?_|refine qxi rfl rfl rfl rfl rfl mixed ?_|refine qxc rfl rfl mixed ?_|refine qxd rfl rfl mixed ?_|refine xB ?_|refine xt rfl ?_|refine xf rfl ?_)|(refine POps_split rfl rfl (fun h => ?_) (fun h => ?_) <;> fail_if_success (first|(have : true = true := h)|(have : false = false := h)))|(refine POpsD_split rfl rfl (fun h => ?_) (fun h => ?_) <;> fail_if_success (first|(have : true = true := h)|(have : false = false := h)))|refine PW_cond rfl (fun h => ?_) (fun h => ?_)))
              all_goals (first | ((first|refine Ret_int (vC vT vN) rfl ?_|refine Ret_bool (vC vT vN) rfl ?_|refine Ret_g (vC vT vN) rfl ?_); rfl) | (exfalso; simp_all; done))
          · rw [if_neg k3]
            by_cases k4 : k = 4
            · subst k4
              rw [if_pos rfl]
              cases hb : (t.toList == t'.toList) with
              | true =>
                refine PC_of_PW Tryz.func18 rfl rfl (rs := _) rfl (Nat.le_of_ble_eq_true (by kernel_rfl)) ?_
                (repeat' (first|(first|((first|refine qA ?_|refine qB ?_|refine xN ?_|refine xE ?_|refine xT ?_); try show PW _ _ _ _ _ _)|refine ro1 tabOk rfl rfl ?_|refine ro2 tabOk rfl rfl ?_|refine ro3 tabOk rfl rfl ?_|refine rd1 tabOk rfl rfl ?_|refine rd2 tabOk rfl rfl ?_|refine rd3 tabOk rfl rfl ?_|((first|apply oR rfl rfl|(apply dF rfl rfl rfl; intro _)|(apply dP rfl rfl rfl; intro _)|(apply dL rfl rfl rfl; intro _)|apply dC rfl rfl rfl rfl); (focus (first|exact cJ|exact mG|exact bT|exact nD)); try exact kQ)|refine xS ?_|refine xR ?_|refine qxa rfl rfl mixed ?_|refine qxb rfl rfl mixed ?_|refine qxi rfl rfl rfl rfl rfl mixed ?_|refine qxc rfl rfl mixed ?_|refine qxd rfl rfl mixed ?_|refine xB ?_|refine xt rfl ?_|refine xf rfl ?_)|(refine POps_split rfl rfl (fun h => ?_) (fun h => ?_) <;> fail_if_success (first|(have : true = true := h)|(have : false = false := h)))|(refine POpsD_split rfl rfl (fun h => ?_) (fun h => ?_) <;> fail_if_success (first|(have : true = true := h)|(have : false = false := h)))|refine PW_cond rfl (fun h => ?_) (fun h => ?_)))
                all_goals (first | ((first|refine Ret_int (vC vT vN) rfl ?_|refine Ret_bool (vC vT vN) rfl ?_|refine Ret_g (vC vT vN) rfl ?_); rfl) | (exfalso; simp_all; done))
              | false =>
                refine PC_of_PW Tryz.func18 rfl rfl (rs := _) rfl (Nat.le_of_ble_eq_true (by kernel_rfl)) ?_
                (repeat' (first|(first|((first|refine qA ?_|refine qB ?_|refine xN ?_|refine xE ?_|refine xT ?_); try show PW _ _ _ _ _ _)|refine ro1 tabOk rfl rfl ?_|refine ro2 tabOk rfl rfl ?_|refine ro3 tabOk rfl rfl ?_|refine rd1 tabOk rfl rfl ?_|refine rd2 tabOk rfl rfl ?_|refine rd3 tabOk rfl rfl ?_|((first|apply oR rfl rfl|(apply dF rfl rfl rfl; intro _)|(apply dP rfl rfl rfl; intro _)|(apply dL rfl rfl rfl; intro _)|apply dC rfl rfl rfl rfl); (focus (first|exact cJ|exact mG|exact bT|exact nD)); try exact kQ)|refine xS ?_|refine xR ?_|refine qxa rfl rfl mixed ?_|refine qxb rfl rfl mixed ?_|refine qxi rfl rfl rfl rfl rfl mixed ?_|refine qxc rfl rfl mixed ?_|refine qxd rfl rfl mixed ?_|refine xB ?_|refine xt rfl ?_|refine xf rfl ?_)|(refine POps_split rfl rfl (fun h => ?_) (fun h => ?_) <;> fail_if_success (first|(have : true = true := h)|(have : false = false := h)))|(refine POpsD_split rfl rfl (fun h => ?_) (fun h => ?_) <;> fail_if_success (first|(have : true = true := h)|(have : false = false := h)))|refine PW_cond rfl (fun h => ?_) (fun h => ?_)))
                all_goals (first | ((first|refine Ret_int (vC vT vN) rfl ?_|refine Ret_bool (vC vT vN) rfl ?_|refine Ret_g (vC vT vN) rfl ?_); rfl) | (exfalso; simp_all; done))
            · rw [if_neg k4]
              by_cases k5 : k = 5
              · subst k5
                rw [if_pos rfl]
                by_cases hl : l.length = l'.length
                · rw [if_pos hl]
                  refine PC_of_PW Tryz.func18 rfl rfl (rs := _) rfl (Nat.le_of_ble_eq_true (by kernel_rfl)) ?_
                  (repeat' (first|(first|((first|refine qA ?_|refine qB ?_|refine xN ?_|refine xE ?_|refine xT ?_); try show PW _ _ _ _ _ _)|refine ro1 tabOk rfl rfl ?_|refine ro2 tabOk rfl rfl ?_|refine ro3 tabOk rfl rfl ?_|refine rd1 tabOk rfl rfl ?_|refine rd2 tabOk rfl rfl ?_|refine rd3 tabOk rfl rfl ?_|((first|apply oR rfl rfl|(apply dF rfl rfl rfl; intro _)|(apply dP rfl rfl rfl; intro _)|(apply dL rfl rfl rfl; intro _)|apply dC rfl rfl rfl rfl); (focus (first|exact cJ|exact mG|exact bT|exact nD)); try exact kQ)|refine xU [18] rfl ?_|refine xR ?_|refine qxa rfl rfl mixed ?_|refine qxb rfl rfl mixed ?_|refine qxi rfl rfl rfl rfl rfl mixed ?_|refine qxc rfl rfl mixed ?_|refine qxd rfl rfl mixed ?_|refine xB ?_|refine xt rfl ?_|refine xf rfl ?_)|(refine POps_split rfl rfl (fun h => ?_) (fun h => ?_) <;> fail_if_success (first|(have : true = true := h)|(have : false = false := h)))|(refine POpsD_split rfl rfl (fun h => ?_) (fun h => ?_) <;> fail_if_success (first|(have : true = true := h)|(have : false = false := h)))|refine PW_cond rfl (fun h => ?_) (fun h => ?_)))
                  all_goals (first | (exfalso; (try simp only [fX] at *); first | done | omega) | (exfalso; simp at h; done) | (exfalso; simp_all; done) | skip)
                  try clear h
                  (repeat (first|((first|refine qA ?_|refine qB ?_|refine xN ?_|refine xE ?_|refine xT ?_); try show PW _ _ _ _ _ _)|refine ro1 tabOk rfl rfl ?_|refine ro2 tabOk rfl rfl ?_|refine ro3 tabOk rfl rfl ?_|refine rd1 tabOk rfl rfl ?_|refine rd2 tabOk rfl rfl ?_|refine rd3 tabOk rfl rfl ?_|((first|apply oR rfl rfl|(apply dF rfl rfl rfl; intro _)|(apply dP rfl rfl rfl; intro _)|(apply dL rfl rfl rfl; intro _)|apply dC rfl rfl rfl rfl); (focus (first|exact cJ|exact mG|exact bT|exact nD)); try exact kQ)|refine xS ?_|refine xR ?_|refine qxa rfl rfl mixed ?_|refine qxb rfl rfl mixed ?_|refine qxi rfl rfl rfl rfl rfl mixed ?_|refine qxc rfl rfl mixed ?_|refine qxd rfl rfl mixed ?_|refine xB ?_|refine xt rfl ?_|refine xf rfl ?_))
                  refine PW_loop (S := Nat × Int) (fun s => slots [(2, .ptr 0 0), (3, .ptr 1 0), (6, .g (.int .i64 s.2)), (61, .g (.int .i64 l.length)), (62, .g (.int .i64 s.1))])
                    (fun s => ⟨[[.g (.int .i64 5), .g (.bool y), .g (.int .i64 c), .g (.int .i64 e), .g (.str t), .g (.sl (VVal.gs l))], [.g (.int .i64 5), .g (.bool y'), .g (.int .i64 c'), .g (.int .i64 e'), .g (.str t'), .g (.sl (VVal.gs l'))]], [], []⟩)
                    (fun s => s.1 ≤ l.length ∧ eqHs (l.drop s.1) (l'.drop s.1) s.2 = eqHs l l' 2) (fun s => l.length - s.1) (0, 2) ⟨Nat.zero_le _, rfl⟩
                    (SlotsOk.le ⟨.inl rfl, .inl rfl, .inl rfl, .inl (congrArg (fun k : Nat => PV.g (.int .i64 k)) g1), .inl rfl, trivial⟩) (HLe.of_eq rfl) (fun s hs => ?_)
                  obtain ⟨i, acc⟩ := s
                  obtain ⟨hi, hgo⟩ := hs
                  dsimp only at hi hgo
                  (repeat (first|((first|refine qA ?_|refine qB ?_|refine xN ?_|refine xE ?_|refine xT ?_); try show PW _ _ _ _ _ _)|refine ro1 tabOk rfl rfl ?_|refine ro2 tabOk rfl rfl ?_|refine ro3 tabOk rfl rfl ?_|refine rd1 tabOk rfl rfl ?_|refine rd2 tabOk rfl rfl ?_|refine rd3 tabOk rfl rfl ?_|((first|apply oR rfl rfl|(apply dF rfl rfl rfl; intro _)|(apply dP rfl rfl rfl; intro _)|(apply dL rfl rfl rfl; intro _)|apply dC rfl rfl rfl rfl); (focus (first|exact cJ|exact mG|exact bT|exact nD)); try exact kQ)|refine xS ?_|refine xR ?_|refine qxa rfl rfl mixed ?_|refine qxb rfl rfl mixed ?_|refine qxi rfl rfl rfl rfl rfl mixed ?_|refine qxc rfl rfl mixed ?_|refine qxd rfl rfl mixed ?_|refine xB ?_|refine xt rfl ?_|refine xf rfl ?_))
                  (first|refine POps_split rfl rfl (fun h => ?_) (fun h => ?_)|refine POpsD_split rfl rfl (fun h => ?_) (fun h => ?_)|refine PW_cond rfl (fun h => ?_) (fun h => ?_))
                  · have hlt : i < l.length := by have := of_decide_eq_true h; omega
                    have hlt' : i < l'.length := by omega
                    have hg : (VVal.gs l)[((i : Int)).toNat]? = some l[i].g := by rw [VVal.gs_eq]; exact map_get hlt
                    have hg' : (VVal.gs l')[((i : Int)).toNat]? = some l'[i].g := by rw [VVal.gs_eq]; exact map_get hlt'
                    have ih := ih l[i] (List.getElem_mem hlt) l'[i] (List.getElem_mem hlt')
                    rw [List.drop_eq_getElem_cons hlt, List.drop_eq_getElem_cons hlt', eqHs] at hgo
                    generalize l[i] = x at hg ih hgo
                    generalize l'[i] = z at hg' ih hgo
                    generalize eqH x z = r at ih hgo
                    obtain ⟨x0, x1, x2, x3, x4, x5⟩ := x
                    obtain ⟨z0, z1, z2, z3, z4, z5⟩ := z
                    clear h
                    (repeat (first|((first|refine qA ?_|refine qB ?_|refine xN ?_|refine xE ?_|refine xT ?_); try show PW _ _ _ _ _ _)|refine ro1 tabOk rfl rfl ?_|refine ro2 tabOk rfl rfl ?_|refine ro3 tabOk rfl rfl ?_|refine rd1 tabOk rfl rfl ?_|refine rd2 tabOk rfl rfl ?_|refine rd3 tabOk rfl rfl ?_|((first|apply oR rfl rfl|(apply dF rfl rfl rfl; intro _)|(apply dP rfl rfl rfl; intro _)|(apply dL rfl rfl rfl; intro _)|apply dC rfl rfl rfl rfl); (focus (first|exact cqP ih|exact iA rfl (EL rfl) (SZ rfl) rfl rfl (Int.natCast_nonneg _) hg rfl|exact iA rfl (EL rfl) (SZ rfl) rfl rfl (Int.natCast_nonneg _) hg' rfl|exact cJ|exact mG|exact bT|exact nD)); try exact kQ)|refine xS ?_|refine xR ?_|refine qxa rfl rfl mixed ?_|refine qxb rfl rfl mixed ?_|refine qxi rfl rfl rfl rfl rfl mixed ?_|refine qxc rfl rfl mixed ?_|refine qxd rfl rfl mixed ?_|refine xB ?_|refine xt rfl ?_|refine xf rfl ?_))
                    (first|refine POps_split rfl rfl (fun h => ?_) (fun h => ?_)|refine POpsD_split rfl rfl (fun h => ?_) (fun h => ?_)|refine PW_cond rfl (fun h => ?_) (fun h => ?_))
                    · rw [if_pos (of_decide_eq_true h)] at hgo
                      clear h
                      (repeat (first|((first|refine qA ?_|refine qB ?_|refine xN ?_|refine xE ?_|refine xT ?_); try show PW _ _ _ _ _ _)|refine ro1 tabOk rfl rfl ?_|refine ro2 tabOk rfl rfl ?_|refine ro3 tabOk rfl rfl ?_|refine rd1 tabOk rfl rfl ?_|refine rd2 tabOk rfl rfl ?_|refine rd3 tabOk rfl rfl ?_|((first|apply oR rfl rfl|(apply dF rfl rfl rfl; intro _)|(apply dP rfl rfl rfl; intro _)|(apply dL rfl rfl rfl; intro _)|apply dC rfl rfl rfl rfl); (focus (first|exact cJ|exact mG|exact bT|exact nD)); try exact kQ)|refine xS ?_|refine xR ?_|refine qxa rfl rfl mixed ?_|refine qxb rfl rfl mixed ?_|refine qxi rfl rfl rfl rfl rfl mixed ?_|refine qxc rfl rfl mixed ?_|refine qxd rfl rfl mixed ?_|refine xB ?_|refine xt rfl ?_|refine xf rfl ?_))
                      exact ⟨(i + 1, r), ⟨hlt, hgo⟩, by dsimp only; omega, SlotsOk.le ⟨.inl rfl, .inl rfl, .inl rfl, .inl rfl, .inl (congrArg (fun k => PV.g (.int .i64 k)) (wrap64 (by simp only [maxLen] at hla; omega))), trivial⟩, HLe.of_eq rfl⟩
                    · rw [if_neg (of_decide_eq_false h)] at hgo
                      clear h
                      (repeat (first|((first|refine qA ?_|refine qB ?_|refine xN ?_|refine xE ?_|refine xT ?_); try show PW _ _ _ _ _ _)|refine ro1 tabOk rfl rfl ?_|refine ro2 tabOk rfl rfl ?_|refine ro3 tabOk rfl rfl ?_|refine rd1 tabOk rfl rfl ?_|refine rd2 tabOk rfl rfl ?_|refine rd3 tabOk rfl rfl ?_|((first|apply oR rfl rfl|(apply dF rfl rfl rfl; intro _)|(apply dP rfl rfl rfl; intro _)|(apply dL rfl rfl rfl; intro _)|apply dC rfl rfl rfl rfl); (focus (first|exact cJ|exact mG|exact bT|exact nD)); try exact kQ)|refine xS ?_|refine xR ?_|refine qxa rfl rfl mixed ?_|refine qxb rfl rfl mixed ?_|refine qxi rfl rfl rfl rfl rfl mixed ?_|refine qxc rfl rfl mixed ?_|refine qxd rfl rfl mixed ?_|refine xB ?_|refine xt rfl ?_|refine xf rfl ?_))
                      exact ⟨(i + 1, acc), ⟨hlt, hgo⟩, by dsimp only; omega, SlotsOk.le ⟨.inl rfl, .inl rfl, .inl rfl, .inl rfl, .inl (congrArg (fun k => PV.g (.int .i64 k)) (wrap64 (by simp only [maxLen] at hla; omega))), trivial⟩, HLe.of_eq rfl⟩
                  · have hi' : i = l.length := by have := of_decide_eq_false h; omega
                    subst hi'
                    rw [List.drop_length, hl, List.drop_length, eqHs] at hgo
                    · subst hgo
                      (repeat (first|((first|refine qA ?_|refine qB ?_|refine xN ?_|refine xE ?_|refine xT ?_); try show PW _ _ _ _ _ _)|refine ro1 tabOk rfl rfl ?_|refine ro2 tabOk rfl rfl ?_|refine ro3 tabOk rfl rfl ?_|refine rd1 tabOk rfl rfl ?_|refine rd2 tabOk rfl rfl ?_|refine rd3 tabOk rfl rfl ?_|((first|apply oR rfl rfl|(apply dF rfl rfl rfl; intro _)|(apply dP rfl rfl rfl; intro _)|(apply dL rfl rfl rfl; intro _)|apply dC rfl rfl rfl rfl); (focus (first|exact cJ|exact mG|exact bT|exact nD)); try exact kQ)|refine xS ?_|refine xR ?_|refine qxa rfl rfl mixed ?_|refine qxb rfl rfl mixed ?_|refine qxi rfl rfl rfl rfl rfl mixed ?_|refine qxc rfl rfl mixed ?_|refine qxd rfl rfl mixed ?_|refine xB ?_|refine xt rfl ?_|refine xf rfl ?_))
                      (first|refine Ret_int (vC vT vN) rfl ?_|refine Ret_bool (vC vT vN) rfl ?_|refine Ret_g (vC vT vN) rfl ?_)
                      rfl
                    all_goals simp
                · rw [if_neg hl]
                  refine PC_of_PW Tryz.func18 rfl rfl (rs := _) rfl (Nat.le_of_ble_eq_true (by kernel_rfl)) ?_
                  (repeat' (first|(first|((first|refine qA ?_|refine qB ?_|refine xN ?_|refine xE ?_|refine xT ?_); try show PW _ _ _ _ _ _)|refine ro1 tabOk rfl rfl ?_|refine ro2 tabOk rfl rfl ?_|refine ro3 tabOk rfl rfl ?_|refine rd1 tabOk rfl rfl ?_|refine rd2 tabOk rfl rfl ?_|refine rd3 tabOk rfl rfl ?_|((first|apply oR rfl rfl|(apply dF rfl rfl rfl; intro _)|(apply dP rfl rfl rfl; intro _)|(apply dL rfl rfl rfl; intro _)|apply dC rfl rfl rfl rfl); (focus (first|exact cJ|exact mG|exact bT|exact nD)); try exact kQ)|refine xU [18] rfl ?_|refine xR ?_|refine qxa rfl rfl mixed ?_|refine qxb rfl rfl mixed ?_|refine qxi rfl rfl rfl rfl rfl mixed ?_|refine qxc rfl rfl mixed ?_|refine qxd rfl rfl mixed ?_|refine xB ?_|refine xt rfl ?_|refine xf rfl ?_)|(refine POps_split rfl rfl (fun h => ?_) (fun h => ?_) <;> fail_if_success (first|(have : true = true := h)|(have : false = false := h)))|(refine POpsD_split rfl rfl (fun h => ?_) (fun h => ?_) <;> fail_if_success (first|(have : true = true := h)|(have : false = false := h)))|refine PW_cond rfl (fun h => ?_) (fun h => ?_)))
                  all_goals (first | ((first|refine Ret_int (vC vT vN) rfl ?_|refine Ret_bool (vC vT vN) rfl ?_|refine Ret_g (vC vT vN) rfl ?_); rfl) | (exfalso; (try simp only [fX] at *); first | done | omega) | (exfalso; simp at h; done) | (exfalso; simp_all; done))
              · rw [if_neg k5]
                refine PC_of_PW Tryz.func18 rfl rfl (rs := _) rfl (Nat.le_of_ble_eq_true (by kernel_rfl)) ?_
                (repeat' (first|(first|((first|refine qA ?_|refine qB ?_|refine xN ?_|refine xE ?_|refine xT ?_); try show PW _ _ _ _ _ _)|refine ro1 tabOk rfl rfl ?_|refine ro2 tabOk rfl rfl ?_|refine ro3 tabOk rfl rfl ?_|refine rd1 tabOk rfl rfl ?_|refine rd2 tabOk rfl rfl ?_|refine rd3 tabOk rfl rfl ?_|((first|apply oR rfl rfl|(apply dF rfl rfl rfl; intro _)|(apply dP rfl rfl rfl; intro _)|(apply dL rfl rfl rfl; intro _)|apply dC rfl rfl rfl rfl); (focus (first|exact cJ|exact mG|exact bT|exact nD)); try exact kQ)|refine xS ?_|refine xR ?_|refine qxa rfl rfl mixed ?_|refine qxb rfl rfl mixed ?_|refine qxi rfl rfl rfl rfl rfl mixed ?_|refine qxc rfl rfl mixed ?_|refine qxd rfl rfl mixed ?_|refine xB ?_|refine xt rfl ?_|refine xf rfl ?_)|(refine POps_split rfl rfl (fun h => ?_) (fun h => ?_) <;> fail_if_success (first|(have : true = true := h)|(have : false = false := h)))|(refine POpsD_split rfl rfl (fun h => ?_) (fun h => ?_) <;> fail_if_success (first|(have : true = true := h)|(have : false = false := h)))|refine PW_cond rfl (fun h => ?_) (fun h => ?_)))
                all_goals (first | (exfalso; (try simp only [fX] at *); first | done | omega) | (exfalso; simp at h; done) | (exfalso; simp_all; done) | ((first|refine Ret_int (vC vT vN) rfl ?_|refine Ret_bool (vC vT vN) rfl ?_|refine Ret_g (vC vT vN) rfl ?_); rfl))
      · rw [if_pos hk]
        refine PC_of_PW Tryz.func18 rfl rfl (rs := _) rfl (Nat.le_of_ble_eq_true (by kernel_rfl)) ?_
        (repeat' (first|(first|((first|refine qA ?_|refine qB ?_|refine xN ?_|refine xE ?_|refine xT ?_); try show PW _ _ _ _ _ _)|refine ro1 tabOk rfl rfl ?_|refine ro2 tabOk rfl rfl ?_|refine ro3 tabOk rfl rfl ?_|refine rd1 tabOk rfl rfl ?_|refine rd2 tabOk rfl rfl ?_|refine rd3 tabOk rfl rfl ?_|((first|apply oR rfl rfl|(apply dF rfl rfl rfl; intro _)|(apply dP rfl rfl rfl; intro _)|(apply dL rfl rfl rfl; intro _)|apply dC rfl rfl rfl rfl); (focus (first|exact cJ|exact mG|exact bT|exact nD)); try exact kQ)|refine xU [7] rfl ?_|refine xR ?_|refine qxa rfl rfl mixed ?_|refine qxb rfl rfl mixed ?_|refine qxi rfl rfl rfl rfl rfl mixed ?_|refine qxc rfl rfl mixed ?_|refine qxd rfl rfl mixed ?_|refine xB ?_|refine xt rfl ?_|refine xf rfl ?_)|(refine POps_split rfl rfl (fun h => ?_) (fun h => ?_) <;> fail_if_success (first|(have : true = true := h)|(have : false = false := h)))|(refine POpsD_split rfl rfl (fun h => ?_) (fun h => ?_) <;> fail_if_success (first|(have : true = true := h)|(have : false = false := h)))|refine PW_cond rfl (fun h => ?_) (fun h => ?_)))
        all_goals (first | ((first|refine Ret_int (vC vT vN) rfl ?_|refine Ret_bool (vC vT vN) rfl ?_|refine Ret_g (vC vT vN) rfl ?_); rfl) | (exfalso; (try simp only [fX] at *); first | done | omega) | (exfalso; simp at h; done) | (exfalso; simp_all; done))
end Go.Proofs.YtdicineiaifahaaGreatDoor


namespace Go.Proofs.YtdicineiaifahaaGreatDoor
open Go Go.Pure
attribute [local irreducible] PW POps POpsD PO PC Cond

theorem ratio_len {c e : Int} (h : wrongD c e = 0) : (V.dig (qI (topD c e) (gI (topD c e) (botD e))).natAbs).length ≤ 9 ∧ (V.dig (botD e / gI (topD c e) (botD e))).length ≤ 7 ∧ botD e / gI (topD c e) (botD e) ≠ 0 := by
  have a := (wrongD_ok h).1
  have b1 : botD e ≤ 10 ^ 60 := Nat.pow_le_pow_right (by decide) (by omega)
  have b2 : (10 : Nat) ^ 60 < V.WB ^ 7 := by decide +kernel
  refine ⟨?_, V.dig_length_le (Nat.lt_of_le_of_lt (Nat.le_trans (Nat.div_le_self _ _) b1) b2), Nat.ne_of_gt (Nat.div_pos (Nat.le_of_dvd (botD_pos e) (gI_right _ _)) (gI_pos _ (botD_pos e)))⟩
  rw [qI_abs]
  have t1 : (topD c e).natAbs ≤ 10 ^ 18 * 10 ^ 60 := by
    unfold topD
    rw [Int.natAbs_mul, Int.natAbs_pow]
    have a1 : 10 ^ e.toNat ≤ 10 ^ 60 := Nat.pow_le_pow_right (by decide) (by omega)
    have a3 : c.natAbs ≤ 10 ^ 18 := by
      have : (10 : Nat) ^ 18 = 1000000000000000000 := by decide +kernel
      omega
    exact Nat.mul_le_mul a3 a1
  have t2 : (10 : Nat) ^ 18 * 10 ^ 60 < V.WB ^ 9 := by decide +kernel
  exact V.dig_length_le (Nat.lt_of_le_of_lt (Nat.le_trans (Nat.div_le_self _ _) t1) t2)
theorem prod_len {a : Int} {y : Nat} (ha : (V.dig a.natAbs).length ≤ 9) (hy : (V.dig y).length ≤ 7) : (V.dig (a * (y : Int)).natAbs).length ≤ 10000 := by
  have h1 := V.val_lt (V.okW_dig a.natAbs)
  have h2 := V.val_lt (V.okW_dig y)
  rw [V.val_dig] at h1 h2
  have h3 : V.WB ^ (V.dig a.natAbs).length ≤ V.WB ^ 9 := Nat.pow_le_pow_right (by decide) ha
  have h4 : V.WB ^ (V.dig y).length ≤ V.WB ^ 7 := Nat.pow_le_pow_right (by decide) hy
  have h5 : a.natAbs * y < V.WB ^ 9 * V.WB ^ 7 := Nat.mul_lt_mul'' (Nat.lt_of_lt_of_le h1 h3) (Nat.lt_of_lt_of_le h2 h4)
  rw [← Nat.pow_add] at h5
  rw [Int.natAbs_mul, Int.natAbs_natCast]
  exact Nat.le_trans (V.dig_length_le h5) (by decide)

set_option maxRecDepth 100000 in
set_option maxHeartbeats 8000000 in
theorem rcmp_pc {c e d f : Int} (h1 : wrongD c e = 0) (h2 : wrongD d f = 0) : PC Tryz.prog 28 [.g (.agg [.int .i64 c, .int .i64 e]), .g (.agg [.int .i64 d, .int .i64 f])] ⟨[], [], []⟩ (.tuple [.g (.int .i64 (cmpD c e d f)), .g (.int .i64 0)]) ⟨[], [], []⟩ := by
  have a := (wrongD_ok h1).1
  have b := (wrongD_ok h2).1
  have w1 := rwrong_pc c e
  have w2 := rwrong_pc d f
  rw [h1] at w1
  rw [h2] at w2
  have r1 := V.rat_pc h1
  have r2 := V.rat_pc h2
  obtain ⟨l1, l2, l3⟩ := ratio_len h1
  obtain ⟨m1, m2, m3⟩ := ratio_len h2
  have hc := V.ratCmp_pc l3 m3 (by omega) (by omega) (by omega) (by omega) (prod_len l1 m2) (prod_len m1 l2)
  rw [cmpQ_dec (by omega) (by omega), ← cmpD_eq (by omega) (by omega)] at hc
  unfold V.ratV at *
  clear h1 h2 a b l1 l2 l3 m1 m2 m3
  generalize cmpD c e d f = r at *
  generalize V.dig (qI (topD c e) (gI (topD c e) (botD e))).natAbs = xs at *
  generalize decide (qI (topD c e) (gI (topD c e) (botD e)) < 0) = xp at *
  generalize V.dig (botD e / gI (topD c e) (botD e)) = ys at *
  generalize V.dig (qI (topD d f) (gI (topD d f) (botD f))).natAbs = zs at *
  generalize decide (qI (topD d f) (gI (topD d f) (botD f)) < 0) = zp at *
  generalize V.dig (botD f / gI (topD d f) (botD f)) = ws at *
  refine PC_of_PW Tryz.func28 rfl rfl (rs := _) rfl (Nat.le_of_ble_eq_true (by kernel_rfl)) ?_
  (repeat (first|((first|refine qA ?_|refine qB ?_|refine xN ?_|refine xE ?_|refine xT ?_); try show PW _ _ _ _ _ _)|refine ro1 tabOk rfl rfl ?_|refine ro2 tabOk rfl rfl ?_|refine ro3 tabOk rfl rfl ?_|refine rd1 tabOk rfl rfl ?_|refine rd2 tabOk rfl rfl ?_|refine rd3 tabOk rfl rfl ?_|((first|apply oR rfl rfl|(apply dF rfl rfl rfl; intro _)|(apply dP rfl rfl rfl; intro _)|(apply dL rfl rfl rfl; intro _)|apply dC rfl rfl rfl rfl); (focus (first|exact cqP w1|exact cqP w2|exact cb [] rfl rfl (EN rfl) (r1) rfl rfl rfl rfl rfl rfl rfl rfl rfl rfl rfl|exact cb [] rfl rfl (EN rfl) (r2) rfl rfl rfl rfl rfl rfl rfl rfl rfl rfl rfl|exact cb [] rfl rfl (EN rfl) (hc) rfl rfl rfl rfl rfl rfl rfl rfl rfl rfl rfl|exact cJ|exact mG|exact bT|exact nD)); try exact kQ)|refine xS ?_|refine xR ?_|refine xK false false [0, 1] rfl mixed (by decide +kernel) ?_|refine xK false true [0, 1] rfl mixed (by decide +kernel) ?_|refine xK true false [0, 1] rfl mixed (by decide +kernel) ?_|refine xK true true [0, 1] rfl mixed (by decide +kernel) ?_|refine xB ?_|refine xt rfl ?_|refine xf rfl ?_))
  (first|refine Ret2 (vC vT (vC vT vN)) rfl ?_ ?_)
  all_goals rfl
set_option maxRecDepth 100000 in
set_option maxHeartbeats 8000000 in
theorem rless_pc (a b : VVal) (hr : ∀ k y c e t l k' y' c' e' t' l', a = .mk k y c e t l → b = .mk k' y' c' e' t' l' → k = 3 → k' = 3 → wrongD c e = 0 ∧ wrongD c' e' = 0) : PC Tryz.prog 19 [.g a.g, .g b.g] ⟨[], [], []⟩ (.g (.int .i64 (lessH a b))) ⟨[], [], []⟩ := by
  obtain ⟨k, y, c, e, t, l⟩ := a
  obtain ⟨k', y', c', e', t', l'⟩ := b
  have hr := hr k y c e t l k' y' c' e' t' l' rfl rfl
  show PC _ _ _ _ (.g (.int .i64 (if k = 3 ∧ k' = 3 then hB (decide (cmpD c e c' e' < 0)) else if k = 4 ∧ k' = 4 then hB (Op.bytesLess t.toList t'.toList) else 1))) _
  by_cases h3 : k = 3 ∧ k' = 3
  · obtain ⟨rfl, rfl⟩ := h3
    rw [if_pos ⟨rfl, rfl⟩]
    obtain ⟨q1, q2⟩ := hr rfl rfl
    have hc := rcmp_pc q1 q2
    generalize cmpD c e c' e' = r at *
    by_cases hlt : r < 0
    · rw [decide_eq_true hlt]
      refine PC_of_PW Tryz.func19 rfl rfl (rs := _) rfl (Nat.le_of_ble_eq_true (by kernel_rfl)) ?_
      (repeat' (first|(first|((first|refine qA ?_|refine qB ?_|refine xN ?_|refine xE ?_|refine xT ?_); try show PW _ _ _ _ _ _)|refine ro1 tabOk rfl rfl ?_|refine ro2 tabOk rfl rfl ?_|refine ro3 tabOk rfl rfl ?_|(apply oR rfl rfl; (focus (first|exact cqP hc|exact cJ|exact mG|exact bT|exact nD)))|refine xS ?_|refine xR ?_|refine xB ?_|refine xt rfl ?_|refine xf rfl ?_)|(refine POps_split rfl rfl (fun h => ?_) (fun h => ?_) <;> fail_if_success (first|(have : true = true := h)|(have : false = false := h)))|refine PW_cond rfl (fun h => ?_) (fun h => ?_)))
      all_goals (first | (exfalso; (try simp only [fX] at *); first | done | omega) | (exfalso; simp at h; done) | (exfalso; simp_all; done) | ((first|refine Ret_int (vC vT vN) rfl ?_|refine Ret_bool (vC vT vN) rfl ?_|refine Ret_g (vC vT vN) rfl ?_); rfl))
    · rw [decide_eq_false hlt]
      refine PC_of_PW Tryz.func19 rfl rfl (rs := _) rfl (Nat.le_of_ble_eq_true (by kernel_rfl)) ?_
      (repeat' (first|(first|((first|refine qA ?_|refine qB ?_|refine xN ?_|refine xE ?_|refine xT ?_); try show PW _ _ _ _ _ _)|refine ro1 tabOk rfl rfl ?_|refine ro2 tabOk rfl rfl ?_|refine ro3 tabOk rfl rfl ?_|(apply oR rfl rfl; (focus (first|exact cqP hc|exact cJ|exact mG|exact bT|exact nD)))|refine xS ?_|refine xR ?_|refine xB ?_|refine xt rfl ?_|refine xf rfl ?_)|(refine POps_split rfl rfl (fun h => ?_) (fun h => ?_) <;> fail_if_success (first|(have : true = true := h)|(have : false = false := h)))|refine PW_cond rfl (fun h => ?_) (fun h => ?_)))
      all_goals (first | (exfalso; (try simp only [fX] at *); first | done | omega) | (exfalso; simp at h; done) | (exfalso; simp_all; done) | ((first|refine Ret_int (vC vT vN) rfl ?_|refine Ret_bool (vC vT vN) rfl ?_|refine Ret_g (vC vT vN) rfl ?_); rfl))
  · rw [if_neg h3]
    by_cases h4 : k = 4 ∧ k' = 4
    · obtain ⟨rfl, rfl⟩ := h4
      rw [if_pos ⟨rfl, rfl⟩]
      cases hb : Op.bytesLess t.toList t'.toList with
      | true =>
        refine PC_of_PW Tryz.func19 rfl rfl (rs := _) rfl (Nat.le_of_ble_eq_true (by kernel_rfl)) ?_
        (repeat' (first|(first|((first|refine qA ?_|refine qB ?_|refine xN ?_|refine xE ?_|refine xT ?_); try show PW _ _ _ _ _ _)|refine ro1 tabOk rfl rfl ?_|refine ro2 tabOk rfl rfl ?_|refine ro3 tabOk rfl rfl ?_|(apply oR rfl rfl; (focus (first|exact cJ|exact mG|exact bT|exact nD)))|refine xS ?_|refine xR ?_|refine xB ?_|refine xt rfl ?_|refine xf rfl ?_)|(refine POps_split rfl rfl (fun h => ?_) (fun h => ?_) <;> fail_if_success (first|(have : true = true := h)|(have : false = false := h)))|refine PW_cond rfl (fun h => ?_) (fun h => ?_)))
        all_goals (first | (exfalso; simp_all; done) | ((first|refine Ret_int (vC vT vN) rfl ?_|refine Ret_bool (vC vT vN) rfl ?_|refine Ret_g (vC vT vN) rfl ?_); rfl))
      | false =>
        refine PC_of_PW Tryz.func19 rfl rfl (rs := _) rfl (Nat.le_of_ble_eq_true (by kernel_rfl)) ?_
        (repeat' (first|(first|((first|refine qA ?_|refine qB ?_|refine xN ?_|refine xE ?_|refine xT ?_); try show PW _ _ _ _ _ _)|refine ro1 tabOk rfl rfl ?_|refine ro2 tabOk rfl rfl ?_|refine ro3 tabOk rfl rfl ?_|(apply oR rfl rfl; (focus (first|exact cJ|exact mG|exact bT|exact nD)))|refine xS ?_|refine xR ?_|refine xB ?_|refine xt rfl ?_|refine xf rfl ?_)|(refine POps_split rfl rfl (fun h => ?_) (fun h => ?_) <;> fail_if_success (first|(have : true = true := h)|(have : false = false := h)))|refine PW_cond rfl (fun h => ?_) (fun h => ?_)))
        all_goals (first | (exfalso; simp_all; done) | ((first|refine Ret_int (vC vT vN) rfl ?_|refine Ret_bool (vC vT vN) rfl ?_|refine Ret_g (vC vT vN) rfl ?_); rfl))
    · rw [if_neg h4]
      refine PC_of_PW Tryz.func19 rfl rfl (rs := _) rfl (Nat.le_of_ble_eq_true (by kernel_rfl)) ?_
      (repeat' (first|(first|((first|refine qA ?_|refine qB ?_|refine xN ?_|refine xE ?_|refine xT ?_); try show PW _ _ _ _ _ _)|refine ro1 tabOk rfl rfl ?_|refine ro2 tabOk rfl rfl ?_|refine ro3 tabOk rfl rfl ?_|(apply oR rfl rfl; (focus (first|exact cJ|exact mG|exact bT|exact nD)))|refine xU [3] rfl ?_|refine xR ?_|refine xB ?_|refine xt rfl ?_|refine xf rfl ?_)|(refine POps_split rfl rfl (fun h => ?_) (fun h => ?_) <;> fail_if_success (first|(have : true = true := h)|(have : false = false := h)))|refine PW_cond rfl (fun h => ?_) (fun h => ?_)))
      all_goals (first | ((first|refine Ret_int (vC vT vN) rfl ?_|refine Ret_bool (vC vT vN) rfl ?_|refine Ret_g (vC vT vN) rfl ?_); rfl) | (exfalso; (try simp only [fX] at *); first | done | omega) | (exfalso; simp at h; done) | (exfalso; simp_all; done))
end Go.Proofs.YtdicineiaifahaaGreatDoor


namespace Go.Proofs.YtdicineiaifahaaGreatDoor
open Go Go.Pure
attribute [local irreducible] PW POps POpsD PO PC Cond

theorem tw_addMul (args : Array Value) (w : World) : (callFunc 101 args).run Tryz.prog w = .ok (.enter 47 args) w :=
  run_callFunc_twin (twin := Tryz.f47.name) Tryz.func101 (by kernel_rfl) (by kernel_rfl) (by kernel_rfl) (by kernel_rfl) Tryz.func47 (by kernel_rfl) (by kernel_rfl) (by kernel_rfl) args w
theorem tw_mulAdd (args : Array Value) (w : World) : (callFunc 112 args).run Tryz.prog w = .ok (.enter 46 args) w :=
  run_callFunc_twin (twin := Tryz.f46.name) Tryz.func112 (by kernel_rfl) (by kernel_rfl) (by kernel_rfl) (by kernel_rfl) Tryz.func46 (by kernel_rfl) (by kernel_rfl) (by kernel_rfl) args w

theorem putL_zero (ws zs : List Nat) : putL ws 0 zs = zs ++ ws.drop zs.length := by simp [putL]
theorem putL_in {ws zs us : List Nat} {i : Nat} (h : i + us.length ≤ zs.length) : putL (putL ws 0 zs) i us = putL ws 0 (putL zs i us) := by
  rw [putL_zero, putL_zero, putL_length h]
  unfold putL
  rw [List.take_append_of_le_length (by omega), List.drop_append_of_le_length h]
  simp
theorem part_in {ws zs : List Nat} {i n : Nat} (h : i + n ≤ zs.length) : ((putL ws 0 zs).drop i).take n = (zs.drop i).take n := by
  rw [putL_zero, List.drop_append_of_le_length (by omega), List.take_append_of_le_length (by simp; omega)]
theorem putL0_ok {ws zs : List Nat} (h1 : okW ws) (h2 : okW zs) : okW (putL ws 0 zs) := putL_ok 0 h1 h2

set_option maxRecDepth 100000 in
set_option maxHeartbeats 4000000 in
theorem basicMul_pc {g cap : Nat} {ws xs ys : List Nat} (hws : okW ws) (hx : okW xs) (hy : okW ys) (hn : (wsG xs).length + (wsG ys).length ≤ ws.length) (hcap : (wsG xs).length + (wsG ys).length ≤ cap) (hm : (wsG xs).length + (wsG ys).length ≤ 100000) (hx1 : 1 ≤ (wsG xs).length) :
    PC Tryz.prog 79 [.vw 0 g 0 ((wsG xs).length + (wsG ys).length) cap, .g (.sl (wsG xs)), .g (.sl (wsG ys))] ⟨[], [], [AR g ws]⟩ (.tuple []) ⟨[], [], [AR g (putL ws 0 (padD ((wsG xs).length + (wsG ys).length) (val xs * val ys)))]⟩ := by
  have hnx : (wsG xs).length = xs.length := wsG_length xs
  have hny : (wsG ys).length = ys.length := wsG_length ys
  have hadd : IntKind.i64.wrap (((wsG xs).length : Int) + ((wsG ys).length : Int)) = (((wsG xs).length + (wsG ys).length : Nat) : Int) := by rw [w64 (by omega)]; omega
  have hclr : putAt (wsG ws) 0 (List.replicate ((wsG xs).length + (wsG ys).length) (constG (.int .u64 0))) = wsG (putL ws 0 (List.replicate ((wsG xs).length + (wsG ys).length) 0)) := by
    unfold putAt putL wsG
    simp [wG, constG]
  refine PC_of_PW Tryz.func79 rfl rfl (rs := _) rfl (Nat.le_of_ble_eq_true (by kernel_rfl)) ?_
  (repeat (first|((first|refine qA ?_|refine qB ?_|refine xN ?_|refine xE ?_|refine xT ?_); try show PW _ _ _ _ _ _)|refine ro1 tabOk rfl rfl ?_|refine ro2 tabOk rfl rfl ?_|refine ro3 tabOk rfl rfl ?_|refine rd1 tabOk rfl rfl ?_|refine rd2 tabOk rfl rfl ?_|refine rd3 tabOk rfl rfl ?_|((first|apply oR rfl rfl|(apply dF rfl rfl rfl; intro _)|(apply dP rfl rfl rfl; intro _)|(apply dL rfl rfl rfl; intro _)|apply dC rfl rfl rfl rfl); (focus (first|exact PO_vlen rfl (EL rfl) rfl|exact vcut ((wsG xs).length + (wsG ys).length) rfl (EL rfl) (SZ rfl) rfl rfl rfl rfl hadd hcap|exact PO_asH (PO_vclear rfl (EL rfl) (ZR rfl) rfl (SZ rfl) rfl rfl (by rw [wsG_length ws]; omega)) (congrArg (fun l => (⟨[], [], [MO.arr g WT l]⟩ : PH)) hclr)|exact cJ|exact mG|exact bT|exact nD)); try exact kQ)|refine xS ?_|refine xR ?_|refine qxa rfl rfl mixed ?_|refine qxb rfl rfl mixed ?_|refine qxi rfl rfl rfl rfl rfl mixed ?_|refine qxc rfl rfl mixed ?_|refine qxd rfl rfl mixed ?_|refine xB ?_|refine xt rfl ?_|refine xf rfl ?_))
  refine PW_loop (S := Nat × List Nat) (fun s => slots [(0, .vw 0 g 0 ((wsG xs).length + (wsG ys).length) cap), (1, .g (.sl (wsG xs))), (15, .g (.sl (wsG ys))), (16, .g (.int .i64 ((wsG ys).length : Nat))), (17, .g (.int .i64 s.1))]) (fun s => ⟨[], [], [AR g (putL ws 0 s.2)]⟩) (fun s => s.1 ≤ (wsG ys).length ∧ MulInv xs ys s.2 s.1) (fun s => (wsG ys).length - s.1) (0, List.replicate ((wsG xs).length + (wsG ys).length) 0) ⟨Nat.zero_le _, by have h := MulInv.start xs ys; rw [show xs.length + ys.length = (wsG xs).length + (wsG ys).length by omega] at h; exact h⟩
    (SlotsOk.le ?_) (HLe.of_eq ?_) (fun s hs => ?_)
  · exact ⟨.inl rfl, .inl rfl, .inl rfl, .inl rfl, .inl rfl, trivial⟩
  · rfl
  obtain ⟨i, zs⟩ := s
  obtain ⟨hi, hI⟩ := hs
  simp only at hi hI
  have hzl := hI.len
  (repeat (first|((first|refine qA ?_|refine qB ?_|refine xN ?_|refine xE ?_|refine xT ?_); try show PW _ _ _ _ _ _)|refine ro1 tabOk rfl rfl ?_|refine ro2 tabOk rfl rfl ?_|refine ro3 tabOk rfl rfl ?_|refine rd1 tabOk rfl rfl ?_|refine rd2 tabOk rfl rfl ?_|refine rd3 tabOk rfl rfl ?_|((first|apply oR rfl rfl|(apply dF rfl rfl rfl; intro _)|(apply dP rfl rfl rfl; intro _)|(apply dL rfl rfl rfl; intro _)|apply dC rfl rfl rfl rfl); (focus (first|exact cJ|exact mG|exact bT|exact nD)); try exact kQ)|refine xS ?_|refine xR ?_|refine qxa rfl rfl mixed ?_|refine qxb rfl rfl mixed ?_|refine qxi rfl rfl rfl rfl rfl mixed ?_|refine qxc rfl rfl mixed ?_|refine qxd rfl rfl mixed ?_|refine xB ?_|refine xt rfl ?_|refine xf rfl ?_))
  (first|refine POps_split rfl rfl (fun h => ?_) (fun h => ?_)|refine POpsD_split rfl rfl (fun h => ?_) (fun h => ?_)|refine PW_cond rfl (fun h => ?_) (fun h => ?_))
  · have hlt : i < (wsG ys).length := by have := of_decide_eq_true h; omega
    have hyi : ys[i]? = some (ys[i]'(by omega)) := List.getElem?_eq_getElem (by omega)
    generalize ys[i]'(by omega) = d at hyi
    have hg : (wsG ys)[(i : Int).toNat]? = some (wG d) := wsG_get hyi
    have hd : d < WB := hy.at hyi
    clear h
    (repeat (first|((first|refine qA ?_|refine qB ?_|refine xN ?_|refine xE ?_|refine xT ?_); try show PW _ _ _ _ _ _)|refine ro1 tabOk rfl rfl ?_|refine ro2 tabOk rfl rfl ?_|refine ro3 tabOk rfl rfl ?_|refine rd1 tabOk rfl rfl ?_|refine rd2 tabOk rfl rfl ?_|refine rd3 tabOk rfl rfl ?_|((first|apply oR rfl rfl|(apply dF rfl rfl rfl; intro _)|(apply dP rfl rfl rfl; intro _)|(apply dL rfl rfl rfl; intro _)|apply dC rfl rfl rfl rfl); (focus (first|exact iA rfl (EL rfl) (SZ rfl) rfl rfl (Int.natCast_nonneg _) hg rfl|exact cJ|exact mG|exact bT|exact nD)); try exact kQ)|refine xS ?_|refine xR ?_|refine qxa rfl rfl mixed ?_|refine qxb rfl rfl mixed ?_|refine qxi rfl rfl rfl rfl rfl mixed ?_|refine qxc rfl rfl mixed ?_|refine qxd rfl rfl mixed ?_|refine xB ?_|refine xt rfl ?_|refine xf rfl ?_))
    (first|refine POps_split rfl rfl (fun h => ?_) (fun h => ?_)|refine POpsD_split rfl rfl (fun h => ?_) (fun h => ?_)|refine PW_cond rfl (fun h => ?_) (fun h => ?_))
    · have hd0 : d ≠ 0 := fun e => by subst e; simp at h
      have hstep := hI.step hx hyi hd
      have hpl : ((zs.drop i).take xs.length).length = xs.length := by simp; omega
      have hul : (addMulW ((zs.drop i).take xs.length) xs d 0).length = xs.length := by rw [addMulW_length hpl, hpl]
      have hcall := addMulV_pc (g := g) (o := i) (n := (wsG xs).length) (cap := cap - i) (cap' := cap - i) (ws := putL ws 0 zs) (xs := (zs.drop i).take xs.length) (ys := xs) (m := d) (a := 0) (putL0_ok hws hI.ok) (by rw [hnx]; exact part_in (by omega)) hx hnx.symm (by unfold maxLen; omega) hd (by decide) (by rw [putL_zero]; simp; omega)
      have hsum : IntKind.i64.wrap ((i : Int) + ((wsG xs).length : Int)) = ((i + (wsG xs).length : Nat) : Int) := by rw [w64 (by omega)]; omega
      have hsum2 : IntKind.i64.wrap (((wsG xs).length : Int) + (i : Int)) = (((wsG xs).length + i : Nat) : Int) := by rw [w64 (by omega)]; omega
      have hset : putL (putL ws 0 zs) i (addMulW ((zs.drop i).take xs.length) xs d 0 ++ [addMulC ((zs.drop i).take xs.length) xs d 0]) = putL ws 0 (rowW zs xs i d) := putL_in (by rw [List.length_append, hul]; simp; omega)
      have hz : (wsG (putL (putL ws 0 zs) i (addMulW ((zs.drop i).take xs.length) xs d 0)))[0 + ((wsG xs).length + i)]? = some (wG ((putL (putL ws 0 zs) i (addMulW ((zs.drop i).take xs.length) xs d 0))[(wsG xs).length + i]'(by rw [putL_length (by rw [hul, putL_zero]; simp; omega), putL_zero]; simp; omega))) := wsG_get (by rw [Nat.zero_add]; exact List.getElem?_eq_getElem _)
      generalize (putL (putL ws 0 zs) i (addMulW ((zs.drop i).take xs.length) xs d 0))[(wsG xs).length + i]'(by rw [putL_length (by rw [hul, putL_zero]; simp; omega), putL_zero]; simp; omega) = q at hz
      clear h
      (repeat (first|((first|refine qA ?_|refine qB ?_|refine xN ?_|refine xE ?_|refine xT ?_); try show PW _ _ _ _ _ _)|refine ro1 tabOk rfl rfl ?_|refine ro2 tabOk rfl rfl ?_|refine ro3 tabOk rfl rfl ?_|refine rd1 tabOk rfl rfl ?_|refine rd2 tabOk rfl rfl ?_|refine rd3 tabOk rfl rfl ?_|(apply dR rfl rfl; focus (first|exact Cond_mstore rfl (SZ rfl) rfl rfl rfl rfl (by decide) rfl hz (Nat.le_refl _)))|((first|apply oR rfl rfl|(apply dF rfl rfl rfl; intro _)|(apply dP rfl rfl rfl; intro _)|(apply dL rfl rfl rfl; intro _)|apply dC rfl rfl rfl rfl); (focus (first|exact PO_vlen rfl (EL rfl) rfl|exact PO_as (vmid i (i + (wsG xs).length) rfl (EL rfl) (SZ rfl) rfl rfl rfl rfl hsum (by omega) (by omega) (by omega)) (show _ = PV.vw 0 g i ((wsG xs).length) (cap - i) by rw [Nat.zero_add, Nat.add_sub_cancel_left])|exact ct [] rfl rfl tw_addMul (hcall) rfl rfl rfl rfl rfl rfl rfl rfl rfl rfl rfl|exact PO_vindex ((wsG xs).length + i) rfl (EL rfl) (SZ rfl) rfl rfl hsum2 (by omega)|exact cJ|exact mG|exact bT|exact nD)); try exact kQ)|refine xS ?_|refine xR ?_|refine qxa rfl rfl mixed ?_|refine qxb rfl rfl mixed ?_|refine qxi rfl rfl rfl rfl rfl mixed ?_|refine qxc rfl rfl mixed ?_|refine qxd rfl rfl mixed ?_|refine xB ?_|refine xt rfl ?_|refine xf rfl ?_))
      exact ⟨(i + 1, rowW zs xs i d), ⟨hlt, hstep⟩, by simp only; omega, SlotsOk.le ⟨.inl rfl, .inl rfl, .inl rfl, .inl rfl, .inl (congrArg (fun k => PV.g (.int .i64 k)) (w64 (by simp only; omega))), trivial⟩,
        HLe.of_eq (by
          rw [← hset, ← set_putL hul (by rw [putL_zero]; simp; omega), show i + xs.length = 0 + ((wsG xs).length + i) by omega]
          exact congrArg (fun l => (⟨[], [], [MO.arr g WT l]⟩ : PH)) wsG_set)⟩
    · have hd0 : d = 0 := by have := h; simp at this; omega
      subst hd0
      clear h
      (repeat (first|((first|refine qA ?_|refine qB ?_|refine xN ?_|refine xE ?_|refine xT ?_); try show PW _ _ _ _ _ _)|refine ro1 tabOk rfl rfl ?_|refine ro2 tabOk rfl rfl ?_|refine ro3 tabOk rfl rfl ?_|refine rd1 tabOk rfl rfl ?_|refine rd2 tabOk rfl rfl ?_|refine rd3 tabOk rfl rfl ?_|((first|apply oR rfl rfl|(apply dF rfl rfl rfl; intro _)|(apply dP rfl rfl rfl; intro _)|(apply dL rfl rfl rfl; intro _)|apply dC rfl rfl rfl rfl); (focus (first|exact cJ|exact mG|exact bT|exact nD)); try exact kQ)|refine xS ?_|refine xR ?_|refine qxa rfl rfl mixed ?_|refine qxb rfl rfl mixed ?_|refine qxi rfl rfl rfl rfl rfl mixed ?_|refine qxc rfl rfl mixed ?_|refine qxd rfl rfl mixed ?_|refine xB ?_|refine xt rfl ?_|refine xf rfl ?_))
      exact ⟨(i + 1, zs), ⟨hlt, hI.skip hyi⟩, by simp only; omega, SlotsOk.le ⟨.inl rfl, .inl rfl, .inl rfl, .inl rfl, .inl (congrArg (fun k => PV.g (.int .i64 k)) (w64 (by simp only; omega))), trivial⟩, HLe.of_eq rfl⟩
  · have hi' : i = (wsG ys).length := by have := of_decide_eq_false h; omega
    have hpad := hI.pad
    rw [hi', List.take_of_length_le (by omega), show xs.length + ys.length = (wsG xs).length + (wsG ys).length by omega] at hpad
    rw [← hpad]
    (repeat (first|((first|refine qA ?_|refine qB ?_|refine xN ?_|refine xE ?_|refine xT ?_); try show PW _ _ _ _ _ _)|refine ro1 tabOk rfl rfl ?_|refine ro2 tabOk rfl rfl ?_|refine ro3 tabOk rfl rfl ?_|refine rd1 tabOk rfl rfl ?_|refine rd2 tabOk rfl rfl ?_|refine rd3 tabOk rfl rfl ?_|((first|apply oR rfl rfl|(apply dF rfl rfl rfl; intro _)|(apply dP rfl rfl rfl; intro _)|(apply dL rfl rfl rfl; intro _)|apply dC rfl rfl rfl rfl); (focus (first|exact cJ|exact mG|exact bT|exact nD)); try exact kQ)|refine xS ?_|refine xR ?_|refine qxa rfl rfl mixed ?_|refine qxb rfl rfl mixed ?_|refine qxi rfl rfl rfl rfl rfl mixed ?_|refine qxc rfl rfl mixed ?_|refine qxd rfl rfl mixed ?_|refine xB ?_|refine xt rfl ?_|refine xf rfl ?_))
    (first|refine Ret_box wN rfl rfl rfl rfl rfl rfl rfl rfl rfl ?_ ?_ ?_ rfl)
    all_goals rfl

set_option maxRecDepth 100000 in
set_option maxHeartbeats 4000000 in
theorem basicMul_vpc {g cap g1 nx c1 : Nat} {ws ws1 xs : List Nat} (hv1 : (ws1.drop 0).take nx = xs) (hl1 : nx ≤ ws1.length) (hws : okW ws) (hx : okW xs) (hn : nx + nx ≤ ws.length) (hcap : nx + nx ≤ cap) (hm : nx + nx ≤ 100000) (hx1 : 1 ≤ nx) :
    PC Tryz.prog 79 [.vw 0 g 0 (nx + nx) cap, .vw 1 g1 0 nx c1, .vw 1 g1 0 nx c1] ⟨[], [], [AR g ws, AR g1 ws1]⟩ (.tuple []) ⟨[], [], [AR g (putL ws 0 (padD (nx + nx) (val xs * val xs))), AR g1 ws1]⟩ := by
  have hnx : nx = xs.length := by rw [← hv1]; simp; omega
  have hny : nx = xs.length := by rw [← hv1]; simp; omega
  have hadd : IntKind.i64.wrap ((nx : Int) + (nx : Int)) = ((nx + nx : Nat) : Int) := by rw [w64 (by omega)]; omega
  have hclr : putAt (wsG ws) 0 (List.replicate (nx + nx) (constG (.int .u64 0))) = wsG (putL ws 0 (List.replicate (nx + nx) 0)) := by
    unfold putAt putL wsG
    simp [wG, constG]
  refine PC_of_PW Tryz.func79 rfl rfl (rs := _) rfl (Nat.le_of_ble_eq_true (by kernel_rfl)) ?_
  (repeat (first|((first|refine qA ?_|refine qB ?_|refine xN ?_|refine xE ?_|refine xT ?_); try show PW _ _ _ _ _ _)|refine ro1 tabOk rfl rfl ?_|refine ro2 tabOk rfl rfl ?_|refine ro3 tabOk rfl rfl ?_|refine rd1 tabOk rfl rfl ?_|refine rd2 tabOk rfl rfl ?_|refine rd3 tabOk rfl rfl ?_|((first|apply oR rfl rfl|(apply dF rfl rfl rfl; intro _)|(apply dP rfl rfl rfl; intro _)|(apply dL rfl rfl rfl; intro _)|apply dC rfl rfl rfl rfl); (focus (first|exact PO_vlen rfl (EL rfl) rfl|exact vcut (nx + nx) rfl (EL rfl) (SZ rfl) rfl rfl rfl rfl hadd hcap|exact PO_asH (PO_vclear rfl (EL rfl) (ZR rfl) rfl (SZ rfl) rfl rfl (by rw [wsG_length ws]; omega)) (congrArg (fun l => (⟨[], [], [MO.arr g WT l, AR g1 ws1]⟩ : PH)) hclr)|exact cJ|exact mG|exact bT|exact nD)); try exact kQ)|refine xS ?_|refine xR ?_|refine qxa rfl rfl mixed ?_|refine qxb rfl rfl mixed ?_|refine qxi rfl rfl rfl rfl rfl mixed ?_|refine qxc rfl rfl mixed ?_|refine qxd rfl rfl mixed ?_|refine xB ?_|refine xt rfl ?_|refine xf rfl ?_))
  refine PW_loop (S := Nat × List Nat) (fun s => slots [(0, .vw 0 g 0 (nx + nx) cap), (1, .vw 1 g1 0 nx c1), (15, .vw 1 g1 0 nx c1), (16, .g (.int .i64 (nx : Nat))), (17, .g (.int .i64 s.1))]) (fun s => ⟨[], [], [AR g (putL ws 0 s.2), AR g1 ws1]⟩) (fun s => s.1 ≤ nx ∧ MulInv xs xs s.2 s.1) (fun s => nx - s.1) (0, List.replicate (nx + nx) 0) ⟨Nat.zero_le _, by have h := MulInv.start xs xs; rw [show xs.length + xs.length = nx + nx by omega] at h; exact h⟩
    (SlotsOk.le ?_) (HLe.of_eq ?_) (fun s hs => ?_)
  · exact ⟨.inl rfl, .inl rfl, .inl rfl, .inl rfl, .inl rfl, trivial⟩
  · rfl
  obtain ⟨i, zs⟩ := s
  obtain ⟨hi, hI⟩ := hs
  simp only at hi hI
  have hzl := hI.len
  (repeat (first|((first|refine qA ?_|refine qB ?_|refine xN ?_|refine xE ?_|refine xT ?_); try show PW _ _ _ _ _ _)|refine ro1 tabOk rfl rfl ?_|refine ro2 tabOk rfl rfl ?_|refine ro3 tabOk rfl rfl ?_|refine rd1 tabOk rfl rfl ?_|refine rd2 tabOk rfl rfl ?_|refine rd3 tabOk rfl rfl ?_|((first|apply oR rfl rfl|(apply dF rfl rfl rfl; intro _)|(apply dP rfl rfl rfl; intro _)|(apply dL rfl rfl rfl; intro _)|apply dC rfl rfl rfl rfl); (focus (first|exact cJ|exact mG|exact bT|exact nD)); try exact kQ)|refine xS ?_|refine xR ?_|refine qxa rfl rfl mixed ?_|refine qxb rfl rfl mixed ?_|refine qxi rfl rfl rfl rfl rfl mixed ?_|refine qxc rfl rfl mixed ?_|refine qxd rfl rfl mixed ?_|refine xB ?_|refine xt rfl ?_|refine xf rfl ?_))
  (first|refine POps_split rfl rfl (fun h => ?_) (fun h => ?_)|refine POpsD_split rfl rfl (fun h => ?_) (fun h => ?_)|refine PW_cond rfl (fun h => ?_) (fun h => ?_))
  · have hlt : i < nx := by have := of_decide_eq_true h; omega
    have hyi : xs[i]? = some (xs[i]'(by omega)) := List.getElem?_eq_getElem (by omega)
    generalize xs[i]'(by omega) = d at hyi
    have hg : (wsG ws1)[0 + i]? = some (wG d) := wsG_get (by rw [← hv1, List.getElem?_take, if_pos hlt, List.getElem?_drop] at hyi; exact hyi)
    have hd : d < WB := hx.at hyi
    clear h
    (repeat (first|((first|refine qA ?_|refine qB ?_|refine xN ?_|refine xE ?_|refine xT ?_); try show PW _ _ _ _ _ _)|refine ro1 tabOk rfl rfl ?_|refine ro2 tabOk rfl rfl ?_|refine ro3 tabOk rfl rfl ?_|refine rd1 tabOk rfl rfl ?_|refine rd2 tabOk rfl rfl ?_|refine rd3 tabOk rfl rfl ?_|((first|apply oR rfl rfl|(apply dF rfl rfl rfl; intro _)|(apply dP rfl rfl rfl; intro _)|(apply dL rfl rfl rfl; intro _)|apply dC rfl rfl rfl rfl); (focus (first|exact PO_vindex i rfl (EL rfl) (SZ rfl) rfl rfl rfl hlt|exact PO_load_mref_one rfl (AG rfl) rfl rfl hg rfl|exact cJ|exact mG|exact bT|exact nD)); try exact kQ)|refine xS ?_|refine xR ?_|refine qxa rfl rfl mixed ?_|refine qxb rfl rfl mixed ?_|refine qxi rfl rfl rfl rfl rfl mixed ?_|refine qxc rfl rfl mixed ?_|refine qxd rfl rfl mixed ?_|refine xB ?_|refine xt rfl ?_|refine xf rfl ?_))
    (first|refine POps_split rfl rfl (fun h => ?_) (fun h => ?_)|refine POpsD_split rfl rfl (fun h => ?_) (fun h => ?_)|refine PW_cond rfl (fun h => ?_) (fun h => ?_))
    · have hd0 : d ≠ 0 := fun e => by subst e; simp at h
      have hstep := hI.step hx hyi hd
      have hpl : ((zs.drop i).take xs.length).length = xs.length := by simp; omega
      have hul : (addMulW ((zs.drop i).take xs.length) xs d 0).length = xs.length := by rw [addMulW_length hpl, hpl]
      have hcall := addMulV_vpc (g := g) (o := i) (n := nx) (cap := cap - i) (cap' := cap - i) (g1 := g1) (o1 := 0) (c1 := c1) (ws := putL ws 0 zs) (xs := (zs.drop i).take xs.length) (ys := xs) (ws1 := ws1) (m := d) (a := 0) hv1 (putL0_ok hws hI.ok) (by rw [hnx]; exact part_in (by omega)) hx hnx.symm (by unfold maxLen; omega) hd (by decide) (by rw [putL_zero]; simp; omega)
      have hsum : IntKind.i64.wrap ((i : Int) + (nx : Int)) = ((i + nx : Nat) : Int) := by rw [w64 (by omega)]; omega
      have hsum2 : IntKind.i64.wrap ((nx : Int) + (i : Int)) = ((nx + i : Nat) : Int) := by rw [w64 (by omega)]; omega
      have hset : putL (putL ws 0 zs) i (addMulW ((zs.drop i).take xs.length) xs d 0 ++ [addMulC ((zs.drop i).take xs.length) xs d 0]) = putL ws 0 (rowW zs xs i d) := putL_in (by rw [List.length_append, hul]; simp; omega)
      have hz : (wsG (putL (putL ws 0 zs) i (addMulW ((zs.drop i).take xs.length) xs d 0)))[0 + (nx + i)]? = some (wG ((putL (putL ws 0 zs) i (addMulW ((zs.drop i).take xs.length) xs d 0))[nx + i]'(by rw [putL_length (by rw [hul, putL_zero]; simp; omega), putL_zero]; simp; omega))) := wsG_get (by rw [Nat.zero_add]; exact List.getElem?_eq_getElem _)
      generalize (putL (putL ws 0 zs) i (addMulW ((zs.drop i).take xs.length) xs d 0))[nx + i]'(by rw [putL_length (by rw [hul, putL_zero]; simp; omega), putL_zero]; simp; omega) = q at hz
      clear h
      (repeat (first|((first|refine qA ?_|refine qB ?_|refine xN ?_|refine xE ?_|refine xT ?_); try show PW _ _ _ _ _ _)|refine ro1 tabOk rfl rfl ?_|refine ro2 tabOk rfl rfl ?_|refine ro3 tabOk rfl rfl ?_|refine rd1 tabOk rfl rfl ?_|refine rd2 tabOk rfl rfl ?_|refine rd3 tabOk rfl rfl ?_|(apply dR rfl rfl; focus (first|exact Cond_mstore rfl (SZ rfl) rfl rfl rfl rfl (by decide) rfl hz (Nat.le_refl _)))|((first|apply oR rfl rfl|(apply dF rfl rfl rfl; intro _)|(apply dP rfl rfl rfl; intro _)|(apply dL rfl rfl rfl; intro _)|apply dC rfl rfl rfl rfl); (focus (first|exact PO_vlen rfl (EL rfl) rfl|exact PO_as (vmid i (i + nx) rfl (EL rfl) (SZ rfl) rfl rfl rfl rfl hsum (by omega) (by omega) (by omega)) (show _ = PV.vw 0 g i (nx) (cap - i) by rw [Nat.zero_add, Nat.add_sub_cancel_left])|exact ct [] rfl rfl tw_addMul (hcall) rfl rfl rfl rfl rfl rfl rfl rfl rfl rfl rfl|exact PO_vindex (nx + i) rfl (EL rfl) (SZ rfl) rfl rfl hsum2 (by omega)|exact cJ|exact mG|exact bT|exact nD)); try exact kQ)|refine xS ?_|refine xR ?_|refine qxa rfl rfl mixed ?_|refine qxb rfl rfl mixed ?_|refine qxi rfl rfl rfl rfl rfl mixed ?_|refine qxc rfl rfl mixed ?_|refine qxd rfl rfl mixed ?_|refine xB ?_|refine xt rfl ?_|refine xf rfl ?_))
      exact ⟨(i + 1, rowW zs xs i d), ⟨hlt, hstep⟩, by simp only; omega, SlotsOk.le ⟨.inl rfl, .inl rfl, .inl rfl, .inl rfl, .inl (congrArg (fun k => PV.g (.int .i64 k)) (w64 (by simp only; omega))), trivial⟩,
        HLe.of_eq (by
          rw [← hset, ← set_putL hul (by rw [putL_zero]; simp; omega), show i + xs.length = 0 + (nx + i) by omega]
          exact congrArg (fun l => (⟨[], [], [MO.arr g WT l, AR g1 ws1]⟩ : PH)) wsG_set)⟩
    · have hd0 : d = 0 := by have := h; simp at this; omega
      subst hd0
      clear h
      (repeat (first|((first|refine qA ?_|refine qB ?_|refine xN ?_|refine xE ?_|refine xT ?_); try show PW _ _ _ _ _ _)|refine ro1 tabOk rfl rfl ?_|refine ro2 tabOk rfl rfl ?_|refine ro3 tabOk rfl rfl ?_|refine rd1 tabOk rfl rfl ?_|refine rd2 tabOk rfl rfl ?_|refine rd3 tabOk rfl rfl ?_|((first|apply oR rfl rfl|(apply dF rfl rfl rfl; intro _)|(apply dP rfl rfl rfl; intro _)|(apply dL rfl rfl rfl; intro _)|apply dC rfl rfl rfl rfl); (focus (first|exact cJ|exact mG|exact bT|exact nD)); try exact kQ)|refine xS ?_|refine xR ?_|refine qxa rfl rfl mixed ?_|refine qxb rfl rfl mixed ?_|refine qxi rfl rfl rfl rfl rfl mixed ?_|refine qxc rfl rfl mixed ?_|refine qxd rfl rfl mixed ?_|refine xB ?_|refine xt rfl ?_|refine xf rfl ?_))
      exact ⟨(i + 1, zs), ⟨hlt, hI.skip hyi⟩, by simp only; omega, SlotsOk.le ⟨.inl rfl, .inl rfl, .inl rfl, .inl rfl, .inl (congrArg (fun k => PV.g (.int .i64 k)) (w64 (by simp only; omega))), trivial⟩, HLe.of_eq rfl⟩
  · have hi' : i = nx := by have := of_decide_eq_false h; omega
    have hpad := hI.pad
    rw [hi', List.take_of_length_le (by omega), show xs.length + xs.length = nx + nx by omega] at hpad
    rw [← hpad]
    (repeat (first|((first|refine qA ?_|refine qB ?_|refine xN ?_|refine xE ?_|refine xT ?_); try show PW _ _ _ _ _ _)|refine ro1 tabOk rfl rfl ?_|refine ro2 tabOk rfl rfl ?_|refine ro3 tabOk rfl rfl ?_|refine rd1 tabOk rfl rfl ?_|refine rd2 tabOk rfl rfl ?_|refine rd3 tabOk rfl rfl ?_|((first|apply oR rfl rfl|(apply dF rfl rfl rfl; intro _)|(apply dP rfl rfl rfl; intro _)|(apply dL rfl rfl rfl; intro _)|apply dC rfl rfl rfl rfl); (focus (first|exact cJ|exact mG|exact bT|exact nD)); try exact kQ)|refine xS ?_|refine xR ?_|refine qxa rfl rfl mixed ?_|refine qxb rfl rfl mixed ?_|refine qxi rfl rfl rfl rfl rfl mixed ?_|refine qxc rfl rfl mixed ?_|refine qxd rfl rfl mixed ?_|refine xB ?_|refine xt rfl ?_|refine xf rfl ?_))
    (first|refine Ret_box wN rfl rfl rfl rfl rfl rfl rfl rfl rfl ?_ ?_ ?_ rfl)
    all_goals rfl
end Go.Proofs.YtdicineiaifahaaGreatDoor


namespace Go.Proofs.YtdicineiaifahaaGreatDoor
open Go Go.Pure
attribute [local irreducible] PW POps POpsD PO PC Cond

theorem prod_lt {xs ys : List Nat} (hx : okW xs) (hy : okW ys) : val xs * val ys < WB ^ (xs.length + ys.length) := by
  have h1 := val_lt hx
  have h2 := val_lt hy
  rw [Nat.pow_add]
  exact Nat.mul_lt_mul'' h1 h2
theorem mulAdd_pad {xs : List Nat} {y : Nat} (hx : okW xs) (hy : y < WB) : mulAddW xs y 0 ++ [mulAddC xs y 0] = padD (xs.length + 1) (val xs * y) := by
  have hok : okW (mulAddW xs y 0 ++ [mulAddC xs y 0]) := okW_append.2 ⟨mulAddW_ok _ _ _, okW_cons.2 ⟨mulAddC_lt hx hy (by decide), okW_nil⟩⟩
  have h := padD_val hok
  rw [List.length_append, mulAddW_length, val_append, mulAddW_length] at h
  have hv := mulAdd_val xs y 0
  simp only [val, Nat.mul_zero, Nat.add_zero, List.length_cons, List.length_nil] at h hv
  rw [hv] at h
  simpa using h.symm
theorem part0 {ws us : List Nat} {k : Nat} (h : us.length = k) : ((putL ws 0 us).drop 0).take k = us := by
  rw [List.drop_zero, putL_zero, List.take_append_of_le_length (by omega), List.take_of_length_le (by omega)]
theorem padD_two {d : Nat} (hd : d < WB) : padD 2 (d * d) = [d * d % WB, d * d / WB] := by
  have : d * d / WB < WB := by have := word_step hd hd (show 0 < WB by decide); simpa using this
  simp [padD, Nat.mod_eq_of_lt this]
theorem two_of {l : List Nat} (h : 2 ≤ l.length) : ∃ q0 q1 R, l = q0 :: q1 :: R := by
  cases l with
  | nil => simp at h
  | cons a r => cases r with
    | nil => simp at h
    | cons b r => exact ⟨a, b, r, rfl⟩
theorem putL_get0 {ws us : List Nat} {k : Nat} (hl : us.length ≤ k) (h : k < ws.length) : (putL ws 0 us)[k]? = some (ws[k]'h) := by
  rw [putL_get (by omega)]; exact List.getElem?_eq_getElem h

set_option maxRecDepth 100000 in
set_option maxHeartbeats 4000000 in
theorem mulWW_pc {x y : Nat} (hx : x < WB) (hy : y < WB) : PC Tryz.prog 76 [.g (wG x), .g (wG y)] ⟨[], [], []⟩ (.tuple [.g (wG (x * y / WB)), .g (wG (x * y % WB))]) ⟨[], [], []⟩ := by
  have h1 := bmul_pc hx hy
  refine PC_of_PW Tryz.func76 rfl rfl (rs := _) rfl (Nat.le_of_ble_eq_true (by kernel_rfl)) ?_
  (repeat (first|((first|refine qA ?_|refine qB ?_|refine xN ?_|refine xE ?_|refine xT ?_); try show PW _ _ _ _ _ _)|refine ro1 tabOk rfl rfl ?_|refine ro2 tabOk rfl rfl ?_|refine ro3 tabOk rfl rfl ?_|(apply oR rfl rfl; (focus (first|exact cqP h1|exact cJ|exact mG|exact bT|exact nD)))|refine xS ?_|refine xR ?_|refine xB ?_|refine xt rfl ?_|refine xf rfl ?_))
  exact Ret2 (vC vT (vC vT vN)) rfl rfl rfl

set_option maxRecDepth 100000 in
set_option maxHeartbeats 4000000 in
theorem mulAddWW_g {xs : List Nat} {y : Nat} (hx : okW xs) (hy : y < WB) (hy0 : y ≠ 0) (h1 : 1 ≤ (wsG xs).length) (hm : (wsG xs).length ≤ 100000) :
    PC Tryz.prog 84 [.nils, .g (.sl (wsG xs)), .g (wG y), .g (wG 0)] ⟨[], [], []⟩ (.vw 0 0 0 (dig (val xs * y)).length ((wsG xs).length + 1 + 4)) ⟨[], [], [AR 0 (putL (List.replicate ((wsG xs).length + 1 + 4) 0) 0 (padD ((wsG xs).length + 1) (val xs * y)))]⟩ := by
  have hl : (wsG xs).length = xs.length := wsG_length xs
  have hadd : IntKind.i64.wrap (((wsG xs).length : Int) + 1) = (((wsG xs).length + 1 : Nat) : Int) := by rw [w64 (by omega)]; omega
  have hmk := make_nil (n := (wsG xs).length + 1) (by omega) (by omega)
  rw [show capN ((wsG xs).length + 1) = (wsG xs).length + 1 + 4 from by unfold capN; rw [if_neg (by omega)]] at hmk
  rw [← hadd] at hmk
  have hw0 : (wsG xs).length + 1 ≤ ((List.replicate ((wsG xs).length + 1 + 4) 0)).length := by rw [List.length_replicate]; omega
  have hv := mulAddV_pc (g := 0) (o := 0) (n := (wsG xs).length) (cap := (wsG xs).length + 1 + 4) (ws := List.replicate ((wsG xs).length + 1 + 4) 0) (xs := xs) (y := y) (r := 0) hx hl.symm (by unfold maxLen; omega) hy (by decide) (by omega)
  have hpl := padD_length ((wsG xs).length + 1) (val xs * y)
  have hlt : val xs * y < WB ^ ((wsG xs).length + 1) := by
    have := prod_lt hx (okW_cons.2 ⟨hy, okW_nil⟩)
    rw [hl]
    simpa [val] using this
  have hn := norm_pc (g := 0) (o := 0) (n := (wsG xs).length + 1) (cap := (wsG xs).length + 1 + 4) (ws := putL (List.replicate ((wsG xs).length + 1 + 4) 0) 0 (padD ((wsG xs).length + 1) (val xs * y))) (l := padD ((wsG xs).length + 1) (val xs * y)) (part0 hpl) (by rw [putL_length (by omega)]; omega) (by omega) (by unfold maxLen; omega)
  rw [nlen_padD hlt] at hn
  have hfin : (putL (List.replicate ((wsG xs).length + 1 + 4) 0) 0 (mulAddW xs y 0)).set (0 + (wsG xs).length) (mulAddC xs y 0) = putL (List.replicate ((wsG xs).length + 1 + 4) 0) 0 (padD ((wsG xs).length + 1) (val xs * y)) := by
    have := set_putL (ws := (List.replicate ((wsG xs).length + 1 + 4) 0)) (us := mulAddW xs y 0) (off := 0) (n := (wsG xs).length) (w := mulAddC xs y 0) (by rw [mulAddW_length xs y 0]; omega) (by omega)
    rw [this, mulAdd_pad hx hy, ← hl]
  have hz : (wsG (putL (List.replicate ((wsG xs).length + 1 + 4) 0) 0 (mulAddW xs y 0)))[0 + (wsG xs).length]? = some (wG (((List.replicate ((wsG xs).length + 1 + 4) 0))[(wsG xs).length]'(by omega))) := wsG_get (by rw [Nat.zero_add]; exact putL_get0 (ws := (List.replicate ((wsG xs).length + 1 + 4) 0)) (us := mulAddW xs y 0) (by rw [mulAddW_length xs y 0]; omega) _)
  generalize ((List.replicate ((wsG xs).length + 1 + 4) 0))[(wsG xs).length]'(by omega) = q at hz
  refine PC_of_PW Tryz.func84 rfl rfl (rs := _) rfl (Nat.le_of_ble_eq_true (by kernel_rfl)) ?_
  (repeat' (first|(first|((first|refine qA ?_|refine qB ?_|refine xN ?_|refine xE ?_|refine xT ?_); try show PW _ _ _ _ _ _)|refine ro1 tabOk rfl rfl ?_|refine ro2 tabOk rfl rfl ?_|refine ro3 tabOk rfl rfl ?_|(apply oR rfl rfl; (focus (first|exact PO_vlen rfl (EL rfl) rfl|exact cJ|exact mG|exact bT|exact nD)))|refine xU [4] rfl ?_|refine xR ?_|refine xB ?_|refine xt rfl ?_|refine xf rfl ?_)|(refine POps_split rfl rfl (fun h => ?_) (fun h => ?_) <;> fail_if_success (first|(have : true = true := h)|(have : false = false := h)))|refine PW_cond rfl (fun h => ?_) (fun h => ?_)))
  all_goals (try (exfalso; have := of_decide_eq_true h; omega))
  (repeat (first|((first|refine qA ?_|refine qB ?_|refine xN ?_|refine xE ?_|refine xT ?_); try show PW _ _ _ _ _ _)|refine ro1 tabOk rfl rfl ?_|refine ro2 tabOk rfl rfl ?_|refine ro3 tabOk rfl rfl ?_|(apply oR rfl rfl; (focus (first|exact cd [true] rfl rfl (EN rfl) (hmk) rfl rfl rfl rfl rfl rfl rfl rfl rfl rfl rfl|exact vcut (wsG xs).length rfl (EL rfl) (SZ rfl) rfl rfl rfl rfl rfl (by omega)|exact ct [] rfl rfl tw_mulAdd (hv) rfl rfl rfl rfl rfl rfl rfl rfl rfl rfl rfl|exact PO_vindex (wsG xs).length rfl (EL rfl) (SZ rfl) rfl rfl rfl (by omega)|exact cd [] rfl rfl (EN rfl) (hn) rfl rfl rfl rfl rfl rfl rfl rfl rfl rfl rfl|exact PO_asH (PO_store_mref rfl (SZ rfl) rfl rfl rfl rfl (by decide) rfl hz (Nat.le_refl _)) (congrArg (fun l => (⟨[], [], [MO.arr 0 WT l]⟩ : PH)) (wsG_set.trans (congrArg wsG hfin)))|exact cJ|exact mG|exact bT|exact nD)))|refine xS ?_|refine xR ?_|refine xB ?_|refine xt rfl ?_|refine xf rfl ?_))
  (first|refine Ret_box (wC vT wN) rfl rfl rfl rfl rfl rfl rfl rfl rfl ?_ ?_ ?_ rfl)
  all_goals rfl

set_option maxRecDepth 100000 in
set_option maxHeartbeats 4000000 in
theorem mulAddWW_in {gz lz cz g nx c : Nat} {wz ws xs : List Nat} {y : Nat} (hv1 : (ws.drop 0).take nx = xs) (hl1 : nx ≤ ws.length) (hroom : nx + 1 ≤ cz) (hcz : cz ≤ 1000000) (hwz : cz ≤ wz.length) (hx : okW xs) (hy : y < WB) (hy0 : y ≠ 0) (h1 : 1 ≤ nx) (hm : nx ≤ 100000) :
    PC Tryz.prog 84 [.vw 0 gz 0 lz cz, .vw 1 g 0 nx c, .g (wG y), .g (wG 0)] ⟨[], [], [AR gz wz, AR g ws]⟩ (.vw 0 gz 0 (dig (val xs * y)).length (cz)) ⟨[], [], [AR gz (putL wz 0 (padD (nx + 1) (val xs * y))), AR g ws]⟩ := by
  have hl : nx = xs.length := by rw [← hv1]; simp; omega
  have hadd : IntKind.i64.wrap ((nx : Int) + 1) = ((nx + 1 : Nat) : Int) := by rw [w64 (by omega)]; omega
  have hmk := make_in (n := nx + 1) (g := gz) (o := 0) (len := lz) (cap := cz) (m := AR gz wz) hroom
  rw [← hadd] at hmk
  have hw0 : nx + 1 ≤ (wz).length := by omega
  have hv := mulAddV_vpc (g := gz) (o := 0) (n := nx) (cap := cz) (g1 := g) (o1 := 0) (c1 := c) (ws := wz) (xs := xs) (ws1 := ws) (y := y) (r := 0) hv1 hx hl.symm (by unfold maxLen; omega) hy (by decide) (by omega)
  have hpl := padD_length (nx + 1) (val xs * y)
  have hlt : val xs * y < WB ^ (nx + 1) := by
    have := prod_lt hx (okW_cons.2 ⟨hy, okW_nil⟩)
    rw [hl]
    simpa [val] using this
  have hn := norm_pc (g := gz) (o := 0) (n := nx + 1) (cap := cz) (ws := putL wz 0 (padD (nx + 1) (val xs * y))) (l := padD (nx + 1) (val xs * y)) (part0 hpl) (by rw [putL_length (by omega)]; omega) (by omega) (by unfold maxLen; omega)
  rw [nlen_padD hlt] at hn
  have hfin : (putL wz 0 (mulAddW xs y 0)).set (0 + nx) (mulAddC xs y 0) = putL wz 0 (padD (nx + 1) (val xs * y)) := by
    have := set_putL (ws := wz) (us := mulAddW xs y 0) (off := 0) (n := nx) (w := mulAddC xs y 0) (by rw [mulAddW_length xs y 0]; omega) (by omega)
    rw [this, mulAdd_pad hx hy, ← hl]
  have hz : (wsG (putL wz 0 (mulAddW xs y 0)))[0 + nx]? = some (wG ((wz)[nx]'(by omega))) := wsG_get (by rw [Nat.zero_add]; exact putL_get0 (ws := wz) (us := mulAddW xs y 0) (by rw [mulAddW_length xs y 0]; omega) _)
  generalize (wz)[nx]'(by omega) = q at hz
  refine PC_of_PW Tryz.func84 rfl rfl (rs := _) rfl (Nat.le_of_ble_eq_true (by kernel_rfl)) ?_
  (repeat' (first|(first|((first|refine qA ?_|refine qB ?_|refine xN ?_|refine xE ?_|refine xT ?_); try show PW _ _ _ _ _ _)|refine ro1 tabOk rfl rfl ?_|refine ro2 tabOk rfl rfl ?_|refine ro3 tabOk rfl rfl ?_|(apply oR rfl rfl; (focus (first|exact PO_vlen rfl (EL rfl) rfl|exact cJ|exact mG|exact bT|exact nD)))|refine xU [4] rfl ?_|refine xR ?_|refine xB ?_|refine xt rfl ?_|refine xf rfl ?_)|(refine POps_split rfl rfl (fun h => ?_) (fun h => ?_) <;> fail_if_success (first|(have : true = true := h)|(have : false = false := h)))|refine PW_cond rfl (fun h => ?_) (fun h => ?_)))
  all_goals (try (exfalso; have := of_decide_eq_true h; omega))
  (repeat (first|((first|refine qA ?_|refine qB ?_|refine xN ?_|refine xE ?_|refine xT ?_); try show PW _ _ _ _ _ _)|refine ro1 tabOk rfl rfl ?_|refine ro2 tabOk rfl rfl ?_|refine ro3 tabOk rfl rfl ?_|(apply oR rfl rfl; (focus (first|exact cd [true] rfl rfl (EN rfl) (hmk) rfl rfl rfl rfl rfl rfl rfl rfl rfl rfl rfl|exact vcut nx rfl (EL rfl) (SZ rfl) rfl rfl rfl rfl rfl (by omega)|exact ct [] rfl rfl tw_mulAdd (hv) rfl rfl rfl rfl rfl rfl rfl rfl rfl rfl rfl|exact PO_vindex nx rfl (EL rfl) (SZ rfl) rfl rfl rfl (by omega)|exact cd [] rfl rfl (EN rfl) (hn) rfl rfl rfl rfl rfl rfl rfl rfl rfl rfl rfl|exact PO_asH (PO_store_mref rfl (SZ rfl) rfl rfl rfl rfl (by decide) rfl hz (Nat.le_refl _)) (congrArg (fun l => (⟨[], [], [MO.arr gz WT l, AR g ws]⟩ : PH)) (wsG_set.trans (congrArg wsG hfin)))|exact cJ|exact mG|exact bT|exact nD)))|refine xS ?_|refine xR ?_|refine xB ?_|refine xt rfl ?_|refine xf rfl ?_))
  (first|refine Ret_box (wC vT wN) rfl rfl rfl rfl rfl rfl rfl rfl rfl ?_ ?_ ?_ rfl)
  all_goals rfl

set_option maxRecDepth 100000 in
set_option maxHeartbeats 4000000 in
theorem mulAddWW_out {gz lz cz g nx c : Nat} {wz ws xs : List Nat} {y : Nat} (hv1 : (ws.drop 0).take nx = xs) (hl1 : nx ≤ ws.length) (hroom : cz < nx + 1) (hx : okW xs) (hy : y < WB) (hy0 : y ≠ 0) (h1 : 1 ≤ nx) (hm : nx ≤ 100000) :
    PC Tryz.prog 84 [.vw 0 gz 0 lz cz, .vw 1 g 0 nx c, .g (wG y), .g (wG 0)] ⟨[], [], [AR gz wz, AR g ws]⟩ (.vw 2 0 0 (dig (val xs * y)).length (nx + 1 + 4)) ⟨[], [], [AR gz wz, AR g ws, AR 0 (putL (List.replicate (nx + 1 + 4) 0) 0 (padD (nx + 1) (val xs * y)))]⟩ := by
  have hl : nx = xs.length := by rw [← hv1]; simp; omega
  have hadd : IntKind.i64.wrap ((nx : Int) + 1) = ((nx + 1 : Nat) : Int) := by rw [w64 (by omega)]; omega
  have hmk := make_out (n := nx + 1) (g := gz) (o := 0) (len := lz) (cap := cz) (m := AR gz wz) (by omega) hroom (by omega)
  rw [← hadd] at hmk
  have hw0 : nx + 1 ≤ ((List.replicate (nx + 1 + 4) 0)).length := by rw [List.length_replicate]; omega
  have hv := mulAddV_vpc (g := 0) (o := 0) (n := nx) (cap := nx + 1 + 4) (g1 := g) (o1 := 0) (c1 := c) (ws := List.replicate (nx + 1 + 4) 0) (xs := xs) (ws1 := ws) (y := y) (r := 0) hv1 hx hl.symm (by unfold maxLen; omega) hy (by decide) (by omega)
  have hpl := padD_length (nx + 1) (val xs * y)
  have hlt : val xs * y < WB ^ (nx + 1) := by
    have := prod_lt hx (okW_cons.2 ⟨hy, okW_nil⟩)
    rw [hl]
    simpa [val] using this
  have hn := norm_pc (g := 0) (o := 0) (n := nx + 1) (cap := nx + 1 + 4) (ws := putL (List.replicate (nx + 1 + 4) 0) 0 (padD (nx + 1) (val xs * y))) (l := padD (nx + 1) (val xs * y)) (part0 hpl) (by rw [putL_length (by omega)]; omega) (by omega) (by unfold maxLen; omega)
  rw [nlen_padD hlt] at hn
  have hfin : (putL (List.replicate (nx + 1 + 4) 0) 0 (mulAddW xs y 0)).set (0 + nx) (mulAddC xs y 0) = putL (List.replicate (nx + 1 + 4) 0) 0 (padD (nx + 1) (val xs * y)) := by
    have := set_putL (ws := (List.replicate (nx + 1 + 4) 0)) (us := mulAddW xs y 0) (off := 0) (n := nx) (w := mulAddC xs y 0) (by rw [mulAddW_length xs y 0]; omega) (by omega)
    rw [this, mulAdd_pad hx hy, ← hl]
  have hz : (wsG (putL (List.replicate (nx + 1 + 4) 0) 0 (mulAddW xs y 0)))[0 + nx]? = some (wG (((List.replicate (nx + 1 + 4) 0))[nx]'(by omega))) := wsG_get (by rw [Nat.zero_add]; exact putL_get0 (ws := (List.replicate (nx + 1 + 4) 0)) (us := mulAddW xs y 0) (by rw [mulAddW_length xs y 0]; omega) _)
  generalize ((List.replicate (nx + 1 + 4) 0))[nx]'(by omega) = q at hz
  refine PC_of_PW Tryz.func84 rfl rfl (rs := _) rfl (Nat.le_of_ble_eq_true (by kernel_rfl)) ?_
  (repeat' (first|(first|((first|refine qA ?_|refine qB ?_|refine xN ?_|refine xE ?_|refine xT ?_); try show PW _ _ _ _ _ _)|refine ro1 tabOk rfl rfl ?_|refine ro2 tabOk rfl rfl ?_|refine ro3 tabOk rfl rfl ?_|(apply oR rfl rfl; (focus (first|exact PO_vlen rfl (EL rfl) rfl|exact cJ|exact mG|exact bT|exact nD)))|refine xU [4] rfl ?_|refine xR ?_|refine xB ?_|refine xt rfl ?_|refine xf rfl ?_)|(refine POps_split rfl rfl (fun h => ?_) (fun h => ?_) <;> fail_if_success (first|(have : true = true := h)|(have : false = false := h)))|refine PW_cond rfl (fun h => ?_) (fun h => ?_)))
  all_goals (try (exfalso; have := of_decide_eq_true h; omega))
  (repeat (first|((first|refine qA ?_|refine qB ?_|refine xN ?_|refine xE ?_|refine xT ?_); try show PW _ _ _ _ _ _)|refine ro1 tabOk rfl rfl ?_|refine ro2 tabOk rfl rfl ?_|refine ro3 tabOk rfl rfl ?_|(apply oR rfl rfl; (focus (first|exact cd [true] rfl rfl (EN rfl) (hmk) rfl rfl rfl rfl rfl rfl rfl rfl rfl rfl rfl|exact vcut nx rfl (EL rfl) (SZ rfl) rfl rfl rfl rfl rfl (by omega)|exact ct [] rfl rfl tw_mulAdd (hv) rfl rfl rfl rfl rfl rfl rfl rfl rfl rfl rfl|exact PO_vindex nx rfl (EL rfl) (SZ rfl) rfl rfl rfl (by omega)|exact cd [] rfl rfl (EN rfl) (hn) rfl rfl rfl rfl rfl rfl rfl rfl rfl rfl rfl|exact PO_asH (PO_store_mref rfl (SZ rfl) rfl rfl rfl rfl (by decide) rfl hz (Nat.le_refl _)) (congrArg (fun l => (⟨[], [], [AR gz wz, AR g ws, MO.arr 0 WT l]⟩ : PH)) (wsG_set.trans (congrArg wsG hfin)))|exact cJ|exact mG|exact bT|exact nD)))|refine xS ?_|refine xR ?_|refine xB ?_|refine xt rfl ?_|refine xf rfl ?_))
  (first|refine Ret_box (wC vT wN) rfl rfl rfl rfl rfl rfl rfl rfl rfl ?_ ?_ ?_ rfl)
  all_goals rfl
end Go.Proofs.YtdicineiaifahaaGreatDoor


namespace Go.Proofs.YtdicineiaifahaaGreatDoor
open Go Go.Pure
attribute [local irreducible] PW POps POpsD PO PC Cond

set_option maxRecDepth 100000 in
set_option maxHeartbeats 4000000 in
theorem sqr_nil {g nx c : Nat} {ws xs : List Nat} {stk : PV} (hv1 : (ws.drop 0).take nx = xs) (hl1 : nx ≤ ws.length) (hcx : nx ≤ c) (hcx1 : c ≤ ws.length) (hcx2 : c ≤ 1000000) (hx : okW xs) (h1 : 1 ≤ nx) (hm : nx < 12) :
    PC Tryz.prog 66 [.nils, .any, .vw 0 g 0 nx c] ⟨[], [], [AR g ws]⟩ (.vw 1 0 0 (dig (val xs * val xs)).length (nx + nx + 4)) ⟨[], [], [AR g ws, AR 0 (putL (List.replicate (nx + nx + 4) 0) 0 (padD (nx + nx) (val xs * val xs)))]⟩ := by
  have hl : nx = xs.length := by rw [← hv1]; simp; omega
  have hmul : IntKind.i64.wrap ((2 : Int) * (nx : Int)) = ((nx + nx : Nat) : Int) := by rw [w64 (by omega)]; omega
  have hmk := make_nil (n := nx + nx) (by omega) (by omega)
  rw [show capN (nx + nx) = nx + nx + 4 from by unfold capN; rw [if_neg (by omega)]] at hmk
  have hw0 : nx + nx ≤ ((List.replicate (nx + nx + 4) 0)).length := by rw [List.length_replicate]; omega
  have hpl := padD_length (nx + nx) (val xs * val xs)
  have hlt : val xs * val xs < WB ^ (nx + nx) := by
    have := prod_lt hx hx
    rwa [← hl] at this
  have hn := norm_pc (g := 0) (o := 0) (n := nx + nx) (cap := nx + nx + 4) (ws := putL (List.replicate (nx + nx + 4) 0) 0 (padD (nx + nx) (val xs * val xs))) (l := padD (nx + nx) (val xs * val xs)) (part0 hpl) (by rw [putL_length (by omega)]; omega) (by omega) (by unfold maxLen; omega)
  rw [nlen_padD hlt] at hn
  obtain ⟨q0, q1, R, hR⟩ := two_of (l := (List.replicate (nx + nx + 4) 0)) (by omega)
  by_cases hone : nx = 1
  · subst hone
    obtain ⟨d, hd⟩ : ∃ d, xs = [d] := by
      match xs, hl with
      | [d], _ => exact ⟨d, rfl⟩
    subst hd
    have hdw : d < WB := hx d (by simp)
    have hww := mulWW_pc hdw hdw
    have hg : (wsG ws)[0 + 0]? = some (wG d) := wsG_get (by
      have : ((ws.drop 0).take 1)[0]? = some d := by rw [hv1]; rfl
      rw [List.getElem?_take, if_pos (by omega), List.getElem?_drop] at this
      exact this)
    rw [show val [d] = d by simp [val], padD_two hdw] at hn ⊢
    have hput : putL (q0 :: q1 :: R) 0 [d * d % WB, d * d / WB] = d * d % WB :: d * d / WB :: R := by simp [putL]
    rw [hR] at hmk hn ⊢
    rw [hput] at hn ⊢
    refine PC_of_PW Tryz.func66 rfl rfl (rs := _) rfl (Nat.le_of_ble_eq_true (by kernel_rfl)) ?_
    (repeat (first|((first|refine qA ?_|refine qB ?_|refine xN ?_|refine xE ?_|refine xT ?_); try show PW _ _ _ _ _ _)|refine ro1 tabOk rfl rfl ?_|refine ro2 tabOk rfl rfl ?_|refine ro3 tabOk rfl rfl ?_|(apply oR rfl rfl; (focus (first|exact PO_vlen rfl (EL rfl) rfl|exact PO_vindex 0 rfl (EL rfl) (SZ rfl) rfl rfl rfl (by decide)|exact PO_vindex 1 rfl (EL rfl) (SZ rfl) rfl rfl rfl (by decide)|exact PO_load_mref_one rfl (AG rfl) rfl rfl hg rfl|exact cd [true] rfl rfl (EN rfl) (hmk) rfl rfl rfl rfl rfl rfl rfl rfl rfl rfl rfl|exact cqP hww|exact PO_store_mref rfl (SZ rfl) rfl rfl rfl rfl (by decide) rfl rfl (Nat.le_refl _)|exact cd [] rfl rfl (EN rfl) (hn) rfl rfl rfl rfl rfl rfl rfl rfl rfl rfl rfl|exact cJ|exact mG|exact bT|exact nD)))|refine xS ?_|refine xR ?_|refine xB ?_|refine xt rfl ?_|refine xf rfl ?_))
    (first|refine Ret_box (wC vT wN) rfl rfl rfl rfl rfl rfl rfl rfl rfl ?_ ?_ ?_ rfl)
    all_goals rfl
  · have hal := alias_nilv (m := AR g ws) (g := g) (o := 0) (n := nx) (c := c)
    have hb := basicMul_vpc (g := 0) (cap := nx + nx + 4) (g1 := g) (nx := nx) (c1 := c) (ws := (List.replicate (nx + nx + 4) 0)) (ws1 := ws) (xs := xs) hv1 hl1 (okW_rep _) hx hw0 (by omega) (by omega) h1
    rw [← hmul] at hmk
    refine PC_of_PW Tryz.func66 rfl rfl (rs := _) rfl (Nat.le_of_ble_eq_true (by kernel_rfl)) ?_
    (repeat' (first|(first|((first|refine qA ?_|refine qB ?_|refine xN ?_|refine xE ?_|refine xT ?_); try show PW _ _ _ _ _ _)|refine ro1 tabOk rfl rfl ?_|refine ro2 tabOk rfl rfl ?_|refine ro3 tabOk rfl rfl ?_|(apply oR rfl rfl; (focus (first|exact PO_vlen rfl (EL rfl) rfl|exact cJ|exact mG|exact bT|exact nD)))|refine xU [9] rfl ?_|refine xR ?_|refine xB ?_|refine xt rfl ?_|refine xf rfl ?_)|(refine POps_split rfl rfl (fun h => ?_) (fun h => ?_) <;> fail_if_success (first|(have : true = true := h)|(have : false = false := h)))|refine PW_cond rfl (fun h => ?_) (fun h => ?_)))
    all_goals (try (exfalso; have := of_decide_eq_true h; omega))
    try clear h
    (repeat' (first|(first|((first|refine qA ?_|refine qB ?_|refine xN ?_|refine xE ?_|refine xT ?_); try show PW _ _ _ _ _ _)|refine ro1 tabOk rfl rfl ?_|refine ro2 tabOk rfl rfl ?_|refine ro3 tabOk rfl rfl ?_|(apply oR rfl rfl; (focus (first|exact PO_vlen rfl (EL rfl) rfl|exact cd [true] rfl rfl (EN rfl) (hal) rfl rfl rfl rfl rfl rfl rfl rfl rfl rfl rfl|exact cd [true] rfl rfl (EN rfl) (hmk) rfl rfl rfl rfl rfl rfl rfl rfl rfl rfl rfl|exact PO_loadg rfl (AG rfl) rfl rfl|exact cd [] rfl rfl (EN rfl) (hb) rfl rfl rfl rfl rfl rfl rfl rfl rfl rfl rfl|exact cd [] rfl rfl (EN rfl) (hn) rfl rfl rfl rfl rfl rfl rfl rfl rfl rfl rfl|exact cJ|exact mG|exact bT|exact nD)))|refine xU [15] rfl ?_|refine xR ?_|refine xB ?_|refine xt rfl ?_|refine xf rfl ?_)|(refine POps_split rfl rfl (fun h => ?_) (fun h => ?_) <;> fail_if_success (first|(have : true = true := h)|(have : false = false := h)))|refine PW_cond rfl (fun h => ?_) (fun h => ?_)))
    all_goals (try (exfalso; have := of_decide_eq_false h; omega))
    (first|refine Ret_box (wC vT wN) rfl rfl rfl rfl rfl rfl rfl rfl rfl ?_ ?_ ?_ rfl)
    all_goals rfl

set_option maxRecDepth 100000 in
set_option maxHeartbeats 4000000 in
theorem sqr_in {gz lz cz g nx c : Nat} {wz ws xs : List Nat} {stk : PV} (hroom : nx + nx ≤ cz) (hcz : cz ≤ 1000000) (hwz : cz ≤ wz.length) (hwo : okW wz) (hv1 : (ws.drop 0).take nx = xs) (hl1 : nx ≤ ws.length) (hcx : nx ≤ c) (hcx1 : c ≤ ws.length) (hcx2 : c ≤ 1000000) (hx : okW xs) (h1 : 1 ≤ nx) (hm : nx < 12) :
    PC Tryz.prog 66 [.vw 0 gz 0 lz cz, .any, .vw 1 g 0 nx c] ⟨[], [], [AR gz wz, AR g ws]⟩ (.vw 0 gz 0 (dig (val xs * val xs)).length (cz)) ⟨[], [], [AR gz (putL wz 0 (padD (nx + nx) (val xs * val xs))), AR g ws]⟩ := by
  have hl : nx = xs.length := by rw [← hv1]; simp; omega
  have hmul : IntKind.i64.wrap ((2 : Int) * (nx : Int)) = ((nx + nx : Nat) : Int) := by rw [w64 (by omega)]; omega
  have hmk := make_in (n := nx + nx) (g := gz) (o := 0) (len := lz) (cap := cz) (m := AR gz wz) hroom
  skip
  have hw0 : nx + nx ≤ (wz).length := by omega
  have hpl := padD_length (nx + nx) (val xs * val xs)
  have hlt : val xs * val xs < WB ^ (nx + nx) := by
    have := prod_lt hx hx
    rwa [← hl] at this
  have hn := norm_pc (g := gz) (o := 0) (n := nx + nx) (cap := cz) (ws := putL wz 0 (padD (nx + nx) (val xs * val xs))) (l := padD (nx + nx) (val xs * val xs)) (part0 hpl) (by rw [putL_length (by omega)]; omega) (by omega) (by unfold maxLen; omega)
  rw [nlen_padD hlt] at hn
  obtain ⟨q0, q1, R, hR⟩ := two_of (l := wz) (by omega)
  by_cases hone : nx = 1
  · subst hone
    obtain ⟨d, hd⟩ : ∃ d, xs = [d] := by
      match xs, hl with
      | [d], _ => exact ⟨d, rfl⟩
    subst hd
    have hdw : d < WB := hx d (by simp)
    have hww := mulWW_pc hdw hdw
    have hg : (wsG ws)[0 + 0]? = some (wG d) := wsG_get (by
      have : ((ws.drop 0).take 1)[0]? = some d := by rw [hv1]; rfl
      rw [List.getElem?_take, if_pos (by omega), List.getElem?_drop] at this
      exact this)
    rw [show val [d] = d by simp [val], padD_two hdw] at hn ⊢
    have hput : putL (q0 :: q1 :: R) 0 [d * d % WB, d * d / WB] = d * d % WB :: d * d / WB :: R := by simp [putL]
    rw [hR] at hmk hn ⊢
    rw [hput] at hn ⊢
    refine PC_of_PW Tryz.func66 rfl rfl (rs := _) rfl (Nat.le_of_ble_eq_true (by kernel_rfl)) ?_
    (repeat (first|((first|refine qA ?_|refine qB ?_|refine xN ?_|refine xE ?_|refine xT ?_); try show PW _ _ _ _ _ _)|refine ro1 tabOk rfl rfl ?_|refine ro2 tabOk rfl rfl ?_|refine ro3 tabOk rfl rfl ?_|(apply oR rfl rfl; (focus (first|exact PO_vlen rfl (EL rfl) rfl|exact PO_vindex 0 rfl (EL rfl) (SZ rfl) rfl rfl rfl (by decide)|exact PO_vindex 1 rfl (EL rfl) (SZ rfl) rfl rfl rfl (by decide)|exact PO_load_mref_one rfl (AG rfl) rfl rfl hg rfl|exact cd [true] rfl rfl (EN rfl) (hmk) rfl rfl rfl rfl rfl rfl rfl rfl rfl rfl rfl|exact cqP hww|exact PO_store_mref rfl (SZ rfl) rfl rfl rfl rfl (by decide) rfl rfl (Nat.le_refl _)|exact cd [] rfl rfl (EN rfl) (hn) rfl rfl rfl rfl rfl rfl rfl rfl rfl rfl rfl|exact cJ|exact mG|exact bT|exact nD)))|refine xS ?_|refine xR ?_|refine xB ?_|refine xt rfl ?_|refine xf rfl ?_))
    (first|refine Ret_box (wC vT wN) rfl rfl rfl rfl rfl rfl rfl rfl rfl ?_ ?_ ?_ rfl)
    all_goals rfl
  · have hal := alias_two (g1 := gz) (n1 := lz) (c1 := cz) (g2 := g) (n2 := nx) (c2 := c) (ws1 := wz) (ws2 := ws) (by omega) (by omega) hwz hcx1 hcz hcx2
    have hb := basicMul_vpc (g := gz) (cap := cz) (g1 := g) (nx := nx) (c1 := c) (ws := wz) (ws1 := ws) (xs := xs) hv1 hl1 hwo hx hw0 (by omega) (by omega) h1
    rw [← hmul] at hmk
    refine PC_of_PW Tryz.func66 rfl rfl (rs := _) rfl (Nat.le_of_ble_eq_true (by kernel_rfl)) ?_
    (repeat' (first|(first|((first|refine qA ?_|refine qB ?_|refine xN ?_|refine xE ?_|refine xT ?_); try show PW _ _ _ _ _ _)|refine ro1 tabOk rfl rfl ?_|refine ro2 tabOk rfl rfl ?_|refine ro3 tabOk rfl rfl ?_|(apply oR rfl rfl; (focus (first|exact PO_vlen rfl (EL rfl) rfl|exact cJ|exact mG|exact bT|exact nD)))|refine xU [9] rfl ?_|refine xR ?_|refine xB ?_|refine xt rfl ?_|refine xf rfl ?_)|(refine POps_split rfl rfl (fun h => ?_) (fun h => ?_) <;> fail_if_success (first|(have : true = true := h)|(have : false = false := h)))|refine PW_cond rfl (fun h => ?_) (fun h => ?_)))
    all_goals (try (exfalso; have := of_decide_eq_true h; omega))
    try clear h
    (repeat' (first|(first|((first|refine qA ?_|refine qB ?_|refine xN ?_|refine xE ?_|refine xT ?_); try show PW _ _ _ _ _ _)|refine ro1 tabOk rfl rfl ?_|refine ro2 tabOk rfl rfl ?_|refine ro3 tabOk rfl rfl ?_|(apply oR rfl rfl; (focus (first|exact PO_vlen rfl (EL rfl) rfl|exact cd [] rfl rfl (EN rfl) (hal) rfl rfl rfl rfl rfl rfl rfl rfl rfl rfl rfl|exact cd [true] rfl rfl (EN rfl) (hmk) rfl rfl rfl rfl rfl rfl rfl rfl rfl rfl rfl|exact PO_loadg rfl (AG rfl) rfl rfl|exact cd [] rfl rfl (EN rfl) (hb) rfl rfl rfl rfl rfl rfl rfl rfl rfl rfl rfl|exact cd [] rfl rfl (EN rfl) (hn) rfl rfl rfl rfl rfl rfl rfl rfl rfl rfl rfl|exact cJ|exact mG|exact bT|exact nD)))|refine xU [15] rfl ?_|refine xR ?_|refine xB ?_|refine xt rfl ?_|refine xf rfl ?_)|(refine POps_split rfl rfl (fun h => ?_) (fun h => ?_) <;> fail_if_success (first|(have : true = true := h)|(have : false = false := h)))|refine PW_cond rfl (fun h => ?_) (fun h => ?_)))
    all_goals (try (exfalso; have := of_decide_eq_false h; omega))
    (first|refine Ret_box (wC vT wN) rfl rfl rfl rfl rfl rfl rfl rfl rfl ?_ ?_ ?_ rfl)
    all_goals rfl

set_option maxRecDepth 100000 in
set_option maxHeartbeats 4000000 in
theorem sqr_out {gz lz cz g nx c : Nat} {wz ws xs : List Nat} {stk : PV} (hroom : cz < nx + nx) (hcz1 : 1 ≤ cz) (hcz : cz ≤ 1000000) (hwz : cz ≤ wz.length) (hv1 : (ws.drop 0).take nx = xs) (hl1 : nx ≤ ws.length) (hcx : nx ≤ c) (hcx1 : c ≤ ws.length) (hcx2 : c ≤ 1000000) (hx : okW xs) (h1 : 1 ≤ nx) (hm : nx < 12) :
    PC Tryz.prog 66 [.vw 0 gz 0 lz cz, .any, .vw 1 g 0 nx c] ⟨[], [], [AR gz wz, AR g ws]⟩ (.vw 2 0 0 (dig (val xs * val xs)).length (nx + nx + 4)) ⟨[], [], [AR gz wz, AR g ws, AR 0 (putL (List.replicate (nx + nx + 4) 0) 0 (padD (nx + nx) (val xs * val xs)))]⟩ := by
  have hl : nx = xs.length := by rw [← hv1]; simp; omega
  have hmul : IntKind.i64.wrap ((2 : Int) * (nx : Int)) = ((nx + nx : Nat) : Int) := by rw [w64 (by omega)]; omega
  have hmk := make_out (n := nx + nx) (g := gz) (o := 0) (len := lz) (cap := cz) (m := AR gz wz) (by omega) hroom (by omega)
  skip
  have hw0 : nx + nx ≤ ((List.replicate (nx + nx + 4) 0)).length := by rw [List.length_replicate]; omega
  have hpl := padD_length (nx + nx) (val xs * val xs)
  have hlt : val xs * val xs < WB ^ (nx + nx) := by
    have := prod_lt hx hx
    rwa [← hl] at this
  have hn := norm_pc (g := 0) (o := 0) (n := nx + nx) (cap := nx + nx + 4) (ws := putL (List.replicate (nx + nx + 4) 0) 0 (padD (nx + nx) (val xs * val xs))) (l := padD (nx + nx) (val xs * val xs)) (part0 hpl) (by rw [putL_length (by omega)]; omega) (by omega) (by unfold maxLen; omega)
  rw [nlen_padD hlt] at hn
  obtain ⟨q0, q1, R, hR⟩ := two_of (l := (List.replicate (nx + nx + 4) 0)) (by omega)
  by_cases hone : nx = 1
  · subst hone
    obtain ⟨d, hd⟩ : ∃ d, xs = [d] := by
      match xs, hl with
      | [d], _ => exact ⟨d, rfl⟩
    subst hd
    have hdw : d < WB := hx d (by simp)
    have hww := mulWW_pc hdw hdw
    have hg : (wsG ws)[0 + 0]? = some (wG d) := wsG_get (by
      have : ((ws.drop 0).take 1)[0]? = some d := by rw [hv1]; rfl
      rw [List.getElem?_take, if_pos (by omega), List.getElem?_drop] at this
      exact this)
    rw [show val [d] = d by simp [val], padD_two hdw] at hn ⊢
    have hput : putL (q0 :: q1 :: R) 0 [d * d % WB, d * d / WB] = d * d % WB :: d * d / WB :: R := by simp [putL]
    rw [hR] at hmk hn ⊢
    rw [hput] at hn ⊢
    refine PC_of_PW Tryz.func66 rfl rfl (rs := _) rfl (Nat.le_of_ble_eq_true (by kernel_rfl)) ?_
    (repeat (first|((first|refine qA ?_|refine qB ?_|refine xN ?_|refine xE ?_|refine xT ?_); try show PW _ _ _ _ _ _)|refine ro1 tabOk rfl rfl ?_|refine ro2 tabOk rfl rfl ?_|refine ro3 tabOk rfl rfl ?_|(apply oR rfl rfl; (focus (first|exact PO_vlen rfl (EL rfl) rfl|exact PO_vindex 0 rfl (EL rfl) (SZ rfl) rfl rfl rfl (by decide)|exact PO_vindex 1 rfl (EL rfl) (SZ rfl) rfl rfl rfl (by decide)|exact PO_load_mref_one rfl (AG rfl) rfl rfl hg rfl|exact cd [true] rfl rfl (EN rfl) (hmk) rfl rfl rfl rfl rfl rfl rfl rfl rfl rfl rfl|exact cqP hww|exact PO_store_mref rfl (SZ rfl) rfl rfl rfl rfl (by decide) rfl rfl (Nat.le_refl _)|exact cd [] rfl rfl (EN rfl) (hn) rfl rfl rfl rfl rfl rfl rfl rfl rfl rfl rfl|exact cJ|exact mG|exact bT|exact nD)))|refine xS ?_|refine xR ?_|refine xB ?_|refine xt rfl ?_|refine xf rfl ?_))
    (first|refine Ret_box (wC vT wN) rfl rfl rfl rfl rfl rfl rfl rfl rfl ?_ ?_ ?_ rfl)
    all_goals rfl
  · have hal := alias_two (g1 := gz) (n1 := lz) (c1 := cz) (g2 := g) (n2 := nx) (c2 := c) (ws1 := wz) (ws2 := ws) hcz1 (by omega) hwz hcx1 hcz hcx2
    have hb := basicMul_vpc (g := 0) (cap := nx + nx + 4) (g1 := g) (nx := nx) (c1 := c) (ws := (List.replicate (nx + nx + 4) 0)) (ws1 := ws) (xs := xs) hv1 hl1 (okW_rep _) hx hw0 (by omega) (by omega) h1
    rw [← hmul] at hmk
    refine PC_of_PW Tryz.func66 rfl rfl (rs := _) rfl (Nat.le_of_ble_eq_true (by kernel_rfl)) ?_
    (repeat' (first|(first|((first|refine qA ?_|refine qB ?_|refine xN ?_|refine xE ?_|refine xT ?_); try show PW _ _ _ _ _ _)|refine ro1 tabOk rfl rfl ?_|refine ro2 tabOk rfl rfl ?_|refine ro3 tabOk rfl rfl ?_|(apply oR rfl rfl; (focus (first|exact PO_vlen rfl (EL rfl) rfl|exact cJ|exact mG|exact bT|exact nD)))|refine xU [9] rfl ?_|refine xR ?_|refine xB ?_|refine xt rfl ?_|refine xf rfl ?_)|(refine POps_split rfl rfl (fun h => ?_) (fun h => ?_) <;> fail_if_success (first|(have : true = true := h)|(have : false = false := h)))|refine PW_cond rfl (fun h => ?_) (fun h => ?_)))
    all_goals (try (exfalso; have := of_decide_eq_true h; omega))
    try clear h
    (repeat' (first|(first|((first|refine qA ?_|refine qB ?_|refine xN ?_|refine xE ?_|refine xT ?_); try show PW _ _ _ _ _ _)|refine ro1 tabOk rfl rfl ?_|refine ro2 tabOk rfl rfl ?_|refine ro3 tabOk rfl rfl ?_|(apply oR rfl rfl; (focus (first|exact PO_vlen rfl (EL rfl) rfl|exact cd [] rfl rfl (EN rfl) (hal) rfl rfl rfl rfl rfl rfl rfl rfl rfl rfl rfl|exact cd [true] rfl rfl (EN rfl) (hmk) rfl rfl rfl rfl rfl rfl rfl rfl rfl rfl rfl|exact PO_loadg rfl (AG rfl) rfl rfl|exact cd [] rfl rfl (EN rfl) (hb) rfl rfl rfl rfl rfl rfl rfl rfl rfl rfl rfl|exact cd [] rfl rfl (EN rfl) (hn) rfl rfl rfl rfl rfl rfl rfl rfl rfl rfl rfl|exact cJ|exact mG|exact bT|exact nD)))|refine xU [15] rfl ?_|refine xR ?_|refine xB ?_|refine xt rfl ?_|refine xf rfl ?_)|(refine POps_split rfl rfl (fun h => ?_) (fun h => ?_) <;> fail_if_success (first|(have : true = true := h)|(have : false = false := h)))|refine PW_cond rfl (fun h => ?_) (fun h => ?_)))
    all_goals (try (exfalso; have := of_decide_eq_false h; omega))
    (first|refine Ret_box (wC vT wN) rfl rfl rfl rfl rfl rfl rfl rfl rfl ?_ ?_ ?_ rfl)
    all_goals rfl
end Go.Proofs.YtdicineiaifahaaGreatDoor


namespace Go.Proofs.YtdicineiaifahaaGreatDoor
open Go Go.Pure
attribute [local irreducible] PW POps POpsD PO PC Cond

set_option maxRecDepth 100000 in
set_option maxHeartbeats 4000000 in
theorem mul_in {gz lz cz g nx c y : Nat} {wz ws xs : List Nat} (hv1 : (ws.drop 0).take nx = xs) (hl1 : nx ≤ ws.length) (hroom : nx + 1 ≤ cz) (hcz : cz ≤ 1000000) (hwz : cz ≤ wz.length) (hx : okW xs) (hy : y < WB) (hy0 : y ≠ 0) (h1 : 1 ≤ nx) (hm : nx ≤ 100000) :
    PC Tryz.prog 67 [.vw 0 gz 0 lz cz, .any, .vw 1 g 0 nx c, .g (.sl (wsG [y]))] ⟨[], [], [AR gz wz, AR g ws]⟩ (.vw 0 gz 0 (dig (val xs * y)).length cz) ⟨[], [], [AR gz (putL wz 0 (padD (nx + 1) (val xs * y))), AR g ws]⟩ := by
  have hc := mulAddWW_in (gz := gz) (lz := lz) (cz := cz) (g := g) (nx := nx) (c := c) (wz := wz) (ws := ws) (xs := xs) (y := y) hv1 hl1 hroom hcz hwz hx hy hy0 h1 hm
  refine PC_of_PW Tryz.func67 rfl rfl (rs := _) rfl (Nat.le_of_ble_eq_true (by kernel_rfl)) ?_
  (repeat' (first|(first|((first|refine qA ?_|refine qB ?_|refine xN ?_|refine xE ?_|refine xT ?_); try show PW _ _ _ _ _ _)|refine ro1 tabOk rfl rfl ?_|refine ro2 tabOk rfl rfl ?_|refine ro3 tabOk rfl rfl ?_|refine rd1 tabOk rfl rfl ?_|refine rd2 tabOk rfl rfl ?_|refine rd3 tabOk rfl rfl ?_|((first|apply oR rfl rfl|(apply dF rfl rfl rfl; intro _)|(apply dP rfl rfl rfl; intro _)|(apply dL rfl rfl rfl; intro _)|apply dC rfl rfl rfl rfl); (focus (first|exact PO_vlen rfl (EL rfl) rfl|exact iA (g := wG y) rfl (EL rfl) (SZ rfl) rfl rfl (by decide) rfl rfl|exact cd [] rfl rfl (EN rfl) (hc) rfl rfl rfl rfl rfl rfl rfl rfl rfl rfl rfl|exact cJ|exact mG|exact bT|exact nD)); try exact kQ)|refine xU [9] rfl ?_|refine xR ?_|refine qxa rfl rfl mixed ?_|refine qxb rfl rfl mixed ?_|refine qxi rfl rfl rfl rfl rfl mixed ?_|refine qxc rfl rfl mixed ?_|refine qxd rfl rfl mixed ?_|refine xB ?_|refine xt rfl ?_|refine xf rfl ?_)|(refine POps_split rfl rfl (fun h => ?_) (fun h => ?_) <;> fail_if_success (first|(have : true = true := h)|(have : false = false := h)))|(refine POpsD_split rfl rfl (fun h => ?_) (fun h => ?_) <;> fail_if_success (first|(have : true = true := h)|(have : false = false := h)))|refine PW_cond rfl (fun h => ?_) (fun h => ?_)))
  all_goals (try (exfalso; have hh := of_decide_eq_true h; first | omega | (simp only [wsG_length, List.length_cons, List.length_nil] at hh; omega)))
  all_goals (try (exfalso; have hh := of_decide_eq_false h; first | omega | (simp only [wsG_length, List.length_cons, List.length_nil] at hh; omega)))
  (first|refine Ret_box (wC vT wN) rfl rfl rfl rfl rfl rfl rfl rfl rfl ?_ ?_ ?_ rfl)
  all_goals rfl

set_option maxRecDepth 100000 in
set_option maxHeartbeats 4000000 in
theorem mul_out {gz lz cz g nx c y : Nat} {wz ws xs : List Nat} (hv1 : (ws.drop 0).take nx = xs) (hl1 : nx ≤ ws.length) (hroom : cz < nx + 1) (hx : okW xs) (hy : y < WB) (hy0 : y ≠ 0) (h1 : 1 ≤ nx) (hm : nx ≤ 100000) :
    PC Tryz.prog 67 [.vw 0 gz 0 lz cz, .any, .vw 1 g 0 nx c, .g (.sl (wsG [y]))] ⟨[], [], [AR gz wz, AR g ws]⟩ (.vw 2 0 0 (dig (val xs * y)).length (nx + 1 + 4)) ⟨[], [], [AR gz wz, AR g ws, AR 0 (putL (List.replicate (nx + 1 + 4) 0) 0 (padD (nx + 1) (val xs * y)))]⟩ := by
  have hc := mulAddWW_out (gz := gz) (lz := lz) (cz := cz) (g := g) (nx := nx) (c := c) (wz := wz) (ws := ws) (xs := xs) (y := y) hv1 hl1 hroom hx hy hy0 h1 hm
  refine PC_of_PW Tryz.func67 rfl rfl (rs := _) rfl (Nat.le_of_ble_eq_true (by kernel_rfl)) ?_
  (repeat' (first|(first|((first|refine qA ?_|refine qB ?_|refine xN ?_|refine xE ?_|refine xT ?_); try show PW _ _ _ _ _ _)|refine ro1 tabOk rfl rfl ?_|refine ro2 tabOk rfl rfl ?_|refine ro3 tabOk rfl rfl ?_|refine rd1 tabOk rfl rfl ?_|refine rd2 tabOk rfl rfl ?_|refine rd3 tabOk rfl rfl ?_|((first|apply oR rfl rfl|(apply dF rfl rfl rfl; intro _)|(apply dP rfl rfl rfl; intro _)|(apply dL rfl rfl rfl; intro _)|apply dC rfl rfl rfl rfl); (focus (first|exact PO_vlen rfl (EL rfl) rfl|exact iA (g := wG y) rfl (EL rfl) (SZ rfl) rfl rfl (by decide) rfl rfl|exact cd [] rfl rfl (EN rfl) (hc) rfl rfl rfl rfl rfl rfl rfl rfl rfl rfl rfl|exact cJ|exact mG|exact bT|exact nD)); try exact kQ)|refine xU [9] rfl ?_|refine xR ?_|refine qxa rfl rfl mixed ?_|refine qxb rfl rfl mixed ?_|refine qxi rfl rfl rfl rfl rfl mixed ?_|refine qxc rfl rfl mixed ?_|refine qxd rfl rfl mixed ?_|refine xB ?_|refine xt rfl ?_|refine xf rfl ?_)|(refine POps_split rfl rfl (fun h => ?_) (fun h => ?_) <;> fail_if_success (first|(have : true = true := h)|(have : false = false := h)))|(refine POpsD_split rfl rfl (fun h => ?_) (fun h => ?_) <;> fail_if_success (first|(have : true = true := h)|(have : false = false := h)))|refine PW_cond rfl (fun h => ?_) (fun h => ?_)))
  all_goals (try (exfalso; have hh := of_decide_eq_true h; first | omega | (simp only [wsG_length, List.length_cons, List.length_nil] at hh; omega)))
  all_goals (try (exfalso; have hh := of_decide_eq_false h; first | omega | (simp only [wsG_length, List.length_cons, List.length_nil] at hh; omega)))
  (first|refine Ret_box (wC vT wN) rfl rfl rfl rfl rfl rfl rfl rfl rfl ?_ ?_ ?_ rfl)
  all_goals rfl

theorem dig_wlen (X : Nat) : (wsG (dig X)).length = (dig X).length := wsG_length _
theorem dig_len_pos {X : Nat} (h : X ≠ 0) : 1 ≤ (wsG (dig X)).length := by
  rw [dig_wlen]
  cases hd : dig X with
  | nil => exact absurd (dig_nil hd) h
  | cons a l => simp
theorem dig_one_of {X : Nat} (h : (wsG (dig X)).length = 1) : X < WB ∧ dig X = [X] := by
  rw [dig_wlen] at h
  obtain ⟨d, hd⟩ : ∃ d, dig X = [d] := by
    match hx : dig X, h with
    | [d], _ => exact ⟨d, rfl⟩
  have := val_dig X
  rw [hd] at this
  simp [val] at this
  subst this
  exact ⟨by have := okW_dig d; rw [hd] at this; exact this d (by simp), hd⟩

set_option maxRecDepth 100000 in
set_option maxHeartbeats 8000000 in
theorem mul_ge {X Y : Nat} (hX : X ≠ 0) (hY : Y ≠ 0) (hge : (wsG (dig Y)).length ≤ (wsG (dig X)).length) (hm : (wsG (dig X)).length ≤ 30) :
    PC Tryz.prog 67 [.nils, .any, .g (.sl (wsG (dig X))), .g (.sl (wsG (dig Y)))] ⟨[], [], []⟩ (.vw 0 0 0 (dig (X * Y)).length ((wsG (dig X)).length + (wsG (dig Y)).length + 4)) ⟨[], [], [AR 0 (putL (List.replicate ((wsG (dig X)).length + (wsG (dig Y)).length + 4) 0) 0 (padD ((wsG (dig X)).length + (wsG (dig Y)).length) (X * Y)))]⟩ := by
  have hX1 := dig_len_pos hX
  have hY1 := dig_len_pos hY
  by_cases hone : (wsG (dig Y)).length = 1
  · obtain ⟨hyw, hyd⟩ := dig_one_of hone
    have hc := mulAddWW_g (xs := dig X) (y := Y) (okW_dig X) hyw hY hX1 (by omega)
    rw [val_dig] at hc
    rw [hone, hyd]
    rw [hyd] at hge hY1 hone
    generalize dig X = xs at *
    generalize dig (X * Y) = zs at *
    refine PC_of_PW Tryz.func67 rfl rfl (rs := _) rfl (Nat.le_of_ble_eq_true (by kernel_rfl)) ?_
    (repeat' (first|(first|((first|refine qA ?_|refine qB ?_|refine xN ?_|refine xE ?_|refine xT ?_); try show PW _ _ _ _ _ _)|refine ro1 tabOk rfl rfl ?_|refine ro2 tabOk rfl rfl ?_|refine ro3 tabOk rfl rfl ?_|refine rd1 tabOk rfl rfl ?_|refine rd2 tabOk rfl rfl ?_|refine rd3 tabOk rfl rfl ?_|((first|apply oR rfl rfl|(apply dF rfl rfl rfl; intro _)|(apply dP rfl rfl rfl; intro _)|(apply dL rfl rfl rfl; intro _)|apply dC rfl rfl rfl rfl); (focus (first|exact iA (g := wG Y) rfl (EL rfl) (SZ rfl) rfl rfl (by decide) rfl rfl|exact cd [true] rfl rfl (EN rfl) (hc) rfl rfl rfl rfl rfl rfl rfl rfl rfl rfl rfl|exact cJ|exact mG|exact bT|exact nD)); try exact kQ)|refine xU [9] rfl ?_|refine xR ?_|refine qxa rfl rfl mixed ?_|refine qxb rfl rfl mixed ?_|refine qxi rfl rfl rfl rfl rfl mixed ?_|refine qxc rfl rfl mixed ?_|refine qxd rfl rfl mixed ?_|refine xB ?_|refine xt rfl ?_|refine xf rfl ?_)|(refine POps_split rfl rfl (fun h => ?_) (fun h => ?_) <;> fail_if_success (first|(have : true = true := h)|(have : false = false := h)))|(refine POpsD_split rfl rfl (fun h => ?_) (fun h => ?_) <;> fail_if_success (first|(have : true = true := h)|(have : false = false := h)))|refine PW_cond rfl (fun h => ?_) (fun h => ?_)))
    all_goals (try (exfalso; have hh := of_decide_eq_true h; first | omega | (simp only [wsG_length, List.length_cons, List.length_nil] at hh; omega)))
    all_goals (try (exfalso; have hh := of_decide_eq_false h; first | omega | (simp only [wsG_length, List.length_cons, List.length_nil] at hh; omega)))
    (first|refine Ret_box (wC vT wN) rfl rfl rfl rfl rfl rfl rfl rfl rfl ?_ ?_ ?_ rfl)
    all_goals rfl
  · have hXo := okW_dig X
    have hYo := okW_dig Y
    have hXl := dig_wlen X
    have hYl := dig_wlen Y
    have hvX := val_dig X
    have hvY := val_dig Y
    have hprod := prod_lt hXo hYo
    rw [hvX, hvY, ← hXl, ← hYl] at hprod
    have hb := basicMul_pc (g := 0) (cap := (wsG (dig X)).length + (wsG (dig Y)).length + 4) (ws := List.replicate ((wsG (dig X)).length + (wsG (dig Y)).length + 4) 0) (xs := dig X) (ys := dig Y) (okW_rep _) hXo hYo (by rw [List.length_replicate]; omega) (by omega) (by omega) hX1
    rw [hvX, hvY] at hb
    have hpl := padD_length ((wsG (dig X)).length + (wsG (dig Y)).length) (X * Y)
    have hn := norm_pc (g := 0) (o := 0) (n := (wsG (dig X)).length + (wsG (dig Y)).length) (cap := (wsG (dig X)).length + (wsG (dig Y)).length + 4) (ws := putL (List.replicate ((wsG (dig X)).length + (wsG (dig Y)).length + 4) 0) 0 (padD ((wsG (dig X)).length + (wsG (dig Y)).length) (X * Y))) (l := padD ((wsG (dig X)).length + (wsG (dig Y)).length) (X * Y)) (part0 hpl) (by rw [putL_length (by rw [List.length_replicate]; omega), List.length_replicate]; omega) (by omega) (by unfold maxLen; omega)
    rw [nlen_padD hprod] at hn
    have hmk := make_nil (n := (wsG (dig X)).length + (wsG (dig Y)).length) (by omega) (by omega)
    rw [show capN ((wsG (dig X)).length + (wsG (dig Y)).length) = (wsG (dig X)).length + (wsG (dig Y)).length + 4 from by unfold capN; rw [if_neg (by omega)]] at hmk
    have hadd : IntKind.i64.wrap (((wsG (dig X)).length : Int) + ((wsG (dig Y)).length : Int)) = (((wsG (dig X)).length + (wsG (dig Y)).length : Nat) : Int) := by rw [w64 (by omega)]; omega
    rw [← hadd] at hmk
    have hal1 := alias_nil (p := .g (.sl (wsG (dig X))))
    have hal2 := alias_nil (p := .g (.sl (wsG (dig Y))))
    generalize dig X = xs at *
    generalize dig Y = ys at *
    generalize dig (X * Y) = zs at *
    refine PC_of_PW Tryz.func67 rfl rfl (rs := _) rfl (Nat.le_of_ble_eq_true (by kernel_rfl)) ?_
    (repeat' (first|(first|((first|refine qA ?_|refine qB ?_|refine xN ?_|refine xE ?_|refine xT ?_); try show PW _ _ _ _ _ _)|refine ro1 tabOk rfl rfl ?_|refine ro2 tabOk rfl rfl ?_|refine ro3 tabOk rfl rfl ?_|refine rd1 tabOk rfl rfl ?_|refine rd2 tabOk rfl rfl ?_|refine rd3 tabOk rfl rfl ?_|((first|apply oR rfl rfl|(apply dF rfl rfl rfl; intro _)|(apply dP rfl rfl rfl; intro _)|(apply dL rfl rfl rfl; intro _)|apply dC rfl rfl rfl rfl); (focus (first|exact cJ|exact mG|exact bT|exact nD)); try exact kQ)|refine xU [9] rfl ?_|refine xR ?_|refine qxa rfl rfl mixed ?_|refine qxb rfl rfl mixed ?_|refine qxi rfl rfl rfl rfl rfl mixed ?_|refine qxc rfl rfl mixed ?_|refine qxd rfl rfl mixed ?_|refine xB ?_|refine xt rfl ?_|refine xf rfl ?_)|(refine POps_split rfl rfl (fun h => ?_) (fun h => ?_) <;> fail_if_success (first|(have : true = true := h)|(have : false = false := h)))|(refine POpsD_split rfl rfl (fun h => ?_) (fun h => ?_) <;> fail_if_success (first|(have : true = true := h)|(have : false = false := h)))|refine PW_cond rfl (fun h => ?_) (fun h => ?_)))
    all_goals (try (exfalso; have hh := of_decide_eq_true h; first | omega | (simp only [wsG_length, List.length_cons, List.length_nil] at hh; omega)))
    try clear h
    (repeat' (first|(first|((first|refine qA ?_|refine qB ?_|refine xN ?_|refine xE ?_|refine xT ?_); try show PW _ _ _ _ _ _)|refine ro1 tabOk rfl rfl ?_|refine ro2 tabOk rfl rfl ?_|refine ro3 tabOk rfl rfl ?_|refine rd1 tabOk rfl rfl ?_|refine rd2 tabOk rfl rfl ?_|refine rd3 tabOk rfl rfl ?_|((first|apply oR rfl rfl|(apply dF rfl rfl rfl; intro _)|(apply dP rfl rfl rfl; intro _)|(apply dL rfl rfl rfl; intro _)|apply dC rfl rfl rfl rfl); (focus (first|exact cb [true] rfl rfl (EN rfl) (hal1) rfl rfl rfl rfl rfl rfl rfl rfl rfl rfl rfl|exact cb [true] rfl rfl (EN rfl) (hal2) rfl rfl rfl rfl rfl rfl rfl rfl rfl rfl rfl|exact cd [true] rfl rfl (EN rfl) (hmk) rfl rfl rfl rfl rfl rfl rfl rfl rfl rfl rfl|exact PO_loadg rfl (AG rfl) rfl rfl|exact cd [] rfl rfl (EN rfl) (hb) rfl rfl rfl rfl rfl rfl rfl rfl rfl rfl rfl|exact cd [] rfl rfl (EN rfl) (hn) rfl rfl rfl rfl rfl rfl rfl rfl rfl rfl rfl|exact cJ|exact mG|exact bT|exact nD)); try exact kQ)|refine xU [15] rfl ?_|refine xR ?_|refine qxa rfl rfl mixed ?_|refine qxb rfl rfl mixed ?_|refine qxi rfl rfl rfl rfl rfl mixed ?_|refine qxc rfl rfl mixed ?_|refine qxd rfl rfl mixed ?_|refine xB ?_|refine xt rfl ?_|refine xf rfl ?_)|(refine POps_split rfl rfl (fun h => ?_) (fun h => ?_) <;> fail_if_success (first|(have : true = true := h)|(have : false = false := h)))|(refine POpsD_split rfl rfl (fun h => ?_) (fun h => ?_) <;> fail_if_success (first|(have : true = true := h)|(have : false = false := h)))|refine PW_cond rfl (fun h => ?_) (fun h => ?_)))
    all_goals (try (exfalso; have hh := of_decide_eq_false h; first | omega | (simp only [wsG_length, List.length_cons, List.length_nil] at hh; omega)))
    (first|refine Ret_box (wC vT wN) rfl rfl rfl rfl rfl rfl rfl rfl rfl ?_ ?_ ?_ rfl)
    all_goals rfl

def prodW (X Y : Nat) : List Nat := putL (List.replicate ((wsG (dig X)).length + (wsG (dig Y)).length + 4) 0) 0 (padD ((wsG (dig X)).length + (wsG (dig Y)).length) (X * Y))
theorem prodW_comm (X Y : Nat) : prodW X Y = prodW Y X := by
  unfold prodW
  rw [Nat.add_comm (wsG (dig X)).length, Nat.mul_comm X]
theorem prodW_take (X Y : Nat) : (prodW X Y).take (dig (X * Y)).length = dig (X * Y) := by
  unfold prodW
  have hp := prod_lt (okW_dig X) (okW_dig Y)
  rw [val_dig, val_dig, ← dig_wlen X, ← dig_wlen Y] at hp
  have hpl := padD_length ((wsG (dig X)).length + (wsG (dig Y)).length) (X * Y)
  have hl := dig_length_le hp
  rw [putL_zero, List.take_append_of_le_length (by omega)]
  exact take_padD hp
set_option maxRecDepth 100000 in
set_option maxHeartbeats 8000000 in
theorem mul_g {X Y : Nat} (hX : X ≠ 0) (hY : Y ≠ 0) (hm : (wsG (dig X)).length ≤ 30) (hm2 : (wsG (dig Y)).length ≤ 30) :
    PC Tryz.prog 67 [.nils, .any, .g (.sl (wsG (dig X))), .g (.sl (wsG (dig Y)))] ⟨[], [], []⟩ (.vw 0 0 0 (dig (X * Y)).length ((wsG (dig X)).length + (wsG (dig Y)).length + 4)) ⟨[], [], [AR 0 (prodW X Y)]⟩ := by
  by_cases hge : (wsG (dig Y)).length ≤ (wsG (dig X)).length
  · exact mul_ge hX hY hge hm
  · have hc := mul_ge hY hX (by omega) hm2
    rw [show putL (List.replicate ((wsG (dig Y)).length + (wsG (dig X)).length + 4) 0) 0 (padD ((wsG (dig Y)).length + (wsG (dig X)).length) (Y * X)) = prodW X Y from prodW_comm Y X, Nat.mul_comm Y X, Nat.add_comm (wsG (dig Y)).length] at hc
    generalize prodW X Y = pw at *
    generalize dig X = xs at *
    generalize dig Y = ys at *
    generalize dig (X * Y) = zs at *
    refine PC_of_PW Tryz.func67 rfl rfl (rs := _) rfl (Nat.le_of_ble_eq_true (by kernel_rfl)) ?_
    (repeat (first|((first|refine qA ?_|refine qB ?_|refine xN ?_|refine xE ?_|refine xT ?_); try show PW _ _ _ _ _ _)|refine ro1 tabOk rfl rfl ?_|refine ro2 tabOk rfl rfl ?_|refine ro3 tabOk rfl rfl ?_|refine rd1 tabOk rfl rfl ?_|refine rd2 tabOk rfl rfl ?_|refine rd3 tabOk rfl rfl ?_|((first|apply oR rfl rfl|(apply dF rfl rfl rfl; intro _)|(apply dP rfl rfl rfl; intro _)|(apply dL rfl rfl rfl; intro _)|apply dC rfl rfl rfl rfl); (focus (first|exact cJ|exact mG|exact bT|exact nD)); try exact kQ)|refine xS ?_|refine xR ?_|refine qxa rfl rfl mixed ?_|refine qxb rfl rfl mixed ?_|refine qxi rfl rfl rfl rfl rfl mixed ?_|refine qxc rfl rfl mixed ?_|refine qxd rfl rfl mixed ?_|refine xB ?_|refine xt rfl ?_|refine xf rfl ?_))
    (first|refine POps_split rfl rfl (fun h => ?_) (fun h => ?_)|refine POpsD_split rfl rfl (fun h => ?_) (fun h => ?_)|refine PW_cond rfl (fun h => ?_) (fun h => ?_))
    · (repeat (first|((first|refine qA ?_|refine qB ?_|refine xN ?_|refine xE ?_|refine xT ?_); try show PW _ _ _ _ _ _)|refine ro1 tabOk rfl rfl ?_|refine ro2 tabOk rfl rfl ?_|refine ro3 tabOk rfl rfl ?_|refine rd1 tabOk rfl rfl ?_|refine rd2 tabOk rfl rfl ?_|refine rd3 tabOk rfl rfl ?_|((first|apply oR rfl rfl|(apply dF rfl rfl rfl; intro _)|(apply dP rfl rfl rfl; intro _)|(apply dL rfl rfl rfl; intro _)|apply dC rfl rfl rfl rfl); (focus (first|exact cd [true] rfl rfl (EN rfl) (hc) rfl rfl rfl rfl rfl rfl rfl rfl rfl rfl rfl|exact cJ|exact mG|exact bT|exact nD)); try exact kQ)|refine xS ?_|refine xR ?_|refine qxa rfl rfl mixed ?_|refine qxb rfl rfl mixed ?_|refine qxi rfl rfl rfl rfl rfl mixed ?_|refine qxc rfl rfl mixed ?_|refine qxd rfl rfl mixed ?_|refine xB ?_|refine xt rfl ?_|refine xf rfl ?_))
      (first|refine Ret_box (wC vT wN) rfl rfl rfl rfl rfl rfl rfl rfl rfl ?_ ?_ ?_ rfl)
      all_goals rfl
    · exfalso; have hh := of_decide_eq_false h; omega
set_option maxRecDepth 100000 in
set_option maxHeartbeats 8000000 in
theorem mul_z {X Y : Nat} (h0 : X = 0 ∨ Y = 0) : PC Tryz.prog 67 [.nils, .any, .g (.sl (wsG (dig X))), .g (.sl (wsG (dig Y)))] ⟨[], [], []⟩ .nils ⟨[], [], []⟩ := by
  have key : ∀ ys xs : List Nat, (wsG xs).length = 0 ∨ (wsG ys).length = 0 → (wsG ys).length ≤ (wsG xs).length → PC Tryz.prog 67 [.nils, .any, .g (.sl (wsG xs)), .g (.sl (wsG ys))] ⟨[], [], []⟩ .nils ⟨[], [], []⟩ := by
    intro ys xs h0 hle
    refine PC_of_PW Tryz.func67 rfl rfl (rs := _) rfl (Nat.le_of_ble_eq_true (by kernel_rfl)) ?_
    (repeat' (first|(first|((first|refine qA ?_|refine qB ?_|refine xN ?_|refine xE ?_|refine xT ?_); try show PW _ _ _ _ _ _)|refine ro1 tabOk rfl rfl ?_|refine ro2 tabOk rfl rfl ?_|refine ro3 tabOk rfl rfl ?_|refine rd1 tabOk rfl rfl ?_|refine rd2 tabOk rfl rfl ?_|refine rd3 tabOk rfl rfl ?_|((first|apply oR rfl rfl|(apply dF rfl rfl rfl; intro _)|(apply dP rfl rfl rfl; intro _)|(apply dL rfl rfl rfl; intro _)|apply dC rfl rfl rfl rfl); (focus (first|exact PO_nslice rfl (EL rfl) (SZ rfl) rfl rfl rfl rfl rfl|exact cJ|exact mG|exact bT|exact nD)); try exact kQ)|refine xU [7] rfl ?_|refine xR ?_|refine qxa rfl rfl mixed ?_|refine qxb rfl rfl mixed ?_|refine qxi rfl rfl rfl rfl rfl mixed ?_|refine qxc rfl rfl mixed ?_|refine qxd rfl rfl mixed ?_|refine xB ?_|refine xt rfl ?_|refine xf rfl ?_)|(refine POps_split rfl rfl (fun h => ?_) (fun h => ?_) <;> fail_if_success (first|(have : true = true := h)|(have : false = false := h)))|(refine POpsD_split rfl rfl (fun h => ?_) (fun h => ?_) <;> fail_if_success (first|(have : true = true := h)|(have : false = false := h)))|refine PW_cond rfl (fun h => ?_) (fun h => ?_)))
    all_goals (try (exfalso; have hh := of_decide_eq_true h; omega))
    all_goals (first | ((first|refine Ret_box (wC vT wN) rfl rfl rfl rfl rfl rfl rfl rfl rfl ?_ ?_ ?_ rfl); all_goals rfl) | (exfalso; simp only [beq_eq_false_iff_ne, ne_eq, decide_eq_false_iff_not] at *; omega))
  have hx : (wsG (dig X)).length = 0 ∨ (wsG (dig Y)).length = 0 := by
    rcases h0 with h0 | h0 <;> subst h0
    · left; rw [dig_zero]; rfl
    · right; rw [dig_zero]; rfl
  by_cases hge : (wsG (dig Y)).length ≤ (wsG (dig X)).length
  · exact key (dig Y) (dig X) hx hge
  · have hc := key (dig X) (dig Y) (by omega) (by omega)
    generalize dig X = xs at *
    generalize dig Y = ys at *
    refine PC_of_PW Tryz.func67 rfl rfl (rs := _) rfl (Nat.le_of_ble_eq_true (by kernel_rfl)) ?_
    (repeat (first|((first|refine qA ?_|refine qB ?_|refine xN ?_|refine xE ?_|refine xT ?_); try show PW _ _ _ _ _ _)|refine ro1 tabOk rfl rfl ?_|refine ro2 tabOk rfl rfl ?_|refine ro3 tabOk rfl rfl ?_|refine rd1 tabOk rfl rfl ?_|refine rd2 tabOk rfl rfl ?_|refine rd3 tabOk rfl rfl ?_|((first|apply oR rfl rfl|(apply dF rfl rfl rfl; intro _)|(apply dP rfl rfl rfl; intro _)|(apply dL rfl rfl rfl; intro _)|apply dC rfl rfl rfl rfl); (focus (first|exact cJ|exact mG|exact bT|exact nD)); try exact kQ)|refine xS ?_|refine xR ?_|refine qxa rfl rfl mixed ?_|refine qxb rfl rfl mixed ?_|refine qxi rfl rfl rfl rfl rfl mixed ?_|refine qxc rfl rfl mixed ?_|refine qxd rfl rfl mixed ?_|refine xB ?_|refine xt rfl ?_|refine xf rfl ?_))
    (first|refine POps_split rfl rfl (fun h => ?_) (fun h => ?_)|refine POpsD_split rfl rfl (fun h => ?_) (fun h => ?_)|refine PW_cond rfl (fun h => ?_) (fun h => ?_))
    · (repeat (first|((first|refine qA ?_|refine qB ?_|refine xN ?_|refine xE ?_|refine xT ?_); try show PW _ _ _ _ _ _)|refine ro1 tabOk rfl rfl ?_|refine ro2 tabOk rfl rfl ?_|refine ro3 tabOk rfl rfl ?_|refine rd1 tabOk rfl rfl ?_|refine rd2 tabOk rfl rfl ?_|refine rd3 tabOk rfl rfl ?_|((first|apply oR rfl rfl|(apply dF rfl rfl rfl; intro _)|(apply dP rfl rfl rfl; intro _)|(apply dL rfl rfl rfl; intro _)|apply dC rfl rfl rfl rfl); (focus (first|exact cb [true, true] rfl rfl (EN rfl) (hc) rfl rfl rfl rfl rfl rfl rfl rfl rfl rfl rfl|exact cJ|exact mG|exact bT|exact nD)); try exact kQ)|refine xS ?_|refine xR ?_|refine qxa rfl rfl mixed ?_|refine qxb rfl rfl mixed ?_|refine qxi rfl rfl rfl rfl rfl mixed ?_|refine qxc rfl rfl mixed ?_|refine qxd rfl rfl mixed ?_|refine xB ?_|refine xt rfl ?_|refine xf rfl ?_))
      (first|refine Ret_box (wC vT wN) rfl rfl rfl rfl rfl rfl rfl rfl rfl ?_ ?_ ?_ rfl)
      all_goals rfl
    · exfalso; have hh := of_decide_eq_false h; omega
end Go.Proofs.YtdicineiaifahaaGreatDoor

