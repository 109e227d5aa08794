/- What the program's functions compute, each shown once; and plain laws of it. -/
import Derived.Test.YtdicineiaifahaaGreatDoorOwnN
namespace Go.Pure.V
open Go Go.Proofs Go.Proofs.YtdicineiaifahaaGreatDoor
attribute [local irreducible] PW POps POpsD PO PC Cond

theorem div_pc {X Y : Nat} (h0 : Y ≠ 0) (hY : Y < WB * WB ∨ X < Y) (hm : (dig X).length ≤ 10000) (hm2 : (dig Y).length ≤ 10000) : PC Tryz.prog 72 [.g (.sl (wsG (dig X))), .g (.sl (wsG (dig Y)))] ⟨[], [], []⟩ (.tuple [.g (.sl (wsG (dig (X / Y)))), .g (.sl (wsG (dig (X % Y))))]) ⟨[], [], []⟩ := by
  by_cases h : X < Y
  · exact div_less h (by omega) (by omega)
  · have hY : Y < WB * WB := hY.resolve_right h
    by_cases hX : X < WB * WB
    · exact div_plain h0 (by omega) hX
    · by_cases h1 : Y < WB
      · exact div_one h0 h1 (by omega) (by omega)
      · exact div_two (by omega) hY (by omega) hm
theorem len_two {B : Nat} (h : (wsG (dig B)).length ≤ 2) : B < WB * WB := by
  rw [dig_wlen] at h
  have h1 := val_lt (okW_dig B)
  rw [val_dig] at h1
  have h2 : WB ^ (dig B).length ≤ WB ^ 2 := Nat.pow_le_pow_right (by decide) h
  have : WB ^ 2 = WB * WB := by rw [Nat.pow_succ, Nat.pow_one]
  omega
theorem gcd_swap (x y : Nat) : Nat.gcd y (x % y) = Nat.gcd x y := by
  rw [Nat.gcd_comm y (x % y), ← Nat.gcd_rec, Nat.gcd_comm]

set_option maxRecDepth 100000 in
set_option maxHeartbeats 8000000 in
theorem common_pc {X Y : Nat} (hX0 : X ≠ 0) (hX : X < WB * WB) (hY0 : Y ≠ 0) (hm : (dig Y).length ≤ 10000) : PC Tryz.prog 71 [.g (.sl (wsG (dig X))), .g (.sl (wsG (dig Y)))] ⟨[], [], []⟩ (.g (.sl (wsG (dig (Nat.gcd X Y))))) ⟨[], [], []⟩ := by
  have hmX : (dig X).length ≤ 10000 := by have := dig_two hX; rw [dig_wlen] at this; omega
  refine PC_of_PW Tryz.func71 rfl rfl (rs := _) rfl (Nat.le_of_ble_eq_true (by kernel_rfl)) ?_
  (repeat (first|((first|refine qA ?_|refine qB ?_|refine xN ?_|refine xE ?_|refine xT ?_); try show PW _ _ _ _ _ _)|refine ro1 tabOk rfl rfl ?_|refine ro2 tabOk rfl rfl ?_|refine ro3 tabOk rfl rfl ?_|refine rd1 tabOk rfl rfl ?_|refine rd2 tabOk rfl rfl ?_|refine rd3 tabOk rfl rfl ?_|((first|apply oR rfl rfl|(apply dF rfl rfl rfl; intro _)|(apply dP rfl rfl rfl; intro _)|(apply dL rfl rfl rfl; intro _)|apply dC rfl rfl rfl rfl); (focus (first|exact cJ|exact mG|exact bT|exact nD)); try exact kQ)|refine xS ?_|refine xR ?_|refine qxa rfl rfl mixed ?_|refine qxb rfl rfl mixed ?_|refine qxi rfl rfl rfl rfl rfl mixed ?_|refine qxc rfl rfl mixed ?_|refine qxd rfl rfl mixed ?_|refine xB ?_|refine xt rfl ?_|refine xf rfl ?_))
  refine PW_loop (S := Nat × Nat) (fun s => slots [(0, .g (.sl (wsG (dig s.1)))), (1, .g (.sl (wsG (dig s.2))))]) (fun _ => ⟨[], [], []⟩) (fun s => Nat.gcd s.1 s.2 = Nat.gcd X Y ∧ s.1 ≠ 0 ∧ s.2 ≠ 0 ∧ (s.1 < WB * WB ∨ s.2 < WB * WB) ∧ (dig s.1).length ≤ 10000 ∧ (dig s.2).length ≤ 10000) (fun s => s.2) (X, Y) ⟨rfl, hX0, hY0, .inl hX, hmX, hm⟩
    (SlotsOk.le ⟨.inl rfl, .inl rfl, trivial⟩) (HLe.of_eq rfl) (fun s hs => ?_)
  obtain ⟨A, B⟩ := s
  obtain ⟨i1, i2, i3, i4, i5, i6⟩ := hs
  dsimp only at i1 i2 i3 i4 i5 i6
  (repeat (first|((first|refine qA ?_|refine qB ?_|refine xN ?_|refine xE ?_|refine xT ?_); try show PW _ _ _ _ _ _)|refine ro1 tabOk rfl rfl ?_|refine ro2 tabOk rfl rfl ?_|refine ro3 tabOk rfl rfl ?_|refine rd1 tabOk rfl rfl ?_|refine rd2 tabOk rfl rfl ?_|refine rd3 tabOk rfl rfl ?_|((first|apply oR rfl rfl|(apply dF rfl rfl rfl; intro _)|(apply dP rfl rfl rfl; intro _)|(apply dL rfl rfl rfl; intro _)|apply dC rfl rfl rfl rfl); (focus (first|exact cJ|exact mG|exact bT|exact nD)); try exact kQ)|refine xS ?_|refine xR ?_|refine qxa rfl rfl mixed ?_|refine qxb rfl rfl mixed ?_|refine qxi rfl rfl rfl rfl rfl mixed ?_|refine qxc rfl rfl mixed ?_|refine qxd rfl rfl mixed ?_|refine xB ?_|refine xt rfl ?_|refine xf rfl ?_))
  (first|refine POps_split rfl rfl (fun h => ?_) (fun h => ?_)|refine POpsD_split rfl rfl (fun h => ?_) (fun h => ?_)|refine PW_cond rfl (fun h => ?_) (fun h => ?_))
  all_goals dsimp only at h
  · have hB : WB * WB ≤ B := by
      refine Classical.byContradiction fun hc => ?_
      have := dig_two (X := B) (by omega)
      have := of_decide_eq_true h
      omega
    have hA : A < WB * WB := by rcases i4 with h | h <;> omega
    have hd := div_pc (X := A) (Y := B) i3 (.inr (by omega)) i5 i6
    rw [Nat.mod_eq_of_lt (show A < B by omega)] at hd
    clear h
    (repeat (first|((first|refine qA ?_|refine qB ?_|refine xN ?_|refine xE ?_|refine xT ?_); try show PW _ _ _ _ _ _)|refine ro1 tabOk rfl rfl ?_|refine ro2 tabOk rfl rfl ?_|refine ro3 tabOk rfl rfl ?_|refine rd1 tabOk rfl rfl ?_|refine rd2 tabOk rfl rfl ?_|refine rd3 tabOk rfl rfl ?_|((first|apply oR rfl rfl|(apply dF rfl rfl rfl; intro _)|(apply dP rfl rfl rfl; intro _)|(apply dL rfl rfl rfl; intro _)|apply dC rfl rfl rfl rfl); (focus (first|exact cqP hd|exact cJ|exact mG|exact bT|exact nD)); try exact kQ)|refine xS ?_|refine xR ?_|refine qxa rfl rfl mixed ?_|refine qxb rfl rfl mixed ?_|refine qxi rfl rfl rfl rfl rfl mixed ?_|refine qxc rfl rfl mixed ?_|refine qxd rfl rfl mixed ?_|refine xB ?_|refine xt rfl ?_|refine xf rfl ?_))
    exact ⟨(B, A), ⟨by rw [← i1]; exact Nat.gcd_comm _ _, i3, i2, .inr hA, i6, i5⟩, by dsimp only; omega, SlotsOk.le ⟨.inl rfl, .inl rfl, trivial⟩, HLe.of_eq rfl⟩
  · have hB : B < WB * WB := len_two (by have := of_decide_eq_false h; omega)
    clear h
    have hp := dig_len_pos i3
    (repeat (first|((first|refine qA ?_|refine qB ?_|refine xN ?_|refine xE ?_|refine xT ?_); try show PW _ _ _ _ _ _)|refine ro1 tabOk rfl rfl ?_|refine ro2 tabOk rfl rfl ?_|refine ro3 tabOk rfl rfl ?_|refine rd1 tabOk rfl rfl ?_|refine rd2 tabOk rfl rfl ?_|refine rd3 tabOk rfl rfl ?_|((first|apply oR rfl rfl|(apply dF rfl rfl rfl; intro _)|(apply dP rfl rfl rfl; intro _)|(apply dL rfl rfl rfl; intro _)|apply dC rfl rfl rfl rfl); (focus (first|exact cJ|exact mG|exact bT|exact nD)); try exact kQ)|refine xS ?_|refine xR ?_|refine qxa rfl rfl mixed ?_|refine qxb rfl rfl mixed ?_|refine qxi rfl rfl rfl rfl rfl mixed ?_|refine qxc rfl rfl mixed ?_|refine qxd rfl rfl mixed ?_|refine xB ?_|refine xt rfl ?_|refine xf rfl ?_))
    (first|refine POps_split rfl rfl (fun h => ?_) (fun h => ?_)|refine POpsD_split rfl rfl (fun h => ?_) (fun h => ?_)|refine PW_cond rfl (fun h => ?_) (fun h => ?_))
    · exfalso; have hh := beq_iff_eq.1 h; dsimp only at hh; omega
    clear h
    (repeat (first|((first|refine qA ?_|refine qB ?_|refine xN ?_|refine xE ?_|refine xT ?_); try show PW _ _ _ _ _ _)|refine ro1 tabOk rfl rfl ?_|refine ro2 tabOk rfl rfl ?_|refine ro3 tabOk rfl rfl ?_|refine rd1 tabOk rfl rfl ?_|refine rd2 tabOk rfl rfl ?_|refine rd3 tabOk rfl rfl ?_|((first|apply oR rfl rfl|(apply dF rfl rfl rfl; intro _)|(apply dP rfl rfl rfl; intro _)|(apply dL rfl rfl rfl; intro _)|apply dC rfl rfl rfl rfl); (focus (first|exact cJ|exact mG|exact bT|exact nD)); try exact kQ)|refine xU [6] rfl ?_|refine xR ?_|refine qxa rfl rfl mixed ?_|refine qxb rfl rfl mixed ?_|refine qxi rfl rfl rfl rfl rfl mixed ?_|refine qxc rfl rfl mixed ?_|refine qxd rfl rfl mixed ?_|refine xB ?_|refine xt rfl ?_|refine xf rfl ?_))
    refine PW_cut_ex (S := Nat × Nat) (fun s => slots [(0, .g (.sl (wsG (dig s.1)))), (1, .g (.sl (wsG (dig s.2))))]) (fun _ => ⟨[], [], []⟩) (fun s => Nat.gcd s.1 s.2 = Nat.gcd X Y ∧ s.1 < WB * WB ∧ s.2 < WB * WB) ?_ ?_
    · (repeat (first|((first|refine qA ?_|refine qB ?_|refine xN ?_|refine xE ?_|refine xT ?_); try show PW _ _ _ _ _ _)|refine ro1 tabOk rfl rfl ?_|refine ro2 tabOk rfl rfl ?_|refine ro3 tabOk rfl rfl ?_|refine rd1 tabOk rfl rfl ?_|refine rd2 tabOk rfl rfl ?_|refine rd3 tabOk rfl rfl ?_|((first|apply oR rfl rfl|(apply dF rfl rfl rfl; intro _)|(apply dP rfl rfl rfl; intro _)|(apply dL rfl rfl rfl; intro _)|apply dC rfl rfl rfl rfl); (focus (first|exact cJ|exact mG|exact bT|exact nD)); try exact kQ)|refine xS ?_|refine xR ?_|refine qxa rfl rfl mixed ?_|refine qxb rfl rfl mixed ?_|refine qxi rfl rfl rfl rfl rfl mixed ?_|refine qxc rfl rfl mixed ?_|refine qxd rfl rfl mixed ?_|refine xB ?_|refine xt rfl ?_|refine xf rfl ?_))
      (first|refine POps_split rfl rfl (fun h => ?_) (fun h => ?_)|refine POpsD_split rfl rfl (fun h => ?_) (fun h => ?_)|refine PW_cond rfl (fun h => ?_) (fun h => ?_))
      · have hd := div_pc (X := A) (Y := B) i3 (.inl hB) i5 i6
        clear h
        (repeat (first|((first|refine qA ?_|refine qB ?_|refine xN ?_|refine xE ?_|refine xT ?_); try show PW _ _ _ _ _ _)|refine ro1 tabOk rfl rfl ?_|refine ro2 tabOk rfl rfl ?_|refine ro3 tabOk rfl rfl ?_|refine rd1 tabOk rfl rfl ?_|refine rd2 tabOk rfl rfl ?_|refine rd3 tabOk rfl rfl ?_|((first|apply oR rfl rfl|(apply dF rfl rfl rfl; intro _)|(apply dP rfl rfl rfl; intro _)|(apply dL rfl rfl rfl; intro _)|apply dC rfl rfl rfl rfl); (focus (first|exact cqP hd|exact cJ|exact mG|exact bT|exact nD)); try exact kQ)|refine xS ?_|refine xR ?_|refine qxa rfl rfl mixed ?_|refine qxb rfl rfl mixed ?_|refine qxi rfl rfl rfl rfl rfl mixed ?_|refine qxc rfl rfl mixed ?_|refine qxd rfl rfl mixed ?_|refine xB ?_|refine xt rfl ?_|refine xf rfl ?_))
        exact ⟨(B, A % B), ⟨by rw [← i1]; exact gcd_swap _ _, hB, Nat.lt_trans (Nat.mod_lt _ (by omega)) hB⟩, SlotsOk.le ⟨.inl rfl, .inl rfl, trivial⟩, HLe.of_eq rfl⟩
      · have hA : A < WB * WB := len_two (by have := of_decide_eq_false h; dsimp only at this; omega)
        clear h
        (repeat (first|((first|refine qA ?_|refine qB ?_|refine xN ?_|refine xE ?_|refine xT ?_); try show PW _ _ _ _ _ _)|refine ro1 tabOk rfl rfl ?_|refine ro2 tabOk rfl rfl ?_|refine ro3 tabOk rfl rfl ?_|refine rd1 tabOk rfl rfl ?_|refine rd2 tabOk rfl rfl ?_|refine rd3 tabOk rfl rfl ?_|((first|apply oR rfl rfl|(apply dF rfl rfl rfl; intro _)|(apply dP rfl rfl rfl; intro _)|(apply dL rfl rfl rfl; intro _)|apply dC rfl rfl rfl rfl); (focus (first|exact cJ|exact mG|exact bT|exact nD)); try exact kQ)|refine xS ?_|refine xR ?_|refine qxa rfl rfl mixed ?_|refine qxb rfl rfl mixed ?_|refine qxi rfl rfl rfl rfl rfl mixed ?_|refine qxc rfl rfl mixed ?_|refine qxd rfl rfl mixed ?_|refine xB ?_|refine xt rfl ?_|refine xf rfl ?_))
        exact ⟨(A, B), ⟨i1, hA, hB⟩, SlotsOk.le ⟨.inl rfl, .inl rfl, trivial⟩, HLe.of_eq rfl⟩
    · rintro ⟨a, b⟩ ⟨j1, j2, j3⟩
      dsimp only at j1 j2 j3
      have p1 := plain_pc j2
      have p2 := plain_pc j3
      (repeat (first|((first|refine qA ?_|refine qB ?_|refine xN ?_|refine xE ?_|refine xT ?_); try show PW _ _ _ _ _ _)|refine ro1 tabOk rfl rfl ?_|refine ro2 tabOk rfl rfl ?_|refine ro3 tabOk rfl rfl ?_|refine rd1 tabOk rfl rfl ?_|refine rd2 tabOk rfl rfl ?_|refine rd3 tabOk rfl rfl ?_|((first|apply oR rfl rfl|(apply dF rfl rfl rfl; intro _)|(apply dP rfl rfl rfl; intro _)|(apply dL rfl rfl rfl; intro _)|apply dC rfl rfl rfl rfl); (focus (first|exact cqP p1|exact cqP p2|exact cJ|exact mG|exact bT|exact nD)); try exact kQ)|refine xS ?_|refine xR ?_|refine qxa rfl rfl mixed ?_|refine qxb rfl rfl mixed ?_|refine qxi rfl rfl rfl rfl rfl mixed ?_|refine qxc rfl rfl mixed ?_|refine qxd rfl rfl mixed ?_|refine xB ?_|refine xt rfl ?_|refine xf rfl ?_))
      refine PW_loop (S := Nat × Nat) (fun s => slots [(9, .g (.int .u64 s.1)), (10, .g (.int .u64 s.2))]) (fun _ => ⟨[], [], []⟩) (fun s => Nat.gcd s.1 s.2 = Nat.gcd X Y ∧ s.1 < WB * WB ∧ s.2 < WB * WB) (fun s => s.2) (a, b) ⟨j1, j2, j3⟩
        (SlotsOk.le ⟨.inl rfl, .inl rfl, trivial⟩) (HLe.of_eq rfl) (fun s hs => ?_)
      obtain ⟨x, y⟩ := s
      obtain ⟨k1, k2, k3⟩ := hs
      dsimp only at k1 k2 k3
      (repeat (first|((first|refine qA ?_|refine qB ?_|refine xN ?_|refine xE ?_|refine xT ?_); try show PW _ _ _ _ _ _)|refine ro1 tabOk rfl rfl ?_|refine ro2 tabOk rfl rfl ?_|refine ro3 tabOk rfl rfl ?_|refine rd1 tabOk rfl rfl ?_|refine rd2 tabOk rfl rfl ?_|refine rd3 tabOk rfl rfl ?_|((first|apply oR rfl rfl|(apply dF rfl rfl rfl; intro _)|(apply dP rfl rfl rfl; intro _)|(apply dL rfl rfl rfl; intro _)|apply dC rfl rfl rfl rfl); (focus (first|exact cJ|exact mG|exact bT|exact nD)); try exact kQ)|refine xS ?_|refine xR ?_|refine qxa rfl rfl mixed ?_|refine qxb rfl rfl mixed ?_|refine qxi rfl rfl rfl rfl rfl mixed ?_|refine qxc rfl rfl mixed ?_|refine qxd rfl rfl mixed ?_|refine xB ?_|refine xt rfl ?_|refine xf rfl ?_))
      (first|refine POps_split rfl rfl (fun h => ?_) (fun h => ?_)|refine POpsD_split rfl rfl (fun h => ?_) (fun h => ?_)|refine PW_cond rfl (fun h => ?_) (fun h => ?_))
      · have hy : 0 < y := by have := of_decide_eq_true h; omega
        have hz : (y : Int) ≠ 0 := by omega
        clear h
        (repeat (first|((first|refine qA ?_|refine qB ?_|refine xN ?_|refine xE ?_|refine xT ?_); try show PW _ _ _ _ _ _)|refine ro1 tabOk rfl rfl ?_|refine ro2 tabOk rfl rfl ?_|refine ro3 tabOk rfl rfl ?_|refine rd1 tabOk rfl rfl ?_|refine rd2 tabOk rfl rfl ?_|refine rd3 tabOk rfl rfl ?_|((first|apply oR rfl rfl|(apply dF rfl rfl rfl; intro _)|(apply dP rfl rfl rfl; intro _)|(apply dL rfl rfl rfl; intro _)|apply dC rfl rfl rfl rfl); (focus (first|exact PO_as (PO_rem rfl rfl rfl hz) (congrArg (fun k => PV.g (.int .u64 k)) (@rem_nat x y))|exact cJ|exact mG|exact bT|exact nD)); try exact kQ)|refine xS ?_|refine xR ?_|refine qxa rfl rfl mixed ?_|refine qxb rfl rfl mixed ?_|refine qxi rfl rfl rfl rfl rfl mixed ?_|refine qxc rfl rfl mixed ?_|refine qxd rfl rfl mixed ?_|refine xB ?_|refine xt rfl ?_|refine xf rfl ?_))
        exact ⟨(y, x % y), ⟨by rw [← k1]; exact gcd_swap _ _, k3, Nat.lt_trans (Nat.mod_lt _ hy) k3⟩, Nat.mod_lt _ hy, SlotsOk.le ⟨.inl rfl, .inl rfl, trivial⟩, HLe.of_eq rfl⟩
      · have hy : y = 0 := by have := of_decide_eq_false h; omega
        subst hy
        rw [Nat.gcd_zero_right] at k1
        subst k1
        have hw := words_pc k2
        clear h
        (repeat (first|((first|refine qA ?_|refine qB ?_|refine xN ?_|refine xE ?_|refine xT ?_); try show PW _ _ _ _ _ _)|refine ro1 tabOk rfl rfl ?_|refine ro2 tabOk rfl rfl ?_|refine ro3 tabOk rfl rfl ?_|refine rd1 tabOk rfl rfl ?_|refine rd2 tabOk rfl rfl ?_|refine rd3 tabOk rfl rfl ?_|((first|apply oR rfl rfl|(apply dF rfl rfl rfl; intro _)|(apply dP rfl rfl rfl; intro _)|(apply dL rfl rfl rfl; intro _)|apply dC rfl rfl rfl rfl); (focus (first|exact cqP hw|exact cJ|exact mG|exact bT|exact nD)); try exact kQ)|refine xS ?_|refine xR ?_|refine qxa rfl rfl mixed ?_|refine qxb rfl rfl mixed ?_|refine qxi rfl rfl rfl rfl rfl mixed ?_|refine qxc rfl rfl mixed ?_|refine qxd rfl rfl mixed ?_|refine xB ?_|refine xt rfl ?_|refine xf rfl ?_))
        (first|refine Ret_int (vC vT vN) rfl ?_|refine Ret_bool (vC vT vN) rfl ?_|refine Ret_g (vC vT vN) rfl ?_)
        rfl
end Go.Pure.V

