/- What the program's functions compute, each shown once; and plain laws of it. -/
import Derived.Test.YtdicineiaifahaaGreatDoorOwnM
import Derived.Test.YtdicineiaifahaaGreatDoorPureQ
import Derived.Test.YtdicineiaifahaaGreatDoorOwnP
namespace Go.Pure.V
open Go Go.Proofs Go.Proofs.YtdicineiaifahaaGreatDoor
attribute [local irreducible] PW POps POpsD PO PC Cond

def ratV (z : Int) (b : Nat) : List PV := [.g (.bool (decide (z < 0))), .g (.sl (wsG (dig z.natAbs))), .g (.bool false), .g (.sl (wsG (dig b)))]
theorem mul_sign (x y : Int) : ((decide (x < 0) != decide (y < 0)) && decide (0 < (dig (x * y).natAbs).length)) = decide (x * y < 0) := by
  by_cases h0 : x * y = 0
  · rw [h0]
    simp [dig_zero]
  · have hl : 0 < (dig (x * y).natAbs).length := by have := dig_len_pos (X := (x * y).natAbs) (by omega); rwa [dig_wlen] at this
    rw [decide_eq_true hl, Bool.and_true]
    have hx : x ≠ 0 := fun e => h0 (by rw [e, Int.zero_mul])
    have hy : y ≠ 0 := fun e => h0 (by rw [e, Int.mul_zero])
    rcases Int.lt_trichotomy x 0 with h | h | h
    · rcases Int.lt_trichotomy y 0 with g | g | g
      · have := Int.mul_pos_of_neg_of_neg h g
        simp [h, g]; omega
      · exact absurd g hy
      · have := Int.mul_neg_of_neg_of_pos h g
        simp [h, this]; omega
    · exact absurd h hx
    · rcases Int.lt_trichotomy y 0 with g | g | g
      · have := Int.mul_neg_of_pos_of_neg h g
        simp [g, this]; omega
      · exact absurd g hy
      · have := Int.mul_pos h g
        rw [decide_eq_false (by omega), decide_eq_false (by omega), decide_eq_false (by omega)]; rfl
theorem cmpN_cmpI (a b : Nat) : cmpN a b = cmpI (a : Int) (b : Int) := by
  unfold cmpN cmpI
  by_cases h1 : a < b
  · rw [if_pos h1, if_pos (by omega)]
  · rw [if_neg h1, if_neg (show ¬ ((a : Int) < b) by omega)]
    by_cases h2 : b < a
    · rw [if_pos h2, if_pos (by omega)]
    · rw [if_neg h2, if_neg (by omega)]
theorem cmpI_neg {x y : Int} (hx : x < 0) (hy : y < 0) : IntKind.i64.wrap (0 - cmpN x.natAbs y.natAbs) = cmpI x y := by
  unfold cmpI cmpN
  rcases Int.lt_trichotomy x y with h | h | h
  · rw [if_neg (by omega), if_pos (by omega), if_pos h]; decide
  · rw [if_neg (by omega), if_neg (by omega), if_neg (by omega), if_neg (by omega)]; decide
  · rw [if_pos (by omega), if_neg (by omega), if_pos h]; decide
theorem cmpI_pos {x y : Int} (hx : 0 ≤ x) (hy : 0 ≤ y) : cmpN x.natAbs y.natAbs = cmpI x y := by
  rw [cmpN_cmpI, Int.natAbs_of_nonneg hx, Int.natAbs_of_nonneg hy]
theorem cmpI_np {x y : Int} (hx : x < 0) (hy : 0 ≤ y) : cmpI x y = -1 := by unfold cmpI; rw [if_pos (by omega)]
theorem cmpI_pn {x y : Int} (hx : 0 ≤ x) (hy : y < 0) : cmpI x y = 1 := by unfold cmpI; rw [if_neg (by omega), if_pos (by omega)]
theorem abs_mul (x y : Int) : x.natAbs * y.natAbs = (x * y).natAbs := (Int.natAbs_mul x y).symm
theorem intV_nat (n : Nat) : intV (n : Int) = [.g (.bool false), .g (.sl (wsG (dig n)))] := by
  unfold intV
  rw [decide_eq_false (show ¬ ((n : Int) < 0) by omega), Int.natAbs_natCast]
theorem den_pc {p q : Bool} {l : List Nat} {b : Nat} (hb : b ≠ 0) : PC Tryz.prog 55 [.ptr 0 0] ⟨[[.g (.bool p), .g (.sl (wsG l)), .g (.bool q), .g (.sl (wsG (dig b)))]], [], []⟩ (.ptr 0 2) ⟨[[.g (.bool p), .g (.sl (wsG l)), .g (.bool q), .g (.sl (wsG (dig b)))]], [], []⟩ := by
  have hp := dig_len_pos hb
  generalize dig b = m at *
  refine PC_of_PW Tryz.func55 rfl rfl (rs := _) rfl (Nat.le_of_ble_eq_true (by kernel_rfl)) ?_
  (repeat (first|((first|refine qA ?_|refine qB ?_|refine xN ?_|refine xE ?_|refine xT ?_); try show PW _ _ _ _ _ _)|refine ro1 tabOk rfl rfl ?_|refine ro2 tabOk rfl rfl ?_|refine ro3 tabOk rfl rfl ?_|(apply oR rfl rfl; (focus (first|exact cJ|exact mG|exact bT|exact nD)))|refine xS ?_|refine xR ?_|refine xB ?_|refine xt rfl ?_|refine xf rfl ?_))
  (first|refine POps_split rfl rfl (fun h => ?_) (fun h => ?_)|refine PW_cond rfl (fun h => ?_) (fun h => ?_))
  · exfalso; have hh := beq_iff_eq.1 h; omega
  clear h
  (repeat (first|((first|refine qA ?_|refine qB ?_|refine xN ?_|refine xE ?_|refine xT ?_); try show PW _ _ _ _ _ _)|refine ro1 tabOk rfl rfl ?_|refine ro2 tabOk rfl rfl ?_|refine ro3 tabOk rfl rfl ?_|(apply oR rfl rfl; (focus (first|exact cJ|exact mG|exact bT|exact nD)))|refine xS ?_|refine xR ?_|refine xB ?_|refine xt rfl ?_|refine xf rfl ?_))
  (first|refine Ret_box (wC vT wN) rfl rfl rfl rfl rfl rfl rfl rfl rfl ?_ ?_ ?_ rfl)
  all_goals rfl

set_option maxRecDepth 100000 in
set_option maxHeartbeats 8000000 in
theorem mul_b {p q u w : Bool} {m n zs xs ys : List Nat} (hc : PC Tryz.prog 65 [.g (.sl (wsG xs)), .g (.sl (wsG ys))] ⟨[], [], []⟩ (.g (.sl (wsG zs))) ⟨[], [], []⟩) : PC Tryz.prog 57 [.ptr 0 0, .ptr 1 0, .ptr 2 0] ⟨[[.g (.bool false), .nils], [.g (.bool p), .g (.sl (wsG xs)), .g (.bool u), .g (.sl (wsG m))], [.g (.bool q), .g (.sl (wsG ys)), .g (.bool w), .g (.sl (wsG n))]], [], []⟩ (.ptr 0 0) ⟨[[.g (.bool ((p != q) && decide (0 < zs.length))), .g (.sl (wsG zs))], [.g (.bool p), .g (.sl (wsG xs)), .g (.bool u), .g (.sl (wsG m))], [.g (.bool q), .g (.sl (wsG ys)), .g (.bool w), .g (.sl (wsG n))]], [], []⟩ := by
  have hg := give_pc (p := .g (.bool false)) (q := .nils) (neg := (p != q)) (l := zs)
  refine PC_of_PW Tryz.func57 rfl rfl (rs := _) rfl (Nat.le_of_ble_eq_true (by kernel_rfl)) ?_
  (repeat (first|((first|refine qA ?_|refine qB ?_|refine xN ?_|refine xE ?_|refine xT ?_); try show PW _ _ _ _ _ _)|refine ro1 tabOk rfl rfl ?_|refine ro2 tabOk rfl rfl ?_|refine ro3 tabOk rfl rfl ?_|refine rd1 tabOk rfl rfl ?_|refine rd2 tabOk rfl rfl ?_|refine rd3 tabOk rfl rfl ?_|((first|apply oR rfl rfl|(apply dF rfl rfl rfl; intro _)|(apply dP rfl rfl rfl; intro _)|(apply dL rfl rfl rfl; intro _)|apply dC rfl rfl rfl rfl); (focus (first|exact cqP hc|exact cd [] rfl rfl (EN rfl) (hg) rfl rfl rfl rfl rfl rfl rfl rfl rfl rfl rfl|exact cJ|exact mG|exact bT|exact nD)); try exact kQ)|refine xS ?_|refine xR ?_|refine xK false false [1, 2] rfl mixed (by decide +kernel) ?_|refine xK false true [1, 2] rfl mixed (by decide +kernel) ?_|refine xK true false [1, 2] rfl mixed (by decide +kernel) ?_|refine xK true true [1, 2] rfl mixed (by decide +kernel) ?_|refine xB ?_|refine xt rfl ?_|refine xf rfl ?_))
  (first|refine Ret_box (wC vT wN) rfl rfl rfl rfl rfl rfl rfl rfl rfl ?_ ?_ ?_ rfl)
  all_goals rfl

set_option maxRecDepth 100000 in
set_option maxHeartbeats 8000000 in
theorem mul_c {p q u w : Bool} {m n zs xs ys : List Nat} (hc : PC Tryz.prog 65 [.g (.sl (wsG xs)), .g (.sl (wsG ys))] ⟨[], [], []⟩ (.g (.sl (wsG zs))) ⟨[], [], []⟩) : PC Tryz.prog 57 [.ptr 0 0, .ptr 1 2, .ptr 2 2] ⟨[[.g (.bool false), .nils], [.g (.bool u), .g (.sl (wsG m)), .g (.bool p), .g (.sl (wsG xs))], [.g (.bool w), .g (.sl (wsG n)), .g (.bool q), .g (.sl (wsG ys))]], [], []⟩ (.ptr 0 0) ⟨[[.g (.bool ((p != q) && decide (0 < zs.length))), .g (.sl (wsG zs))], [.g (.bool u), .g (.sl (wsG m)), .g (.bool p), .g (.sl (wsG xs))], [.g (.bool w), .g (.sl (wsG n)), .g (.bool q), .g (.sl (wsG ys))]], [], []⟩ := by
  have hg := give_pc (p := .g (.bool false)) (q := .nils) (neg := (p != q)) (l := zs)
  refine PC_of_PW Tryz.func57 rfl rfl (rs := _) rfl (Nat.le_of_ble_eq_true (by kernel_rfl)) ?_
  (repeat (first|((first|refine qA ?_|refine qB ?_|refine xN ?_|refine xE ?_|refine xT ?_); try show PW _ _ _ _ _ _)|refine ro1 tabOk rfl rfl ?_|refine ro2 tabOk rfl rfl ?_|refine ro3 tabOk rfl rfl ?_|refine rd1 tabOk rfl rfl ?_|refine rd2 tabOk rfl rfl ?_|refine rd3 tabOk rfl rfl ?_|((first|apply oR rfl rfl|(apply dF rfl rfl rfl; intro _)|(apply dP rfl rfl rfl; intro _)|(apply dL rfl rfl rfl; intro _)|apply dC rfl rfl rfl rfl); (focus (first|exact cqP hc|exact cd [] rfl rfl (EN rfl) (hg) rfl rfl rfl rfl rfl rfl rfl rfl rfl rfl rfl|exact cJ|exact mG|exact bT|exact nD)); try exact kQ)|refine xS ?_|refine xR ?_|refine xK false false [1, 2] rfl mixed (by decide +kernel) ?_|refine xK false true [1, 2] rfl mixed (by decide +kernel) ?_|refine xK true false [1, 2] rfl mixed (by decide +kernel) ?_|refine xK true true [1, 2] rfl mixed (by decide +kernel) ?_|refine xB ?_|refine xt rfl ?_|refine xf rfl ?_))
  (first|refine Ret_box (wC vT wN) rfl rfl rfl rfl rfl rfl rfl rfl rfl ?_ ?_ ?_ rfl)
  all_goals rfl

set_option maxRecDepth 100000 in
set_option maxHeartbeats 8000000 in
theorem mul_d {p q u w : Bool} {m n zs xs ys : List Nat} (hc : PC Tryz.prog 65 [.g (.sl (wsG xs)), .g (.sl (wsG ys))] ⟨[], [], []⟩ (.g (.sl (wsG zs))) ⟨[], [], []⟩) : PC Tryz.prog 57 [.ptr 0 0, .ptr 1 0, .ptr 2 2] ⟨[[.g (.bool false), .nils], [.g (.bool p), .g (.sl (wsG xs)), .g (.bool u), .g (.sl (wsG m))], [.g (.bool w), .g (.sl (wsG n)), .g (.bool q), .g (.sl (wsG ys))]], [], []⟩ (.ptr 0 0) ⟨[[.g (.bool ((p != q) && decide (0 < zs.length))), .g (.sl (wsG zs))], [.g (.bool p), .g (.sl (wsG xs)), .g (.bool u), .g (.sl (wsG m))], [.g (.bool w), .g (.sl (wsG n)), .g (.bool q), .g (.sl (wsG ys))]], [], []⟩ := by
  have hg := give_pc (p := .g (.bool false)) (q := .nils) (neg := (p != q)) (l := zs)
  refine PC_of_PW Tryz.func57 rfl rfl (rs := _) rfl (Nat.le_of_ble_eq_true (by kernel_rfl)) ?_
  (repeat (first|((first|refine qA ?_|refine qB ?_|refine xN ?_|refine xE ?_|refine xT ?_); try show PW _ _ _ _ _ _)|refine ro1 tabOk rfl rfl ?_|refine ro2 tabOk rfl rfl ?_|refine ro3 tabOk rfl rfl ?_|refine rd1 tabOk rfl rfl ?_|refine rd2 tabOk rfl rfl ?_|refine rd3 tabOk rfl rfl ?_|((first|apply oR rfl rfl|(apply dF rfl rfl rfl; intro _)|(apply dP rfl rfl rfl; intro _)|(apply dL rfl rfl rfl; intro _)|apply dC rfl rfl rfl rfl); (focus (first|exact cqP hc|exact cd [] rfl rfl (EN rfl) (hg) rfl rfl rfl rfl rfl rfl rfl rfl rfl rfl rfl|exact cJ|exact mG|exact bT|exact nD)); try exact kQ)|refine xS ?_|refine xR ?_|refine xK false false [1, 2] rfl mixed (by decide +kernel) ?_|refine xK false true [1, 2] rfl mixed (by decide +kernel) ?_|refine xK true false [1, 2] rfl mixed (by decide +kernel) ?_|refine xK true true [1, 2] rfl mixed (by decide +kernel) ?_|refine xB ?_|refine xt rfl ?_|refine xf rfl ?_))
  (first|refine Ret_box (wC vT wN) rfl rfl rfl rfl rfl rfl rfl rfl rfl ?_ ?_ ?_ rfl)
  all_goals rfl

set_option maxRecDepth 100000 in
set_option maxHeartbeats 8000000 in
theorem mul_a {p q : Bool} {zs xs ys : List Nat} (hc : PC Tryz.prog 65 [.g (.sl (wsG xs)), .g (.sl (wsG ys))] ⟨[], [], []⟩ (.g (.sl (wsG zs))) ⟨[], [], []⟩) : PC Tryz.prog 57 [.ptr 0 0, .ptr 0 0, .ptr 1 0] ⟨[[.g (.bool p), .g (.sl (wsG xs))], [.g (.bool q), .g (.sl (wsG ys))]], [], []⟩ (.ptr 0 0) ⟨[[.g (.bool ((p != q) && decide (0 < zs.length))), .g (.sl (wsG zs))], [.g (.bool q), .g (.sl (wsG ys))]], [], []⟩ := by
  have hg := give_pc (p := .g (.bool p)) (q := .g (.sl (wsG xs))) (neg := (p != q)) (l := zs)
  refine PC_of_PW Tryz.func57 rfl rfl (rs := _) rfl (Nat.le_of_ble_eq_true (by kernel_rfl)) ?_
  (repeat (first|((first|refine qA ?_|refine qB ?_|refine xN ?_|refine xE ?_|refine xT ?_); try show PW _ _ _ _ _ _)|refine ro1 tabOk rfl rfl ?_|refine ro2 tabOk rfl rfl ?_|refine ro3 tabOk rfl rfl ?_|refine rd1 tabOk rfl rfl ?_|refine rd2 tabOk rfl rfl ?_|refine rd3 tabOk rfl rfl ?_|(apply dR rfl rfl; focus (first|exact Cond_t (cd [] rfl rfl (EN rfl) (hg) rfl rfl rfl rfl rfl rfl rfl rfl rfl rfl rfl)))|((first|apply oR rfl rfl|(apply dF rfl rfl rfl; intro _)|(apply dP rfl rfl rfl; intro _)|(apply dL rfl rfl rfl; intro _)|apply dC rfl rfl rfl rfl); (focus (first|exact cqP hc|exact cJ|exact mG|exact bT|exact nD)); try exact kQ)|refine xS ?_|refine xR ?_|refine xK false false [0, 1, 35026] rfl mixed (by decide +kernel) ?_|refine xK false true [0, 1, 35026] rfl mixed (by decide +kernel) ?_|refine xK true false [0, 1, 35026] rfl mixed (by decide +kernel) ?_|refine xK true true [0, 1, 35026] rfl mixed (by decide +kernel) ?_|refine xB ?_|refine xt rfl ?_|refine xf rfl ?_))
  (first|refine Ret_box (wC vT wN) rfl rfl rfl rfl rfl rfl rfl rfl rfl ?_ ?_ ?_ rfl)
  all_goals rfl

set_option maxRecDepth 100000 in
set_option maxHeartbeats 8000000 in
theorem cmp_c {x y : Int} (hX : (dig x.natAbs).length ≤ 100000) (hY : (dig y.natAbs).length ≤ 100000) : PC Tryz.prog 56 [.ptr 0 0, .ptr 1 0] ⟨[[.g (.bool (decide (x < 0))), .g (.sl (wsG (dig x.natAbs)))], [.g (.bool (decide (y < 0))), .g (.sl (wsG (dig y.natAbs)))]], [], []⟩ (.g (.int .i64 (cmpI x y))) ⟨[[.g (.bool (decide (x < 0))), .g (.sl (wsG (dig x.natAbs)))], [.g (.bool (decide (y < 0))), .g (.sl (wsG (dig y.natAbs)))]], [], []⟩ := by
  have hc := cmp_pc hX hY
  generalize dig x.natAbs = xs at *
  generalize dig y.natAbs = ys at *
  refine PC_of_PW Tryz.func56 rfl rfl (rs := _) rfl (Nat.le_of_ble_eq_true (by kernel_rfl)) ?_
  (repeat' (first|(first|((first|refine qA ?_|refine qB ?_|refine xN ?_|refine xE ?_|refine xT ?_); try show PW _ _ _ _ _ _)|refine ro1 tabOk rfl rfl ?_|refine ro2 tabOk rfl rfl ?_|refine ro3 tabOk rfl rfl ?_|refine rd1 tabOk rfl rfl ?_|refine rd2 tabOk rfl rfl ?_|refine rd3 tabOk rfl rfl ?_|((first|apply oR rfl rfl|(apply dF rfl rfl rfl; intro _)|(apply dP rfl rfl rfl; intro _)|(apply dL rfl rfl rfl; intro _)|apply dC rfl rfl rfl rfl); (focus (first|exact cqP hc|exact cJ|exact mG|exact bT|exact nD)); try exact kQ)|refine xS ?_|refine xR ?_|refine qxa rfl rfl mixed ?_|refine qxb rfl rfl mixed ?_|refine qxi rfl rfl rfl rfl rfl mixed ?_|refine qxc rfl rfl mixed ?_|refine qxd rfl rfl mixed ?_|refine xB ?_|refine xt rfl ?_|refine xf rfl ?_)|(refine POps_split rfl rfl (fun h => ?_) (fun h => ?_) <;> fail_if_success (first|(have : true = true := h)|(have : false = false := h)))|(refine POpsD_split rfl rfl (fun h => ?_) (fun h => ?_) <;> fail_if_success (first|(have : true = true := h)|(have : false = false := h)))|refine PW_cond rfl (fun h => ?_) (fun h => ?_)))
  all_goals ((first|refine Ret_box (wC vT wN) rfl rfl rfl rfl rfl rfl rfl rfl rfl ?_ ?_ ?_ rfl))
  all_goals (try rfl)
  all_goals (rename_i h1)
  all_goals refine congrArg (fun k => PV.g (.int .i64 k)) ?_
  all_goals
    first
      | (have hx := of_decide_eq_true h; have hy : y < 0 := (by rw [h] at h1; simpa using h1); exact cmpI_neg hx hy)
      | (have hx := of_decide_eq_false h; have hy : 0 ≤ y := (by rw [h] at h1; simpa using h1); exact cmpI_pos (by omega) hy)
      | (have hx := of_decide_eq_true h; have hy : 0 ≤ y := (by rw [h] at h1; simpa using h1); exact (cmpI_np hx hy).symm)
      | (have hx := of_decide_eq_false h; have hy : y < 0 := (by rw [h] at h1; simpa using h1); exact (cmpI_pn (by omega) hy).symm)

set_option maxRecDepth 100000 in
set_option maxHeartbeats 8000000 in
theorem cmp_b {x y : Int} {u w : Bool} {m n : List Nat} (hX : (dig x.natAbs).length ≤ 100000) (hY : (dig y.natAbs).length ≤ 100000) : PC Tryz.prog 56 [.ptr 0 0, .ptr 1 0] ⟨[[.g (.bool (decide (x < 0))), .g (.sl (wsG (dig x.natAbs))), .g (.bool u), .g (.sl (wsG m))], [.g (.bool (decide (y < 0))), .g (.sl (wsG (dig y.natAbs))), .g (.bool w), .g (.sl (wsG n))]], [], []⟩ (.g (.int .i64 (cmpI x y))) ⟨[[.g (.bool (decide (x < 0))), .g (.sl (wsG (dig x.natAbs))), .g (.bool u), .g (.sl (wsG m))], [.g (.bool (decide (y < 0))), .g (.sl (wsG (dig y.natAbs))), .g (.bool w), .g (.sl (wsG n))]], [], []⟩ := by
  have hc := cmp_pc hX hY
  generalize dig x.natAbs = xs at *
  generalize dig y.natAbs = ys at *
  refine PC_of_PW Tryz.func56 rfl rfl (rs := _) rfl (Nat.le_of_ble_eq_true (by kernel_rfl)) ?_
  (repeat' (first|(first|((first|refine qA ?_|refine qB ?_|refine xN ?_|refine xE ?_|refine xT ?_); try show PW _ _ _ _ _ _)|refine ro1 tabOk rfl rfl ?_|refine ro2 tabOk rfl rfl ?_|refine ro3 tabOk rfl rfl ?_|refine rd1 tabOk rfl rfl ?_|refine rd2 tabOk rfl rfl ?_|refine rd3 tabOk rfl rfl ?_|((first|apply oR rfl rfl|(apply dF rfl rfl rfl; intro _)|(apply dP rfl rfl rfl; intro _)|(apply dL rfl rfl rfl; intro _)|apply dC rfl rfl rfl rfl); (focus (first|exact cqP hc|exact cJ|exact mG|exact bT|exact nD)); try exact kQ)|refine xS ?_|refine xR ?_|refine qxa rfl rfl mixed ?_|refine qxb rfl rfl mixed ?_|refine qxi rfl rfl rfl rfl rfl mixed ?_|refine qxc rfl rfl mixed ?_|refine qxd rfl rfl mixed ?_|refine xB ?_|refine xt rfl ?_|refine xf rfl ?_)|(refine POps_split rfl rfl (fun h => ?_) (fun h => ?_) <;> fail_if_success (first|(have : true = true := h)|(have : false = false := h)))|(refine POpsD_split rfl rfl (fun h => ?_) (fun h => ?_) <;> fail_if_success (first|(have : true = true := h)|(have : false = false := h)))|refine PW_cond rfl (fun h => ?_) (fun h => ?_)))
  all_goals ((first|refine Ret_box (wC vT wN) rfl rfl rfl rfl rfl rfl rfl rfl rfl ?_ ?_ ?_ rfl))
  all_goals (try rfl)
  all_goals (rename_i h1)
  all_goals refine congrArg (fun k => PV.g (.int .i64 k)) ?_
  all_goals
    first
      | (have hx := of_decide_eq_true h; have hy : y < 0 := (by rw [h] at h1; simpa using h1); exact cmpI_neg hx hy)
      | (have hx := of_decide_eq_false h; have hy : 0 ≤ y := (by rw [h] at h1; simpa using h1); exact cmpI_pos (by omega) hy)
      | (have hx := of_decide_eq_true h; have hy : 0 ≤ y := (by rw [h] at h1; simpa using h1); exact (cmpI_np hx hy).symm)
      | (have hx := of_decide_eq_false h; have hy : y < 0 := (by rw [h] at h1; simpa using h1); exact (cmpI_pn (by omega) hy).symm)

set_option maxRecDepth 100000 in
set_option maxHeartbeats 8000000 in
theorem cmp_d {x y : Int} {u w : Bool} {m n : List Nat} (hX : (dig x.natAbs).length ≤ 100000) (hY : (dig y.natAbs).length ≤ 100000) : PC Tryz.prog 56 [.ptr 0 2, .ptr 1 2] ⟨[[.g (.bool u), .g (.sl (wsG m)), .g (.bool (decide (x < 0))), .g (.sl (wsG (dig x.natAbs)))], [.g (.bool w), .g (.sl (wsG n)), .g (.bool (decide (y < 0))), .g (.sl (wsG (dig y.natAbs)))]], [], []⟩ (.g (.int .i64 (cmpI x y))) ⟨[[.g (.bool u), .g (.sl (wsG m)), .g (.bool (decide (x < 0))), .g (.sl (wsG (dig x.natAbs)))], [.g (.bool w), .g (.sl (wsG n)), .g (.bool (decide (y < 0))), .g (.sl (wsG (dig y.natAbs)))]], [], []⟩ := by
  have hc := cmp_pc hX hY
  generalize dig x.natAbs = xs at *
  generalize dig y.natAbs = ys at *
  refine PC_of_PW Tryz.func56 rfl rfl (rs := _) rfl (Nat.le_of_ble_eq_true (by kernel_rfl)) ?_
  (repeat' (first|(first|((first|refine qA ?_|refine qB ?_|refine xN ?_|refine xE ?_|refine xT ?_); try show PW _ _ _ _ _ _)|refine ro1 tabOk rfl rfl ?_|refine ro2 tabOk rfl rfl ?_|refine ro3 tabOk rfl rfl ?_|refine rd1 tabOk rfl rfl ?_|refine rd2 tabOk rfl rfl ?_|refine rd3 tabOk rfl rfl ?_|((first|apply oR rfl rfl|(apply dF rfl rfl rfl; intro _)|(apply dP rfl rfl rfl; intro _)|(apply dL rfl rfl rfl; intro _)|apply dC rfl rfl rfl rfl); (focus (first|exact cqP hc|exact cJ|exact mG|exact bT|exact nD)); try exact kQ)|refine xS ?_|refine xR ?_|refine qxa rfl rfl mixed ?_|refine qxb rfl rfl mixed ?_|refine qxi rfl rfl rfl rfl rfl mixed ?_|refine qxc rfl rfl mixed ?_|refine qxd rfl rfl mixed ?_|refine xB ?_|refine xt rfl ?_|refine xf rfl ?_)|(refine POps_split rfl rfl (fun h => ?_) (fun h => ?_) <;> fail_if_success (first|(have : true = true := h)|(have : false = false := h)))|(refine POpsD_split rfl rfl (fun h => ?_) (fun h => ?_) <;> fail_if_success (first|(have : true = true := h)|(have : false = false := h)))|refine PW_cond rfl (fun h => ?_) (fun h => ?_)))
  all_goals ((first|refine Ret_box (wC vT wN) rfl rfl rfl rfl rfl rfl rfl rfl rfl ?_ ?_ ?_ rfl))
  all_goals (try rfl)
  all_goals (rename_i h1)
  all_goals refine congrArg (fun k => PV.g (.int .i64 k)) ?_
  all_goals
    first
      | (have hx := of_decide_eq_true h; have hy : y < 0 := (by rw [h] at h1; simpa using h1); exact cmpI_neg hx hy)
      | (have hx := of_decide_eq_false h; have hy : 0 ≤ y := (by rw [h] at h1; simpa using h1); exact cmpI_pos (by omega) hy)
      | (have hx := of_decide_eq_true h; have hy : 0 ≤ y := (by rw [h] at h1; simpa using h1); exact (cmpI_np hx hy).symm)
      | (have hx := of_decide_eq_false h; have hy : y < 0 := (by rw [h] at h1; simpa using h1); exact (cmpI_pn (by omega) hy).symm)
end Go.Pure.V


namespace Go.Pure.V
open Go Go.Proofs Go.Proofs.YtdicineiaifahaaGreatDoor
attribute [local irreducible] PW POps POpsD PO PC Cond

theorem give_half {u v : Bool} {m n l : List Nat} : PC Tryz.prog 64 [.ptr 0 2, .g (.bool false), .g (.sl (wsG l))] ⟨[[.g (.bool u), .g (.sl (wsG m)), .g (.bool v), .g (.sl (wsG n))]], [], []⟩ (.ptr 0 2) ⟨[[.g (.bool u), .g (.sl (wsG m)), .g (.bool false), .g (.sl (wsG l))]], [], []⟩ := by
  refine PC_of_PW Tryz.func64 rfl rfl (rs := _) rfl (Nat.le_of_ble_eq_true (by kernel_rfl)) ?_
  (repeat (first|((first|refine qA ?_|refine qB ?_|refine xN ?_|refine xE ?_|refine xT ?_); try show PW _ _ _ _ _ _)|refine ro1 tabOk rfl rfl ?_|refine ro2 tabOk rfl rfl ?_|refine ro3 tabOk rfl rfl ?_|(apply oR rfl rfl; (focus (first|exact cJ|exact mG|exact bT|exact nD)))|refine xS ?_|refine xR ?_|refine xB ?_|refine xt rfl ?_|refine xf rfl ?_))
  (first|refine Ret_box (wC vT wN) rfl rfl rfl rfl rfl rfl rfl rfl rfl ?_ ?_ ?_ rfl)
  all_goals rfl
theorem one_half {u v : Bool} {m n : List Nat} : PC Tryz.prog 62 [.ptr 0 2, .g (.int .i64 1)] ⟨[[.g (.bool u), .g (.sl (wsG m)), .g (.bool v), .g (.sl (wsG n))]], [], []⟩ (.ptr 0 2) ⟨[[.g (.bool u), .g (.sl (wsG m)), .g (.bool false), .g (.sl (wsG [1]))]], [], []⟩ := by
  have hw := words_pc (x := 1) (by decide)
  rw [dig_one (n := 1) (by decide) (by decide)] at hw
  have hg := give_half (u := u) (v := v) (m := m) (n := n) (l := [1])
  refine PC_of_PW Tryz.func62 rfl rfl (rs := _) rfl (Nat.le_of_ble_eq_true (by kernel_rfl)) ?_
  (repeat (first|((first|refine qA ?_|refine qB ?_|refine xN ?_|refine xE ?_|refine xT ?_); try show PW _ _ _ _ _ _)|refine ro1 tabOk rfl rfl ?_|refine ro2 tabOk rfl rfl ?_|refine ro3 tabOk rfl rfl ?_|(apply oR rfl rfl; (focus (first|exact cqP hw|exact cd [] rfl rfl (EN rfl) (hg) rfl rfl rfl rfl rfl rfl rfl rfl rfl rfl rfl|exact cJ|exact mG|exact bT|exact nD)))|refine xS ?_|refine xR ?_|refine xB ?_|refine xt rfl ?_|refine xf rfl ?_))
  (first|refine Ret_box (wC vT wN) rfl rfl rfl rfl rfl rfl rfl rfl rfl ?_ ?_ ?_ rfl)
  all_goals rfl
theorem dig_head {B : Nat} (h : B ≠ 0) : ∃ b r, dig B = b :: r ∧ (r = [] → b = B) := by
  refine ⟨_, _, dig_pos h, fun hr => ?_⟩
  have h1 := val_dig B
  rw [dig_pos h, hr] at h1
  simpa [val] using h1

set_option maxRecDepth 100000 in
set_option maxHeartbeats 8000000 in
theorem norm_zero {B : Nat} {p : Bool} (hB : B ≠ 0) : PC Tryz.prog 61 [.ptr 0 0] ⟨[[.g (.bool p), .g (.sl (wsG [])), .g (.bool false), .g (.sl (wsG (dig B)))]], [], []⟩ (.ptr 0 0) ⟨[[.g (.bool p), .g (.sl (wsG [])), .g (.bool false), .g (.sl (wsG [1]))]], [], []⟩ := by
  obtain ⟨b, r, hd, _⟩ := dig_head hB
  rw [hd]
  have ho := one_half (u := p) (v := false) (m := []) (n := b :: r)
  refine PC_of_PW Tryz.func61 rfl rfl (rs := _) rfl (Nat.le_of_ble_eq_true (by kernel_rfl)) ?_
  (repeat (first|((first|refine qA ?_|refine qB ?_|refine xN ?_|refine xE ?_|refine xT ?_); try show PW _ _ _ _ _ _)|refine ro1 tabOk rfl rfl ?_|refine ro2 tabOk rfl rfl ?_|refine ro3 tabOk rfl rfl ?_|refine rd1 tabOk rfl rfl ?_|refine rd2 tabOk rfl rfl ?_|refine rd3 tabOk rfl rfl ?_|((first|apply oR rfl rfl|(apply dF rfl rfl rfl; intro _)|(apply dP rfl rfl rfl; intro _)|(apply dL rfl rfl rfl; intro _)|apply dC rfl rfl rfl rfl); (focus (first|exact cd [] rfl rfl (EN rfl) (ho) rfl rfl rfl rfl rfl rfl rfl rfl rfl rfl rfl|exact cJ|exact mG|exact bT|exact nD)); try exact kQ)|refine xS ?_|refine xR ?_|refine qxa rfl rfl mixed ?_|refine qxb rfl rfl mixed ?_|refine qxi rfl rfl rfl rfl rfl mixed ?_|refine qxc rfl rfl mixed ?_|refine qxd rfl rfl mixed ?_|refine xB ?_|refine xt rfl ?_|refine xf rfl ?_))
  (first|refine Ret_box (wC vT wN) rfl rfl rfl rfl rfl rfl rfl rfl rfl ?_ ?_ ?_ rfl)
  all_goals rfl
set_option maxRecDepth 100000 in
set_option maxHeartbeats 8000000 in
theorem norm_one {A : Nat} {p : Bool} (hA : A ≠ 0) : PC Tryz.prog 61 [.ptr 0 0] ⟨[[.g (.bool p), .g (.sl (wsG (dig A))), .g (.bool false), .g (.sl (wsG [1]))]], [], []⟩ (.ptr 0 0) ⟨[[.g (.bool p), .g (.sl (wsG (dig A))), .g (.bool false), .g (.sl (wsG [1]))]], [], []⟩ := by
  obtain ⟨a, r, hd, _⟩ := dig_head hA
  rw [hd]
  refine PC_of_PW Tryz.func61 rfl rfl (rs := _) rfl (Nat.le_of_ble_eq_true (by kernel_rfl)) ?_
  (repeat (first|((first|refine qA ?_|refine qB ?_|refine xN ?_|refine xE ?_|refine xT ?_); try show PW _ _ _ _ _ _)|refine ro1 tabOk rfl rfl ?_|refine ro2 tabOk rfl rfl ?_|refine ro3 tabOk rfl rfl ?_|refine rd1 tabOk rfl rfl ?_|refine rd2 tabOk rfl rfl ?_|refine rd3 tabOk rfl rfl ?_|((first|apply oR rfl rfl|(apply dF rfl rfl rfl; intro _)|(apply dP rfl rfl rfl; intro _)|(apply dL rfl rfl rfl; intro _)|apply dC rfl rfl rfl rfl); (focus (first|exact iA (g := wG 1) rfl (EL rfl) (SZ rfl) rfl rfl (by decide) rfl rfl|exact cJ|exact mG|exact bT|exact nD)); try exact kQ)|refine xS ?_|refine xR ?_|refine qxa rfl rfl mixed ?_|refine qxb rfl rfl mixed ?_|refine qxi rfl rfl rfl rfl rfl mixed ?_|refine qxc rfl rfl mixed ?_|refine qxd rfl rfl mixed ?_|refine xB ?_|refine xt rfl ?_|refine xf rfl ?_))
  (first|refine Ret_box (wC vT wN) rfl rfl rfl rfl rfl rfl rfl rfl rfl ?_ ?_ ?_ rfl)
  all_goals rfl
set_option maxRecDepth 100000 in
set_option maxHeartbeats 8000000 in
theorem norm_two {A B : Nat} {p : Bool} (hA : A ≠ 0) (hA2 : A < WB * WB) (hB : B ≠ 0) (hB1 : B ≠ 1) (hm : (dig B).length ≤ 10000) : PC Tryz.prog 61 [.ptr 0 0] ⟨[[.g (.bool p), .g (.sl (wsG (dig A))), .g (.bool false), .g (.sl (wsG (dig B)))]], [], []⟩ (.ptr 0 0) ⟨[[.g (.bool p), .g (.sl (wsG (dig (A / Nat.gcd A B)))), .g (.bool false), .g (.sl (wsG (dig (B / Nat.gcd A B))))]], [], []⟩ := by
  have hG0 : Nat.gcd A B ≠ 0 := Nat.ne_of_gt (Nat.gcd_pos_of_pos_left _ (Nat.pos_of_ne_zero hA))
  have hGA : Nat.gcd A B ≤ A := Nat.le_of_dvd (Nat.pos_of_ne_zero hA) (Nat.gcd_dvd_left _ _)
  have hc := common_pc hA hA2 hB hm
  have hmA : (dig A).length ≤ 10000 := by have := dig_two hA2; rw [dig_wlen] at this; omega
  have hmG : (dig (Nat.gcd A B)).length ≤ 10000 := by have := dig_two (X := Nat.gcd A B) (by omega); rw [dig_wlen] at this; omega
  have d1 := div_pc (X := A) (Y := Nat.gcd A B) hG0 (.inl (by omega)) hmA hmG
  have d2 := div_pc (X := B) (Y := Nat.gcd A B) hG0 (.inl (by omega)) hm hmG
  obtain ⟨a, ra, ea, _⟩ := dig_head hA
  obtain ⟨b, rb, eb, fb⟩ := dig_head hB
  obtain ⟨g, rg, eg, fg⟩ := dig_head hG0
  have hone : Nat.gcd A B = 1 → dig (A / Nat.gcd A B) = dig A ∧ dig (B / Nat.gcd A B) = dig B := fun h => by rw [h, Nat.div_one, Nat.div_one]; exact ⟨rfl, rfl⟩
  rw [ea, eb] at hone
  rw [ea] at d1
  rw [eb] at d2
  rw [eg] at d1 d2
  rw [ea, eb, eg] at hc
  rw [ea, eb]
  generalize dig (A / Nat.gcd A B) = qa at *
  generalize dig (B / Nat.gcd A B) = qb at *
  generalize dig (A % Nat.gcd A B) = ma at *
  generalize dig (B % Nat.gcd A B) = mb at *
  generalize Nat.gcd A B = G at *
  have killb : rb = [] → ((b : Int) == 1) = true → False := fun h1 h2 => hB1 (by have := fb h1; have := beq_iff_eq.1 h2; omega)
  have lenb : (((wsG (b :: rb)).length : Int) == 1) = true → rb = [] := fun h => by
    have := beq_iff_eq.1 h
    rw [wsG_length] at this
    simp at this
    exact List.eq_nil_of_length_eq_zero (by omega)
  have leng : (((wsG (g :: rg)).length : Int) == 1) = true → rg = [] := fun h => by
    have := beq_iff_eq.1 h
    rw [wsG_length] at this
    simp at this
    exact List.eq_nil_of_length_eq_zero (by omega)
  refine PC_of_PW Tryz.func61 rfl rfl (rs := _) rfl (Nat.le_of_ble_eq_true (by kernel_rfl)) ?_
  (repeat' (first|(first|((first|refine qA ?_|refine qB ?_|refine xN ?_|refine xE ?_|refine xT ?_); try show PW _ _ _ _ _ _)|refine ro1 tabOk rfl rfl ?_|refine ro2 tabOk rfl rfl ?_|refine ro3 tabOk rfl rfl ?_|refine rd1 tabOk rfl rfl ?_|refine rd2 tabOk rfl rfl ?_|refine rd3 tabOk rfl rfl ?_|((first|apply oR rfl rfl|(apply dF rfl rfl rfl; intro _)|(apply dP rfl rfl rfl; intro _)|(apply dL rfl rfl rfl; intro _)|apply dC rfl rfl rfl rfl); (focus (first|exact iA (g := wG b) rfl (EL rfl) (SZ rfl) rfl rfl (by decide) rfl rfl|exact cJ|exact mG|exact bT|exact nD)); try exact kQ)|refine xU [11] rfl ?_|refine xR ?_|refine qxa rfl rfl mixed ?_|refine qxb rfl rfl mixed ?_|refine qxi rfl rfl rfl rfl rfl mixed ?_|refine qxc rfl rfl mixed ?_|refine qxd rfl rfl mixed ?_|refine xB ?_|refine xt rfl ?_|refine xf rfl ?_)|(refine POps_split rfl rfl (fun h => ?_) (fun h => ?_) <;> fail_if_success (first|(have : true = true := h)|(have : false = false := h)))|(refine POpsD_split rfl rfl (fun h => ?_) (fun h => ?_) <;> fail_if_success (first|(have : true = true := h)|(have : false = false := h)))|refine PW_cond rfl (fun h => ?_) (fun h => ?_)))
  all_goals (first | (exfalso; rename_i h1; first | exact killb (lenb h1) h | exact killb (lenb h) h1) | skip)
  all_goals
    (repeat (first|((first|refine qA ?_|refine qB ?_|refine xN ?_|refine xE ?_|refine xT ?_); try show PW _ _ _ _ _ _)|refine ro1 tabOk rfl rfl ?_|refine ro2 tabOk rfl rfl ?_|refine ro3 tabOk rfl rfl ?_|refine rd1 tabOk rfl rfl ?_|refine rd2 tabOk rfl rfl ?_|refine rd3 tabOk rfl rfl ?_|((first|apply oR rfl rfl|(apply dF rfl rfl rfl; intro _)|(apply dP rfl rfl rfl; intro _)|(apply dL rfl rfl rfl; intro _)|apply dC rfl rfl rfl rfl); (focus (first|exact cqP hc|exact cJ|exact mG|exact bT|exact nD)); try exact kQ)|refine xU [12] rfl ?_|refine xR ?_|refine qxa rfl rfl mixed ?_|refine qxb rfl rfl mixed ?_|refine qxi rfl rfl rfl rfl rfl mixed ?_|refine qxc rfl rfl mixed ?_|refine qxd rfl rfl mixed ?_|refine xB ?_|refine xt rfl ?_|refine xf rfl ?_))
    (repeat' (first|(first|((first|refine qA ?_|refine qB ?_|refine xN ?_|refine xE ?_|refine xT ?_); try show PW _ _ _ _ _ _)|refine ro1 tabOk rfl rfl ?_|refine ro2 tabOk rfl rfl ?_|refine ro3 tabOk rfl rfl ?_|refine rd1 tabOk rfl rfl ?_|refine rd2 tabOk rfl rfl ?_|refine rd3 tabOk rfl rfl ?_|((first|apply oR rfl rfl|(apply dF rfl rfl rfl; intro _)|(apply dP rfl rfl rfl; intro _)|(apply dL rfl rfl rfl; intro _)|apply dC rfl rfl rfl rfl); (focus (first|exact iA (g := wG g) rfl (EL rfl) (SZ rfl) rfl rfl (by decide) rfl rfl|exact cJ|exact mG|exact bT|exact nD)); try exact kQ)|refine xU [14] rfl ?_|refine xR ?_|refine qxa rfl rfl mixed ?_|refine qxb rfl rfl mixed ?_|refine qxi rfl rfl rfl rfl rfl mixed ?_|refine qxc rfl rfl mixed ?_|refine qxd rfl rfl mixed ?_|refine xB ?_|refine xt rfl ?_|refine xf rfl ?_)|(refine POps_split rfl rfl (fun h => ?_) (fun h => ?_) <;> fail_if_success (first|(have : true = true := h)|(have : false = false := h)))|(refine POpsD_split rfl rfl (fun h => ?_) (fun h => ?_) <;> fail_if_success (first|(have : true = true := h)|(have : false = false := h)))|refine PW_cond rfl (fun h => ?_) (fun h => ?_)))
  all_goals
    first
      | (have hg1 : G = 1 := by
           rename_i h1
           have hr := leng h1
           have := fg hr
           have := beq_iff_eq.1 h
           omega
         obtain ⟨o1, o2⟩ := hone hg1
         rw [o1, o2]
         (repeat (first|((first|refine qA ?_|refine qB ?_|refine xN ?_|refine xE ?_|refine xT ?_); try show PW _ _ _ _ _ _)|refine ro1 tabOk rfl rfl ?_|refine ro2 tabOk rfl rfl ?_|refine ro3 tabOk rfl rfl ?_|refine rd1 tabOk rfl rfl ?_|refine rd2 tabOk rfl rfl ?_|refine rd3 tabOk rfl rfl ?_|((first|apply oR rfl rfl|(apply dF rfl rfl rfl; intro _)|(apply dP rfl rfl rfl; intro _)|(apply dL rfl rfl rfl; intro _)|apply dC rfl rfl rfl rfl); (focus (first|exact cJ|exact mG|exact bT|exact nD)); try exact kQ)|refine xS ?_|refine xR ?_|refine qxa rfl rfl mixed ?_|refine qxb rfl rfl mixed ?_|refine qxi rfl rfl rfl rfl rfl mixed ?_|refine qxc rfl rfl mixed ?_|refine qxd rfl rfl mixed ?_|refine xB ?_|refine xt rfl ?_|refine xf rfl ?_))
         (first|refine Ret_box (wC vT wN) rfl rfl rfl rfl rfl rfl rfl rfl rfl ?_ ?_ ?_ rfl)
         all_goals rfl)
      | ((repeat (first|((first|refine qA ?_|refine qB ?_|refine xN ?_|refine xE ?_|refine xT ?_); try show PW _ _ _ _ _ _)|refine ro1 tabOk rfl rfl ?_|refine ro2 tabOk rfl rfl ?_|refine ro3 tabOk rfl rfl ?_|refine rd1 tabOk rfl rfl ?_|refine rd2 tabOk rfl rfl ?_|refine rd3 tabOk rfl rfl ?_|((first|apply oR rfl rfl|(apply dF rfl rfl rfl; intro _)|(apply dP rfl rfl rfl; intro _)|(apply dL rfl rfl rfl; intro _)|apply dC rfl rfl rfl rfl); (focus (first|exact cqP d1|exact cqP d2|exact cJ|exact mG|exact bT|exact nD)); try exact kQ)|refine xS ?_|refine xR ?_|refine qxa rfl rfl mixed ?_|refine qxb rfl rfl mixed ?_|refine qxi rfl rfl rfl rfl rfl mixed ?_|refine qxc rfl rfl mixed ?_|refine qxd rfl rfl mixed ?_|refine xB ?_|refine xt rfl ?_|refine xf rfl ?_))
         (first|refine Ret_box (wC vT wN) rfl rfl rfl rfl rfl rfl rfl rfl rfl ?_ ?_ ?_ rfl)
         all_goals rfl)
theorem norm_pc {A B : Nat} {p : Bool} (hA2 : A < WB * WB ∨ B = 1) (hB : B ≠ 0) (hm : (dig B).length ≤ 10000) : PC Tryz.prog 61 [.ptr 0 0] ⟨[[.g (.bool p), .g (.sl (wsG (dig A))), .g (.bool false), .g (.sl (wsG (dig B)))]], [], []⟩ (.ptr 0 0) ⟨[[.g (.bool p), .g (.sl (wsG (dig (A / Nat.gcd A B)))), .g (.bool false), .g (.sl (wsG (dig (B / Nat.gcd A B))))]], [], []⟩ := by
  by_cases hA : A = 0
  · subst hA
    rw [Nat.gcd_zero_left, Nat.zero_div, Nat.div_self (Nat.pos_of_ne_zero hB), dig_zero, dig_one (n := 1) (by decide) (by decide)]
    exact norm_zero hB
  · by_cases hB1 : B = 1
    · subst hB1
      rw [Nat.gcd_one_right, Nat.div_one, dig_one (n := 1) (by decide) (by decide)]
      exact norm_one hA
    · exact norm_two hA (hA2.resolve_right hB1) hB hB1 hm
end Go.Pure.V

