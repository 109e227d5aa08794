/- What the program's functions compute, each shown once; and plain laws of it. -/
import Derived.Test.YtdicineiaifahaaGreatDoorOwnR
import Derived.Test.YtdicineiaifahaaGreatDoorPureS
import Derived.Test.YtdicineiaifahaaGreatDoorPureJ
import Derived.Test.YtdicineiaifahaaGreatDoorOwnD
import Derived.Test.YtdicineiaifahaaGreatDoorPureC
import Derived.Test.YtdicineiaifahaaGreatDoorPureQ
namespace Go.Pure.V
open Go Go.Proofs Go.Proofs.YtdicineiaifahaaGreatDoor
attribute [local irreducible] PW POps POpsD PO PC Cond

theorem qI_one (x : Int) : qI x 1 = x := by
  have := qI_mul (x := x) (g := 1) (Nat.one_dvd _)
  simpa using this
set_option maxRecDepth 100000 in
set_option maxHeartbeats 8000000 in
theorem setFrac_new {x : Int} {Y : Nat} (hY : Y ≠ 0) (hx : x.natAbs < WB * WB ∨ Y = 1) (hmx : (dig x.natAbs).length ≤ 10000) (hm : (dig Y).length ≤ 10000) :
    PC Tryz.prog 52 [.ptr 0 0, .ptr 1 0, .ptr 2 0] ⟨[[.g (.bool false), .nils, .g (.bool false), .nils], intV x, [.g (.bool false), .g (.sl (wsG (dig Y)))]], [], []⟩ (.ptr 0 0) ⟨[ratV (qI x (gI x Y)) (Y / gI x Y), intV x, [.g (.bool false), .g (.sl (wsG (dig Y)))]], [], []⟩ := by
  have hs1 := Set_pc (x := x) (by omega)
  have hs2 := Set_pc (x := (Y : Int)) (by rw [Int.natAbs_natCast]; omega)
  rw [intV_nat] at hs2
  have hn := norm_pc (A := x.natAbs) (B := Y) (p := decide (x < 0)) hx hY hm
  have hp := dig_len_pos hY
  unfold ratV
  rw [qI_neg (gI_left x Y) (gI_pos x (Nat.pos_of_ne_zero hY)), qI_abs]
  unfold gI
  unfold intV at hs1 ⊢
  generalize dig (x.natAbs / Nat.gcd x.natAbs Y) = q1 at *
  generalize dig (Y / Nat.gcd x.natAbs Y) = q2 at *
  clear hx hmx hm
  generalize dig x.natAbs = xs at *
  generalize dig Y = ys at *
  generalize decide (x < 0) = s at *
  refine PC_of_PW Tryz.func52 rfl rfl (rs := _) rfl (Nat.le_of_ble_eq_true (by kernel_rfl)) ?_
  (repeat (first|((first|refine qA ?_|refine qB ?_|refine xN ?_|refine xE ?_|refine xT ?_); try show PW _ _ _ _ _ _)|refine ro1 tabOk rfl rfl ?_|refine ro2 tabOk rfl rfl ?_|refine ro3 tabOk rfl rfl ?_|(apply oR rfl rfl; (focus (first|exact cJ|exact mG|exact bT|exact nD)))|refine xS ?_|refine xR ?_|refine xB ?_|refine xt rfl ?_|refine xf rfl ?_))
  (first|refine POps_split rfl rfl (fun h => ?_) (fun h => ?_)|refine PW_cond rfl (fun h => ?_) (fun h => ?_))
  · exfalso; have hh := beq_iff_eq.1 h; omega
  clear h
  (repeat (first|((first|refine qA ?_|refine qB ?_|refine xN ?_|refine xE ?_|refine xT ?_); try show PW _ _ _ _ _ _)|refine ro1 tabOk rfl rfl ?_|refine ro2 tabOk rfl rfl ?_|refine ro3 tabOk rfl rfl ?_|(apply oR rfl rfl; (focus (first|exact cb [] rfl rfl (EN rfl) (hs1) rfl rfl rfl rfl rfl rfl rfl rfl rfl rfl rfl|exact cb [] rfl rfl (EN rfl) (hs2) rfl rfl rfl rfl rfl rfl rfl rfl rfl rfl rfl|exact cb [] rfl rfl (EN rfl) (hn) rfl rfl rfl rfl rfl rfl rfl rfl rfl rfl rfl|exact cJ|exact mG|exact bT|exact nD)))|refine xS ?_|refine xR ?_|refine xB ?_|refine xt rfl ?_|refine xf rfl ?_))
  (first|refine Ret_box (wC vT wN) rfl rfl rfl rfl rfl rfl rfl rfl rfl ?_ ?_ ?_ rfl)
  all_goals rfl
set_option maxRecDepth 100000 in
set_option maxHeartbeats 8000000 in
theorem setFrac_old {x : Int} {Y : Nat} {u v : Bool} {m n : List Nat} (hY : Y ≠ 0) (hx : x.natAbs < WB * WB ∨ Y = 1) (hmx : (dig x.natAbs).length ≤ 10000) (hm : (dig Y).length ≤ 10000) :
    PC Tryz.prog 52 [.ptr 0 0, .ptr 1 0, .ptr 2 0] ⟨[[.g (.bool u), .g (.sl (wsG m)), .g (.bool v), .g (.sl (wsG n))], intV x, [.g (.bool false), .g (.sl (wsG (dig Y)))]], [], []⟩ (.ptr 0 0) ⟨[ratV (qI x (gI x Y)) (Y / gI x Y), intV x, [.g (.bool false), .g (.sl (wsG (dig Y)))]], [], []⟩ := by
  have hs1 := Set_pc (x := x) (by omega)
  have hs2 := Set_pc (x := (Y : Int)) (by rw [Int.natAbs_natCast]; omega)
  rw [intV_nat] at hs2
  have hn := norm_pc (A := x.natAbs) (B := Y) (p := decide (x < 0)) hx hY hm
  have hp := dig_len_pos hY
  unfold ratV
  rw [qI_neg (gI_left x Y) (gI_pos x (Nat.pos_of_ne_zero hY)), qI_abs]
  unfold gI
  unfold intV at hs1 ⊢
  generalize dig (x.natAbs / Nat.gcd x.natAbs Y) = q1 at *
  generalize dig (Y / Nat.gcd x.natAbs Y) = q2 at *
  clear hx hmx hm
  generalize dig x.natAbs = xs at *
  generalize dig Y = ys at *
  generalize decide (x < 0) = s at *
  refine PC_of_PW Tryz.func52 rfl rfl (rs := _) rfl (Nat.le_of_ble_eq_true (by kernel_rfl)) ?_
  (repeat (first|((first|refine qA ?_|refine qB ?_|refine xN ?_|refine xE ?_|refine xT ?_); try show PW _ _ _ _ _ _)|refine ro1 tabOk rfl rfl ?_|refine ro2 tabOk rfl rfl ?_|refine ro3 tabOk rfl rfl ?_|(apply oR rfl rfl; (focus (first|exact cJ|exact mG|exact bT|exact nD)))|refine xS ?_|refine xR ?_|refine xB ?_|refine xt rfl ?_|refine xf rfl ?_))
  (first|refine POps_split rfl rfl (fun h => ?_) (fun h => ?_)|refine PW_cond rfl (fun h => ?_) (fun h => ?_))
  · exfalso; have hh := beq_iff_eq.1 h; omega
  clear h
  (repeat (first|((first|refine qA ?_|refine qB ?_|refine xN ?_|refine xE ?_|refine xT ?_); try show PW _ _ _ _ _ _)|refine ro1 tabOk rfl rfl ?_|refine ro2 tabOk rfl rfl ?_|refine ro3 tabOk rfl rfl ?_|(apply oR rfl rfl; (focus (first|exact cb [] rfl rfl (EN rfl) (hs1) rfl rfl rfl rfl rfl rfl rfl rfl rfl rfl rfl|exact cb [] rfl rfl (EN rfl) (hs2) rfl rfl rfl rfl rfl rfl rfl rfl rfl rfl rfl|exact cb [] rfl rfl (EN rfl) (hn) rfl rfl rfl rfl rfl rfl rfl rfl rfl rfl rfl|exact cJ|exact mG|exact bT|exact nD)))|refine xS ?_|refine xR ?_|refine xB ?_|refine xt rfl ?_|refine xf rfl ?_))
  (first|refine Ret_box (wC vT wN) rfl rfl rfl rfl rfl rfl rfl rfl rfl ?_ ?_ ?_ rfl)
  all_goals rfl
theorem setFrac_one {x : Int} (hmx : (dig x.natAbs).length ≤ 10000) :
    PC Tryz.prog 52 [.ptr 0 0, .ptr 1 0, .ptr 2 0] ⟨[[.g (.bool false), .nils, .g (.bool false), .nils], intV x, [.g (.bool false), .g (.sl (wsG [1]))]], [], []⟩ (.ptr 0 0) ⟨[ratV x 1, intV x, [.g (.bool false), .g (.sl (wsG [1]))]], [], []⟩ := by
  have := setFrac_new (x := x) (Y := 1) (by decide) (.inr rfl) hmx (by rw [dig_one (n := 1) (by decide) (by decide)]; decide)
  rw [gI_one, qI_one, Nat.div_one, dig_one (n := 1) (by decide) (by decide)] at this
  exact this
theorem newOne : PC Tryz.prog 53 [.g (.int .i64 1)] ⟨[], [], []⟩ (.ptr 0 0) ⟨[[.g (.bool false), .g (.sl (wsG [1]))]], [], []⟩ := by
  have := NewInt_pos (z := 1) (by decide)
  rw [intV_nat, dig_one (n := 1) (by decide) (by decide)] at this
  exact this
set_option maxRecDepth 100000 in
set_option maxHeartbeats 8000000 in
theorem setInt_pc {x : Int} (hmx : (dig x.natAbs).length ≤ 10000) : PC Tryz.prog 50 [.ptr 0 0, .ptr 1 0] ⟨[[.g (.bool false), .nils, .g (.bool false), .nils], intV x], [], []⟩ (.ptr 0 0) ⟨[ratV x 1, intV x], [], []⟩ := by
  have h1 := newOne
  have h2 := setFrac_one (x := x) hmx
  unfold ratV at *
  unfold intV at *
  clear hmx
  generalize dig x.natAbs = xs at *
  generalize decide (x < 0) = s at *
  generalize dig 1 = o at *
  refine PC_of_PW Tryz.func50 rfl rfl (rs := _) rfl (Nat.le_of_ble_eq_true (by kernel_rfl)) ?_
  (repeat (first|((first|refine qA ?_|refine qB ?_|refine xN ?_|refine xE ?_|refine xT ?_); try show PW _ _ _ _ _ _)|refine ro1 tabOk rfl rfl ?_|refine ro2 tabOk rfl rfl ?_|refine ro3 tabOk rfl rfl ?_|(apply oR rfl rfl; (focus (first|exact cb [] rfl rfl (EN rfl) (h1) rfl rfl rfl rfl rfl rfl rfl rfl rfl rfl rfl|exact cd [] rfl rfl (EN rfl) (h2) rfl rfl rfl rfl rfl rfl rfl rfl rfl rfl rfl|exact cJ|exact mG|exact bT|exact nD)))|refine xS ?_|refine xR ?_|refine xB ?_|refine xt rfl ?_|refine xf rfl ?_))
  (first|refine Ret_box (wC vT wN) rfl rfl rfl rfl rfl rfl rfl rfl rfl ?_ ?_ ?_ rfl)
  all_goals rfl
set_option maxRecDepth 100000 in
set_option maxHeartbeats 8000000 in
theorem setInt64_pc {x : Int} (h1 : -9223372036854775808 ≤ x) (h2 : x < 9223372036854775808) : PC Tryz.prog 49 [.ptr 0 0, .g (.int .i64 x)] ⟨[[.g (.bool false), .nils, .g (.bool false), .nils]], [], []⟩ (.ptr 0 0) ⟨[ratV x 1], [], []⟩ := by
  have n1 := NewInt_any h1 h2
  have n2 := newOne
  have h3 := setFrac_one (x := x) (by
    have := dig_length_le (n := x.natAbs) (k := 2) (by rw [Nat.pow_succ, Nat.pow_one]; unfold WB; omega)
    omega)
  unfold ratV at *
  unfold intV at *
  clear h1 h2
  generalize dig x.natAbs = xs at *
  generalize decide (x < 0) = s at *
  generalize dig 1 = o at *
  refine PC_of_PW Tryz.func49 rfl rfl (rs := _) rfl (Nat.le_of_ble_eq_true (by kernel_rfl)) ?_
  (repeat (first|((first|refine qA ?_|refine qB ?_|refine xN ?_|refine xE ?_|refine xT ?_); try show PW _ _ _ _ _ _)|refine ro1 tabOk rfl rfl ?_|refine ro2 tabOk rfl rfl ?_|refine ro3 tabOk rfl rfl ?_|(apply oR rfl rfl; (focus (first|exact cb [] rfl rfl (EN rfl) (n1) rfl rfl rfl rfl rfl rfl rfl rfl rfl rfl rfl|exact cb [] rfl rfl (EN rfl) (n2) rfl rfl rfl rfl rfl rfl rfl rfl rfl rfl rfl|exact cd [] rfl rfl (EN rfl) (h3) rfl rfl rfl rfl rfl rfl rfl rfl rfl rfl rfl|exact cJ|exact mG|exact bT|exact nD)))|refine xS ?_|refine xR ?_|refine xB ?_|refine xt rfl ?_|refine xf rfl ?_))
  (first|refine Ret_box (wC vT wN) rfl rfl rfl rfl rfl rfl rfl rfl rfl ?_ ?_ ?_ rfl)
  all_goals rfl
set_option maxRecDepth 100000 in
set_option maxHeartbeats 8000000 in
theorem ratMul_pc {a c : Int} {b d : Nat} (hb : b ≠ 0) (hd : d ≠ 0) (hx : (a * c).natAbs < WB * WB ∨ b * d = 1) (la : (dig a.natAbs).length ≤ 1000) (lb : (dig b).length ≤ 1000) (lc : (dig c.natAbs).length ≤ 1000) (ld : (dig d).length ≤ 1000) (l1 : (dig (a * c).natAbs).length ≤ 10000) (l2 : (dig (b * d)).length ≤ 10000) :
    PC Tryz.prog 54 [.ptr 0 0, .ptr 0 0, .ptr 1 0] ⟨[ratV a b, ratV c d], [], []⟩ (.ptr 0 0) ⟨[ratV (qI (a * c) (gI (a * c) (b * d))) (b * d / gI (a * c) (b * d)), ratV c d], [], []⟩ := by
  have m1 := mul_pc la lc
  rw [abs_mul] at m1
  have m2 := mul_pc lb ld
  have k1 := mul_b (p := decide (a < 0)) (q := decide (c < 0)) (u := false) (w := false) (m := dig b) (n := dig d) m1
  rw [mul_sign] at k1
  have k2 := mul_c (p := false) (q := false) (u := decide (a < 0)) (w := decide (c < 0)) (m := dig a.natAbs) (n := dig c.natAbs) m2
  have e1 := den_pc (p := decide (a < 0)) (q := false) (l := dig a.natAbs) hb
  have e2 := den_pc (p := decide (c < 0)) (q := false) (l := dig c.natAbs) hd
  have hf := setFrac_old (x := a * c) (Y := b * d) (u := decide (a < 0)) (m := dig a.natAbs) (v := false) (n := dig b) (Nat.mul_ne_zero hb hd) hx l1 l2
  generalize qI (a * c) (gI (a * c) (b * d)) = Q at *
  generalize b * d / gI (a * c) (b * d) = R at *
  unfold ratV at *
  unfold intV at *
  clear m1 m2 la lb lc ld l1 l2 hx hb hd
  generalize dig (a * c).natAbs = zs at *
  generalize decide (a * c < 0) = zp at *
  generalize dig (b * d) = ws at *
  generalize dig a.natAbs = xs at *
  generalize decide (a < 0) = xp at *
  generalize dig c.natAbs = ys at *
  generalize decide (c < 0) = yp at *
  generalize dig b = bs at *
  generalize dig d = ds at *
  generalize dig Q.natAbs = qs at *
  generalize decide (Q < 0) = qp at *
  generalize dig R = rs at *
  refine PC_of_PW Tryz.func54 rfl rfl (rs := _) rfl (Nat.le_of_ble_eq_true (by kernel_rfl)) ?_
  (repeat (first|((first|refine qA ?_|refine qB ?_|refine xN ?_|refine xE ?_|refine xT ?_); try show PW _ _ _ _ _ _)|refine ro1 tabOk rfl rfl ?_|refine ro2 tabOk rfl rfl ?_|refine ro3 tabOk rfl rfl ?_|refine rd1 tabOk rfl rfl ?_|refine rd2 tabOk rfl rfl ?_|refine rd3 tabOk rfl rfl ?_|((first|apply oR rfl rfl|(apply dF rfl rfl rfl; intro _)|(apply dP rfl rfl rfl; intro _)|(apply dL rfl rfl rfl; intro _)|apply dC rfl rfl rfl rfl); (focus (first|exact cb [] rfl rfl (EN rfl) (e1) rfl rfl rfl rfl rfl rfl rfl rfl rfl rfl rfl|exact cb [] rfl rfl (EN rfl) (e2) rfl rfl rfl rfl rfl rfl rfl rfl rfl rfl rfl|exact cb [] rfl rfl (EN rfl) (k1) rfl rfl rfl rfl rfl rfl rfl rfl rfl rfl rfl|exact cb [] rfl rfl (EN rfl) (k2) rfl rfl rfl rfl rfl rfl rfl rfl rfl rfl rfl|exact cb [] rfl rfl (EN rfl) (hf) rfl rfl rfl rfl rfl rfl rfl rfl rfl rfl rfl|exact cJ|exact mG|exact bT|exact nD)); try exact kQ)|refine xS ?_|refine xR ?_|refine PW_insK (fz := lkN zrL) (fs := lkN szL) (fun _ _ h => ZR h) (fun _ _ h => SZ h) [16] [40016] rfl rfl rfl mixed (by decide +kernel) ?_|refine xK false false [40016] rfl mixed (by decide +kernel) ?_|refine xK false true [40016] rfl mixed (by decide +kernel) ?_|refine xK true false [40016] rfl mixed (by decide +kernel) ?_|refine xK true true [40016] rfl mixed (by decide +kernel) ?_|refine xB ?_|refine xt rfl ?_|refine xf rfl ?_))
  (first|refine Ret_box (wC vT wN) rfl rfl rfl rfl rfl rfl rfl rfl rfl ?_ ?_ ?_ rfl)
  all_goals rfl
theorem cmpI_zero {x y : Int} : cmpI x y = 0 ↔ x = y := by
  unfold cmpI
  constructor
  · intro h
    split at h
    · cases h
    · split at h
      · cases h
      · omega
  · rintro rfl
    rw [if_neg (by omega), if_neg (by omega)]
set_option maxRecDepth 100000 in
set_option maxHeartbeats 8000000 in
theorem ratCmp_pc {a x : Int} {b y : Nat} (hb : b ≠ 0) (hy : y ≠ 0) (la : (dig a.natAbs).length ≤ 1000) (lb : (dig b).length ≤ 1000) (lx : (dig x.natAbs).length ≤ 1000) (ly : (dig y).length ≤ 1000) (l1 : (dig (a * (y : Int)).natAbs).length ≤ 10000) (l2 : (dig (x * (b : Int)).natAbs).length ≤ 10000) :
    PC Tryz.prog 37 [.ptr 0 0, .ptr 1 0] ⟨[ratV a b, ratV x y], [], []⟩ (.g (.int .i64 (cmpQ a b x y))) ⟨[ratV a b, ratV x y], [], []⟩ := by
  have e1 := den_pc (p := decide (a < 0)) (q := false) (l := dig a.natAbs) hb
  have e2 := den_pc (p := decide (x < 0)) (q := false) (l := dig x.natAbs) hy
  have c1 := cmp_d (x := (b : Int)) (y := (y : Int)) (u := decide (a < 0)) (w := decide (x < 0)) (m := dig a.natAbs) (n := dig x.natAbs) (by rw [Int.natAbs_natCast]; omega) (by rw [Int.natAbs_natCast]; omega)
  rw [Int.natAbs_natCast, Int.natAbs_natCast, decide_eq_false (show ¬ ((b : Int) < 0) by omega), decide_eq_false (show ¬ ((y : Int) < 0) by omega)] at c1
  have c2 := cmp_b (x := a) (y := x) (u := false) (w := false) (m := dig b) (n := dig y) (by omega) (by omega)
  have c3 := cmp_c (x := a * (y : Int)) (y := x * (b : Int)) (by omega) (by omega)
  have m1 := mul_pc (X := a.natAbs) (Y := (y : Int).natAbs) la (by rw [Int.natAbs_natCast]; exact ly)
  rw [abs_mul] at m1
  have m2 := mul_pc (X := x.natAbs) (Y := (b : Int).natAbs) lx (by rw [Int.natAbs_natCast]; exact lb)
  rw [abs_mul] at m2
  have s1 := mul_sign a (y : Int)
  have s2 := mul_sign x (b : Int)
  rw [decide_eq_false (show ¬ ((y : Int) < 0) by omega)] at s1
  rw [decide_eq_false (show ¬ ((b : Int) < 0) by omega)] at s2
  have k1 := mul_d (p := decide (a < 0)) (q := false) (u := false) (w := decide (x < 0)) (m := dig b) (n := dig x.natAbs) m1
  have k2 := mul_d (p := decide (x < 0)) (q := false) (u := false) (w := decide (a < 0)) (m := dig y) (n := dig a.natAbs) m2
  rw [s1, Int.natAbs_natCast] at k1
  rw [s2, Int.natAbs_natCast] at k2
  unfold ratV
  unfold cmpQ
  clear m1 m2 la lb lx ly l1 l2 s1 s2
  by_cases hby : b = y
  · rw [if_pos hby]
    rw [show cmpI (b : Int) (y : Int) = 0 from cmpI_zero.2 (by omega)] at c1
    clear c3 k1 k2
    generalize cmpI a x = r at *
    clear hb hy hby
    generalize dig a.natAbs = axs at *
    generalize decide (a < 0) = ap at *
    generalize dig x.natAbs = xs at *
    generalize decide (x < 0) = xp at *
    generalize dig b = bs at *
    generalize dig y = ys at *
    refine PC_of_PW Tryz.func37 rfl rfl (rs := _) rfl (Nat.le_of_ble_eq_true (by kernel_rfl)) ?_
    (repeat (first|((first|refine qA ?_|refine qB ?_|refine xN ?_|refine xE ?_|refine xT ?_); try show PW _ _ _ _ _ _)|refine ro1 tabOk rfl rfl ?_|refine ro2 tabOk rfl rfl ?_|refine ro3 tabOk rfl rfl ?_|refine rd1 tabOk rfl rfl ?_|refine rd2 tabOk rfl rfl ?_|refine rd3 tabOk rfl rfl ?_|((first|apply oR rfl rfl|(apply dF rfl rfl rfl; intro _)|(apply dP rfl rfl rfl; intro _)|(apply dL rfl rfl rfl; intro _)|apply dC rfl rfl rfl rfl); (focus (first|exact cb [] rfl rfl (EN rfl) (e1) rfl rfl rfl rfl rfl rfl rfl rfl rfl rfl rfl|exact cb [] rfl rfl (EN rfl) (e2) rfl rfl rfl rfl rfl rfl rfl rfl rfl rfl rfl|exact cb [] rfl rfl (EN rfl) (c1) rfl rfl rfl rfl rfl rfl rfl rfl rfl rfl rfl|exact cb [] rfl rfl (EN rfl) (c2) rfl rfl rfl rfl rfl rfl rfl rfl rfl rfl rfl|exact cJ|exact mG|exact bT|exact nD)); try exact kQ)|refine xS ?_|refine xR ?_|refine qxa rfl rfl mixed ?_|refine qxb rfl rfl mixed ?_|refine qxi rfl rfl rfl rfl rfl mixed ?_|refine qxc rfl rfl mixed ?_|refine qxd rfl rfl mixed ?_|refine xB ?_|refine xt rfl ?_|refine xf rfl ?_))
    (first|refine Ret_box (wC vT wN) rfl rfl rfl rfl rfl rfl rfl rfl rfl ?_ ?_ ?_ rfl)
    all_goals rfl
  · rw [if_neg hby]
    have hne : (cmpI (b : Int) (y : Int) == 0) = false := beq_eq_false_iff_ne.2 (fun h => hby (by have := cmpI_zero.1 h; omega))
    generalize cmpI (b : Int) (y : Int) = r0 at *
    generalize cmpI (a * (y : Int)) (x * (b : Int)) = r at *
    generalize dig (a * (y : Int)).natAbs = z1 at *
    generalize decide (a * (y : Int) < 0) = p1 at *
    generalize dig (x * (b : Int)).natAbs = z2 at *
    generalize decide (x * (b : Int) < 0) = p2 at *
    clear c2 hb hy hby
    generalize dig a.natAbs = axs at *
    generalize decide (a < 0) = ap at *
    generalize dig x.natAbs = xs at *
    generalize decide (x < 0) = xp at *
    generalize dig b = bs at *
    generalize dig y = ys at *
    refine PC_of_PW Tryz.func37 rfl rfl (rs := _) rfl (Nat.le_of_ble_eq_true (by kernel_rfl)) ?_
    (repeat (first|((first|refine qA ?_|refine qB ?_|refine xN ?_|refine xE ?_|refine xT ?_); try show PW _ _ _ _ _ _)|refine ro1 tabOk rfl rfl ?_|refine ro2 tabOk rfl rfl ?_|refine ro3 tabOk rfl rfl ?_|refine rd1 tabOk rfl rfl ?_|refine rd2 tabOk rfl rfl ?_|refine rd3 tabOk rfl rfl ?_|((first|apply oR rfl rfl|(apply dF rfl rfl rfl; intro _)|(apply dP rfl rfl rfl; intro _)|(apply dL rfl rfl rfl; intro _)|apply dC rfl rfl rfl rfl); (focus (first|exact cb [] rfl rfl (EN rfl) (e1) rfl rfl rfl rfl rfl rfl rfl rfl rfl rfl rfl|exact cb [] rfl rfl (EN rfl) (e2) rfl rfl rfl rfl rfl rfl rfl rfl rfl rfl rfl|exact cb [] rfl rfl (EN rfl) (c1) rfl rfl rfl rfl rfl rfl rfl rfl rfl rfl rfl|exact cJ|exact mG|exact bT|exact nD)); try exact kQ)|refine xS ?_|refine xR ?_|refine qxa rfl rfl mixed ?_|refine qxb rfl rfl mixed ?_|refine qxi rfl rfl rfl rfl rfl mixed ?_|refine qxc rfl rfl mixed ?_|refine qxd rfl rfl mixed ?_|refine xB ?_|refine xt rfl ?_|refine xf rfl ?_))
    (first|refine POps_split rfl rfl (fun h => ?_) (fun h => ?_)|refine POpsD_split rfl rfl (fun h => ?_) (fun h => ?_)|refine PW_cond rfl (fun h => ?_) (fun h => ?_))
    · exfalso; rw [hne] at h; cases h
    clear h
    (repeat (first|((first|refine qA ?_|refine qB ?_|refine xN ?_|refine xE ?_|refine xT ?_); try show PW _ _ _ _ _ _)|refine ro1 tabOk rfl rfl ?_|refine ro2 tabOk rfl rfl ?_|refine ro3 tabOk rfl rfl ?_|refine rd1 tabOk rfl rfl ?_|refine rd2 tabOk rfl rfl ?_|refine rd3 tabOk rfl rfl ?_|(apply dR rfl rfl; focus (first|exact Cond_look rfl 1 rfl rfl (fun H1 hb => PO_call_look rfl rfl (EN rfl) rfl e2 (fun _ _ _ => rfl) (hb.symm.trans rfl))))|((first|apply oR rfl rfl|(apply dF rfl rfl rfl; intro _)|(apply dP rfl rfl rfl; intro _)|(apply dL rfl rfl rfl; intro _)|apply dC rfl rfl rfl rfl); (focus (first|exact cb [] rfl rfl (EN rfl) (e1) rfl rfl rfl rfl rfl rfl rfl rfl rfl rfl rfl|exact cb [] rfl rfl (EN rfl) (e2) rfl rfl rfl rfl rfl rfl rfl rfl rfl rfl rfl|exact cb [] rfl rfl (EN rfl) (k1) rfl rfl rfl rfl rfl rfl rfl rfl rfl rfl rfl|exact cb [] rfl rfl (EN rfl) (k2) rfl rfl rfl rfl rfl rfl rfl rfl rfl rfl rfl|exact cb [] rfl rfl (EN rfl) (c3) rfl rfl rfl rfl rfl rfl rfl rfl rfl rfl rfl|exact cJ|exact mG|exact bT|exact nD)); try exact kQ)|refine xS ?_|refine xR ?_|refine PW_insK (fz := lkN zrL) (fs := lkN szL) (fun _ _ h => ZR h) (fun _ _ h => SZ h) [25] [30023, 20001, 40025] rfl rfl rfl mixed (by decide +kernel) ?_|refine xK false false [30023, 20001, 40025] rfl mixed (by decide +kernel) ?_|refine xK false true [30023, 20001, 40025] rfl mixed (by decide +kernel) ?_|refine xK true false [30023, 20001, 40025] rfl mixed (by decide +kernel) ?_|refine xK true true [30023, 20001, 40025] rfl mixed (by decide +kernel) ?_|refine xB ?_|refine xt rfl ?_|refine xf rfl ?_))
    (first|refine Ret_box (wC vT wN) rfl rfl rfl rfl rfl rfl rfl rfl rfl ?_ ?_ ?_ rfl)
    all_goals rfl
end Go.Pure.V


namespace Go.Pure.V
open Go Go.Proofs Go.Proofs.YtdicineiaifahaaGreatDoor
attribute [local irreducible] PW POps POpsD PO PC Cond

theorem newTen : PC Tryz.prog 53 [.g (.int .i64 10)] ⟨[], [], []⟩ (.ptr 0 0) ⟨[[.g (.bool false), .g (.sl (wsG (dig 10)))]], [], []⟩ := by
  have := NewInt_pos (z := 10) (by decide)
  rwa [intV_nat] at this
theorem ten_dig {k : Nat} (h : k ≤ 60) : (dig (10 ^ k)).length ≤ 7 := by
  have h1 : 10 ^ k ≤ 10 ^ 60 := Nat.pow_le_pow_right (by decide) h
  have h2 : (10 : Nat) ^ 60 < WB ^ 7 := by decide +kernel
  exact dig_length_le (Nat.lt_of_le_of_lt h1 h2)

set_option maxRecDepth 100000 in
set_option maxHeartbeats 8000000 in
theorem ten_pc {n : Int} (h1 : -1000 ≤ n) (h2 : n ≤ 60) : PC Tryz.prog 51 [.g (.int .i64 n)] ⟨[], [], []⟩ (.ptr 0 0) ⟨[[.g (.bool false), .g (.sl (wsG (dig (10 ^ n.toNat))))]], [], []⟩ := by
  have n1 := newOne
  have n2 := newTen
  have hstep : ∀ m : Int, 0 < m → m ≤ n → 10 ^ (n.toNat - (m - 1).toNat) = 10 ^ (n.toNat - m.toNat) * 10 := fun m a b => by
    rw [← Nat.pow_succ]
    congr 1
    omega
  rw [show [1] = dig (10 ^ (n.toNat - n.toNat)) by rw [Nat.sub_self, Nat.pow_zero, dig_one (n := 1) (by decide) (by decide)]] at n1
  refine PC_of_PW Tryz.func51 rfl rfl (rs := _) rfl (Nat.le_of_ble_eq_true (by kernel_rfl)) ?_
  (repeat (first|((first|refine qA ?_|refine qB ?_|refine xN ?_|refine xE ?_|refine xT ?_); try show PW _ _ _ _ _ _)|refine ro1 tabOk rfl rfl ?_|refine ro2 tabOk rfl rfl ?_|refine ro3 tabOk rfl rfl ?_|(apply oR rfl rfl; (focus (first|exact cb [] rfl rfl (EN rfl) (n1) rfl rfl rfl rfl rfl rfl rfl rfl rfl rfl rfl|exact cJ|exact mG|exact bT|exact nD)))|refine xS ?_|refine xR ?_|refine xB ?_|refine xt rfl ?_|refine xf rfl ?_))
  refine PW_loop_cut (S := Int) (fun m => [(0, .g (.int .i64 m)), (3, .ptr 0 0)]) (fun m => ⟨[[.g (.bool false), .g (.sl (wsG (dig (10 ^ (n.toNat - m.toNat)))))]], [], []⟩) (fun m => m ≤ n ∧ (0 ≤ m ∨ m = n)) (fun m => m.toNat) n ⟨Int.le_refl _, .inr rfl⟩
    (SlotsOk.le ⟨.inl rfl, .inl rfl, trivial⟩) (HLe.of_eq rfl) (fun _ => rfl) (fun m hm => ?_)
  obtain ⟨hm1, hm2⟩ := hm
  (repeat (first|((first|refine qA ?_|refine qB ?_|refine xN ?_|refine xE ?_|refine xT ?_); try show PW _ _ _ _ _ _)|refine ro1 tabOk rfl rfl ?_|refine ro2 tabOk rfl rfl ?_|refine ro3 tabOk rfl rfl ?_|(apply oR rfl rfl; (focus (first|exact cJ|exact mG|exact bT|exact nD)))|refine xS ?_|refine xR ?_|refine xB ?_|refine xt rfl ?_|refine xf rfl ?_))
  (first|refine POps_split rfl rfl (fun h => ?_) (fun h => ?_)|refine PW_cond rfl (fun h => ?_) (fun h => ?_))
  · have hpos : 0 < m := by have := of_decide_eq_true h; omega
    have hm := mul_pc (X := 10 ^ (n.toNat - m.toNat)) (Y := 10) (Nat.le_trans (ten_dig (by omega)) (by decide)) (Nat.le_trans (dig_length_le (k := 1) (by decide)) (by decide))
    rw [← hstep m hpos hm1] at hm
    have k := mul_a (p := false) (q := false) hm
    generalize hB : dig (10 ^ (n.toNat - (m - 1).toNat)) = zs at *
    generalize dig (10 ^ (n.toNat - m.toNat)) = xs at *
    generalize dig 10 = ts at *
    clear h
    (repeat (first|((first|refine qA ?_|refine qB ?_|refine xN ?_|refine xE ?_|refine xT ?_); try show PW _ _ _ _ _ _)|refine ro1 tabOk rfl rfl ?_|refine ro2 tabOk rfl rfl ?_|refine ro3 tabOk rfl rfl ?_|(apply oR rfl rfl; (focus (first|exact cb [] rfl rfl (EN rfl) (n2) rfl rfl rfl rfl rfl rfl rfl rfl rfl rfl rfl|exact cd [] rfl rfl (EN rfl) (k) rfl rfl rfl rfl rfl rfl rfl rfl rfl rfl rfl|exact cJ|exact mG|exact bT|exact nD)))|refine xS ?_|refine xR ?_|refine xB ?_|refine xt rfl ?_|refine xf rfl ?_))
    exact ⟨m - 1, ⟨by omega, .inl (by omega)⟩, by omega, SlotsOk.le ⟨.inl (congrArg (fun k => PV.g (.int .i64 k)) (w64 (by omega))), .inl rfl, trivial⟩, Drops.mk [[.g (.bool false), .g (.sl (wsG ts))]] [] [] (by rw [hB]; rfl)⟩
  · have hneg : m ≤ 0 := by have := of_decide_eq_false h; omega
    have e : n.toNat - m.toNat = n.toNat := by rw [show m.toNat = 0 by omega, Nat.sub_zero]
    rw [e]
    clear h
    (repeat (first|((first|refine qA ?_|refine qB ?_|refine xN ?_|refine xE ?_|refine xT ?_); try show PW _ _ _ _ _ _)|refine ro1 tabOk rfl rfl ?_|refine ro2 tabOk rfl rfl ?_|refine ro3 tabOk rfl rfl ?_|(apply oR rfl rfl; (focus (first|exact cJ|exact mG|exact bT|exact nD)))|refine xS ?_|refine xR ?_|refine xB ?_|refine xt rfl ?_|refine xf rfl ?_))
    (first|refine Ret_box (wC vT wN) rfl rfl rfl rfl rfl rfl rfl rfl rfl ?_ ?_ ?_ rfl)
    all_goals rfl

set_option maxRecDepth 100000 in
set_option maxHeartbeats 8000000 in
theorem rat_up {c e : Int} (hc1 : -999999999999999999 ≤ c) (hc2 : c ≤ 999999999999999999) (h0 : 0 ≤ e) (he : e ≤ 40) : PC Tryz.prog 36 [.g (.agg [.int .i64 c, .int .i64 e])] ⟨[], [], []⟩ (.ptr 0 0) ⟨[ratV (qI (topD c e) (gI (topD c e) (botD e))) (botD e / gI (topD c e) (botD e))], [], []⟩ := by
  have hb1 : botD e = 1 := by unfold botD; rw [show (-e).toNat = 0 by omega, Nat.pow_zero]
  have htop : c * ((10 ^ e.toNat : Nat) : Int) = topD c e := by unfold topD; rw [Int.natCast_pow]; rfl
  have la : (dig c.natAbs).length ≤ 2 := dig_length_le (k := 2) (by rw [Nat.pow_succ, Nat.pow_one]; unfold WB; omega)
  have lt : (dig (10 ^ e.toNat)).length ≤ 7 := ten_dig (by omega)
  have l1 : (dig 1).length ≤ 1 := dig_length_le (k := 1) (by decide)
  have lz : (dig (topD c e).natAbs).length ≤ 10000 := by
    rw [← htop, Int.natAbs_mul, Int.natAbs_natCast]
    have a1 : 10 ^ e.toNat ≤ 10 ^ 60 := Nat.pow_le_pow_right (by decide) (by omega)
    have a2 : (10 : Nat) ^ 18 * 10 ^ 60 < WB ^ 9 := by decide +kernel
    have a3 : c.natAbs ≤ 10 ^ 18 := by
      have : (10 : Nat) ^ 18 = 1000000000000000000 := by decide +kernel
      omega
    exact Nat.le_trans (dig_length_le (Nat.lt_of_le_of_lt (Nat.mul_le_mul a3 a1) a2)) (by decide)
  have h1 := setInt64_pc (x := c) (by omega) (by omega)
  have h2 := ten_pc (n := e) (by omega) (by omega)
  have h3 := setInt_pc (x := ((10 ^ e.toNat : Nat) : Int)) (by rw [Int.natAbs_natCast]; omega)
  have h4 := ratMul_pc (a := c) (b := 1) (c := ((10 ^ e.toNat : Nat) : Int)) (d := 1) (by decide) (by decide) (.inr rfl) (by omega) (by omega) (by rw [Int.natAbs_natCast]; omega) (by omega) (by rw [htop]; exact lz) (by rw [Nat.mul_one]; omega)
  rw [htop, Nat.mul_one, ← hb1] at h4
  rw [hb1] at h4
  rw [hb1]
  rw [intV_nat] at h3
  unfold ratV at *
  rw [Int.natAbs_natCast, decide_eq_false (show ¬ (((10 ^ e.toNat : Nat) : Int) < 0) from Int.not_lt.2 (Int.natCast_nonneg _))] at h3 h4
  have hlt : decide (e < 0) = false := decide_eq_false (by omega)
  unfold intV at *
  clear hb1 htop la lt l1 lz
  generalize dig (10 ^ e.toNat) = ts at *
  generalize qI (topD c e) (gI (topD c e) 1) = Q at *
  generalize 1 / gI (topD c e) 1 = R at *
  generalize dig c.natAbs = cs at *
  generalize decide (c < 0) = cp at *
  generalize dig Q.natAbs = qs at *
  generalize decide (Q < 0) = qp at *
  generalize dig R = rs at *
  generalize dig 1 = os at *
  refine PC.sel (v := .ptr 1 0) (H1 := ⟨[[.g (.int .i64 c), .g (.int .i64 e)], [.g (.bool qp), .g (.sl (wsG qs)), .g (.bool false), .g (.sl (wsG rs))]], [], []⟩) ?_ [1] [] [] rfl rfl rfl rfl rfl rfl rfl rfl
  refine PC_of_PW Tryz.func36 rfl rfl (rs := _) rfl (Nat.le_of_ble_eq_true (by kernel_rfl)) ?_
  (repeat (first|((first|refine qA ?_|refine qB ?_|refine xN ?_|refine xE ?_|refine xT ?_); try show PW _ _ _ _ _ _)|refine ro1 tabOk rfl rfl ?_|refine ro2 tabOk rfl rfl ?_|refine ro3 tabOk rfl rfl ?_|refine rd1 tabOk rfl rfl ?_|refine rd2 tabOk rfl rfl ?_|refine rd3 tabOk rfl rfl ?_|((first|apply oR rfl rfl|(apply dF rfl rfl rfl; intro _)|(apply dP rfl rfl rfl; intro _)|(apply dL rfl rfl rfl; intro _)|apply dC rfl rfl rfl rfl); (focus (first|exact cb [] rfl rfl (EN rfl) (h1) rfl rfl rfl rfl rfl rfl rfl rfl rfl rfl rfl|exact cb [] rfl rfl (EN rfl) (h2) rfl rfl rfl rfl rfl rfl rfl rfl rfl rfl rfl|exact cb [] rfl rfl (EN rfl) (h3) rfl rfl rfl rfl rfl rfl rfl rfl rfl rfl rfl|exact cb [] rfl rfl (EN rfl) (h4) rfl rfl rfl rfl rfl rfl rfl rfl rfl rfl rfl|exact cJ|exact mG|exact bT|exact nD)); try exact kQ)|refine xS ?_|refine xR ?_|refine qxa rfl rfl mixed ?_|refine qxb rfl rfl mixed ?_|refine qxi rfl rfl rfl rfl rfl mixed ?_|refine qxc rfl rfl mixed ?_|refine qxd rfl rfl mixed ?_|refine xB ?_|refine xt rfl ?_|refine xf rfl ?_))
  (first|refine POps_split rfl rfl (fun h => ?_) (fun h => ?_)|refine POpsD_split rfl rfl (fun h => ?_) (fun h => ?_)|refine PW_cond rfl (fun h => ?_) (fun h => ?_))
  · exfalso; rw [hlt] at h; cases h
  clear h
  (repeat (first|((first|refine qA ?_|refine qB ?_|refine xN ?_|refine xE ?_|refine xT ?_); try show PW _ _ _ _ _ _)|refine ro1 tabOk rfl rfl ?_|refine ro2 tabOk rfl rfl ?_|refine ro3 tabOk rfl rfl ?_|refine rd1 tabOk rfl rfl ?_|refine rd2 tabOk rfl rfl ?_|refine rd3 tabOk rfl rfl ?_|((first|apply oR rfl rfl|(apply dF rfl rfl rfl; intro _)|(apply dP rfl rfl rfl; intro _)|(apply dL rfl rfl rfl; intro _)|apply dC rfl rfl rfl rfl); (focus (first|exact cb [] rfl rfl (EN rfl) (h4) rfl rfl rfl rfl rfl rfl rfl rfl rfl rfl rfl|exact cJ|exact mG|exact bT|exact nD)); try exact kQ)|refine xS ?_|refine xR ?_|refine qxa rfl rfl mixed ?_|refine qxb rfl rfl mixed ?_|refine qxi rfl rfl rfl rfl rfl mixed ?_|refine qxc rfl rfl mixed ?_|refine qxd rfl rfl mixed ?_|refine xB ?_|refine xt rfl ?_|refine xf rfl ?_))
  (first|refine Ret_box (wC vT wN) rfl rfl rfl rfl rfl rfl rfl rfl rfl ?_ ?_ ?_ rfl)
  all_goals rfl

set_option maxRecDepth 100000 in
set_option maxHeartbeats 8000000 in
theorem rat_down {c e : Int} (hc1 : -999999999999999999 ≤ c) (hc2 : c ≤ 999999999999999999) (h0 : e < 0) (he : -40 ≤ e) : PC Tryz.prog 36 [.g (.agg [.int .i64 c, .int .i64 e])] ⟨[], [], []⟩ (.ptr 0 0) ⟨[ratV (qI (topD c e) (gI (topD c e) (botD e))) (botD e / gI (topD c e) (botD e))], [], []⟩ := by
  have htop : c * 1 = topD c e := by unfold topD; rw [show e.toNat = 0 by omega, Int.pow_zero]
  have hbot : 10 ^ (-e).toNat = botD e := rfl
  have hbp := botD_pos e
  have la : (dig c.natAbs).length ≤ 2 := dig_length_le (k := 2) (by rw [Nat.pow_succ, Nat.pow_one]; unfold WB; omega)
  have lt : (dig (botD e)).length ≤ 7 := ten_dig (by omega)
  have l1 : (dig 1).length ≤ 1 := dig_length_le (k := 1) (by decide)
  have hone : (dig (1 : Int).natAbs).length ≤ 1 := l1
  have h1 := setInt64_pc (x := c) (by omega) (by omega)
  have h2 := ten_pc (n := e) (by omega) (by omega)
  rw [show e.toNat = 0 by omega, Nat.pow_zero] at h2
  have h3 := setInt_pc (x := (1 : Int)) (by omega)
  have hneg : IntKind.i64.wrap (0 - e) = -e := by rw [w64 (by omega)]; omega
  have h5 := ten_pc (n := -e) (by omega) (by omega)
  rw [hbot, ← hneg] at h5
  have h6 := setFrac_new (x := 1) (Y := botD e) (by omega) (.inl (by decide)) (by omega) (by omega)
  rw [show gI 1 (botD e) = 1 from Nat.gcd_one_left _, qI_one, Nat.div_one] at h6
  have h4 := ratMul_pc (a := c) (b := 1) (c := 1) (d := botD e) (by decide) (by omega) (.inl (by rw [Int.mul_one]; unfold WB; omega)) (by omega) (by omega) (by omega) (by omega) (by rw [Int.mul_one]; omega) (by rw [Nat.one_mul]; omega)
  rw [htop, Nat.one_mul] at h4
  have n1 := newOne
  rw [show [1] = dig 1 from (dig_one (n := 1) (by decide) (by decide)).symm] at n1
  unfold ratV at *
  unfold intV at *
  rw [show (1 : Int).natAbs = 1 from rfl, show decide ((1 : Int) < 0) = false from rfl] at h3 h4 h6
  have hlt : decide (e < 0) = true := decide_eq_true (by omega)
  clear htop hbot hbp la lt l1 hone hneg
  generalize qI (topD c e) (gI (topD c e) (botD e)) = Q at *
  generalize botD e / gI (topD c e) (botD e) = R at *
  generalize dig (botD e) = ts at *
  generalize dig c.natAbs = cs at *
  generalize decide (c < 0) = cp at *
  generalize dig Q.natAbs = qs at *
  generalize decide (Q < 0) = qp at *
  generalize dig R = rs at *
  generalize dig 1 = os at *
  refine PC.sel (v := .ptr 1 0) (H1 := ⟨[[.g (.int .i64 c), .g (.int .i64 e)], [.g (.bool qp), .g (.sl (wsG qs)), .g (.bool false), .g (.sl (wsG rs))]], [], []⟩) ?_ [1] [] [] rfl rfl rfl rfl rfl rfl rfl rfl
  refine PC_of_PW Tryz.func36 rfl rfl (rs := _) rfl (Nat.le_of_ble_eq_true (by kernel_rfl)) ?_
  (repeat (first|((first|refine qA ?_|refine qB ?_|refine xN ?_|refine xE ?_|refine xT ?_); try show PW _ _ _ _ _ _)|refine ro1 tabOk rfl rfl ?_|refine ro2 tabOk rfl rfl ?_|refine ro3 tabOk rfl rfl ?_|refine rd1 tabOk rfl rfl ?_|refine rd2 tabOk rfl rfl ?_|refine rd3 tabOk rfl rfl ?_|((first|apply oR rfl rfl|(apply dF rfl rfl rfl; intro _)|(apply dP rfl rfl rfl; intro _)|(apply dL rfl rfl rfl; intro _)|apply dC rfl rfl rfl rfl); (focus (first|exact cb [] rfl rfl (EN rfl) (h1) rfl rfl rfl rfl rfl rfl rfl rfl rfl rfl rfl|exact cb [] rfl rfl (EN rfl) (h2) rfl rfl rfl rfl rfl rfl rfl rfl rfl rfl rfl|exact cb [] rfl rfl (EN rfl) (h3) rfl rfl rfl rfl rfl rfl rfl rfl rfl rfl rfl|exact cJ|exact mG|exact bT|exact nD)); try exact kQ)|refine xS ?_|refine xR ?_|refine qxa rfl rfl mixed ?_|refine qxb rfl rfl mixed ?_|refine qxi rfl rfl rfl rfl rfl mixed ?_|refine qxc rfl rfl mixed ?_|refine qxd rfl rfl mixed ?_|refine xB ?_|refine xt rfl ?_|refine xf rfl ?_))
  (first|refine POps_split rfl rfl (fun h => ?_) (fun h => ?_)|refine POpsD_split rfl rfl (fun h => ?_) (fun h => ?_)|refine PW_cond rfl (fun h => ?_) (fun h => ?_))
  · clear h
    (repeat (first|((first|refine qA ?_|refine qB ?_|refine xN ?_|refine xE ?_|refine xT ?_); try show PW _ _ _ _ _ _)|refine ro1 tabOk rfl rfl ?_|refine ro2 tabOk rfl rfl ?_|refine ro3 tabOk rfl rfl ?_|refine rd1 tabOk rfl rfl ?_|refine rd2 tabOk rfl rfl ?_|refine rd3 tabOk rfl rfl ?_|((first|apply oR rfl rfl|(apply dF rfl rfl rfl; intro _)|(apply dP rfl rfl rfl; intro _)|(apply dL rfl rfl rfl; intro _)|apply dC rfl rfl rfl rfl); (focus (first|exact cb [] rfl rfl (EN rfl) (n1) rfl rfl rfl rfl rfl rfl rfl rfl rfl rfl rfl|exact cb [] rfl rfl (EN rfl) (h5) rfl rfl rfl rfl rfl rfl rfl rfl rfl rfl rfl|exact cb [] rfl rfl (EN rfl) (h6) rfl rfl rfl rfl rfl rfl rfl rfl rfl rfl rfl|exact cb [] rfl rfl (EN rfl) (h4) rfl rfl rfl rfl rfl rfl rfl rfl rfl rfl rfl|exact cJ|exact mG|exact bT|exact nD)); try exact kQ)|refine xS ?_|refine xR ?_|refine PW_insK (fz := lkN zrL) (fs := lkN szL) (fun _ _ h => ZR h) (fun _ _ h => SZ h) [17] [0, 40017] rfl rfl rfl mixed (by decide +kernel) ?_|refine xK false false [0, 40017] rfl mixed (by decide +kernel) ?_|refine xK false true [0, 40017] rfl mixed (by decide +kernel) ?_|refine xK true false [0, 40017] rfl mixed (by decide +kernel) ?_|refine xK true true [0, 40017] rfl mixed (by decide +kernel) ?_|refine xB ?_|refine xt rfl ?_|refine xf rfl ?_))
    (first|refine Ret_box (wC vT wN) rfl rfl rfl rfl rfl rfl rfl rfl rfl ?_ ?_ ?_ rfl)
    all_goals rfl
  · exfalso; rw [hlt] at h; cases h
theorem rat_pc {c e : Int} (h : wrongD c e = 0) : PC Tryz.prog 36 [.g (.agg [.int .i64 c, .int .i64 e])] ⟨[], [], []⟩ (.ptr 0 0) ⟨[ratV (qI (topD c e) (gI (topD c e) (botD e))) (botD e / gI (topD c e) (botD e))], [], []⟩ := by
  have a := (wrongD_ok h).1
  by_cases h0 : 0 ≤ e
  · exact rat_up (by omega) (by omega) h0 (by omega)
  · exact rat_down (by omega) (by omega) (by omega) (by omega)
end Go.Pure.V


namespace Go.Proofs.YtdicineiaifahaaGreatDoor
open Go Go.Pure
attribute [local irreducible] PW POps POpsD PO PC Cond

theorem wrap64 {n : Int} (h : -9223372036854775808 ≤ n ∧ n < 9223372036854775808) : IntKind.i64.wrap n = n := by
  simp [IntKind.wrap, IntKind.bits, IntKind.signed]; omega

set_option maxRecDepth 100000 in
set_option maxHeartbeats 4000000 in
theorem bool_pc (b : Bool) : PC Tryz.prog 23 [.g (.bool b)] ⟨[], [], []⟩ (.g (VVal.mk 2 b 0 0 ⟨#[]⟩ []).g) ⟨[], [], []⟩ := by
  refine PC_of_PW Tryz.func23 rfl rfl (rs := _) rfl (Nat.le_of_ble_eq_true (by kernel_rfl)) ?_
  (repeat (first|((first|refine qA ?_|refine qB ?_|refine xN ?_|refine xE ?_|refine xT ?_); try show PW _ _ _ _ _ _)|refine ro1 tabOk rfl rfl ?_|refine ro2 tabOk rfl rfl ?_|refine ro3 tabOk rfl rfl ?_|(apply oR rfl rfl; (focus (first|exact cJ|exact mG|exact bT|exact nD)))|refine xS ?_|refine xR ?_|refine xB ?_|refine xt rfl ?_|refine xf rfl ?_))
  (first|refine Ret_int (vC (vA (AG rfl) (SZ rfl) rfl rfl (lB rfl)) vN) rfl ?_|refine Ret_bool (vC (vA (AG rfl) (SZ rfl) rfl rfl (lB rfl)) vN) rfl ?_|refine Ret_g (vC (vA (AG rfl) (SZ rfl) rfl rfl (lB rfl)) vN) rfl ?_)
  rfl

set_option maxRecDepth 100000 in
set_option maxHeartbeats 4000000 in
theorem null_pc : PC Tryz.prog 22 [] ⟨[], [], []⟩ (.g (VVal.mk 1 false 0 0 ⟨#[]⟩ []).g) ⟨[], [], []⟩ := by
  refine PC_of_PW Tryz.func22 rfl rfl (rs := _) rfl (Nat.le_of_ble_eq_true (by kernel_rfl)) ?_
  (repeat (first|((first|refine qA ?_|refine qB ?_|refine xN ?_|refine xE ?_|refine xT ?_); try show PW _ _ _ _ _ _)|refine ro1 tabOk rfl rfl ?_|refine ro2 tabOk rfl rfl ?_|refine ro3 tabOk rfl rfl ?_|(apply oR rfl rfl; (focus (first|exact cJ|exact mG|exact bT|exact nD)))|refine xS ?_|refine xR ?_|refine xB ?_|refine xt rfl ?_|refine xf rfl ?_))
  (first|refine Ret_int (vC (vA (AG rfl) (SZ rfl) rfl rfl (lB rfl)) vN) rfl ?_|refine Ret_bool (vC (vA (AG rfl) (SZ rfl) rfl rfl (lB rfl)) vN) rfl ?_|refine Ret_g (vC (vA (AG rfl) (SZ rfl) rfl rfl (lB rfl)) vN) rfl ?_)
  rfl

set_option maxRecDepth 100000 in
set_option maxHeartbeats 4000000 in
theorem told_pc (n : Int) : PC Tryz.prog 25 [.g (.int .i64 n)] ⟨[], [], []⟩ (.g (VVal.mk (tk n) (ty n) 0 0 ⟨#[]⟩ []).g) ⟨[], [], []⟩ := by
  have h0 := null_pc
  have h1 := bool_pc (decide (n > 0))
  unfold tk ty
  by_cases h : n = 0
  · subst h
    refine PC_of_PW Tryz.func25 rfl rfl (rs := _) rfl (Nat.le_of_ble_eq_true (by kernel_rfl)) ?_
    (repeat (first|((first|refine qA ?_|refine qB ?_|refine xN ?_|refine xE ?_|refine xT ?_); try show PW _ _ _ _ _ _)|refine ro1 tabOk rfl rfl ?_|refine ro2 tabOk rfl rfl ?_|refine ro3 tabOk rfl rfl ?_|(apply oR rfl rfl; (focus (first|exact cqP h0|exact cJ|exact mG|exact bT|exact nD)))|refine xS ?_|refine xR ?_|refine xB ?_|refine xt rfl ?_|refine xf rfl ?_))
    (first|refine Ret_int (vC (vA (AG rfl) (SZ rfl) rfl rfl (lB rfl)) vN) rfl ?_|refine Ret_bool (vC (vA (AG rfl) (SZ rfl) rfl rfl (lB rfl)) vN) rfl ?_|refine Ret_g (vC (vA (AG rfl) (SZ rfl) rfl rfl (lB rfl)) vN) rfl ?_)
    rfl
  · rw [if_neg h, if_neg h]
    refine PC_of_PW Tryz.func25 rfl rfl (rs := _) rfl (Nat.le_of_ble_eq_true (by kernel_rfl)) ?_
    (repeat (first|((first|refine qA ?_|refine qB ?_|refine xN ?_|refine xE ?_|refine xT ?_); try show PW _ _ _ _ _ _)|refine ro1 tabOk rfl rfl ?_|refine ro2 tabOk rfl rfl ?_|refine ro3 tabOk rfl rfl ?_|(apply oR rfl rfl; (focus (first|exact cJ|exact mG|exact bT|exact nD)))|refine xS ?_|refine xR ?_|refine xB ?_|refine xt rfl ?_|refine xf rfl ?_))
    (first|refine POps_split rfl rfl (fun h => ?_) (fun h => ?_)|refine PW_cond rfl (fun h => ?_) (fun h => ?_))
    · exfalso; simp_all
    · (repeat (first|((first|refine qA ?_|refine qB ?_|refine xN ?_|refine xE ?_|refine xT ?_); try show PW _ _ _ _ _ _)|refine ro1 tabOk rfl rfl ?_|refine ro2 tabOk rfl rfl ?_|refine ro3 tabOk rfl rfl ?_|(apply oR rfl rfl; (focus (first|exact cqP h1|exact cJ|exact mG|exact bT|exact nD)))|refine xS ?_|refine xR ?_|refine xB ?_|refine xt rfl ?_|refine xf rfl ?_))
      (first|refine Ret_int (vC (vA (AG rfl) (SZ rfl) rfl rfl (lB rfl)) vN) rfl ?_|refine Ret_bool (vC (vA (AG rfl) (SZ rfl) rfl rfl (lB rfl)) vN) rfl ?_|refine Ret_g (vC (vA (AG rfl) (SZ rfl) rfl rfl (lB rfl)) vN) rfl ?_)
      rfl

set_option maxRecDepth 100000 in
set_option maxHeartbeats 4000000 in
theorem truth_pc (v : VVal) : PC Tryz.prog 26 [.g v.g] ⟨[], [], []⟩ (.g (.int .i64 (truthV v))) ⟨[], [], []⟩ := by
  obtain ⟨k, y, c, e, t, l⟩ := v
  unfold truthV
  cases y
  all_goals
    refine PC_of_PW Tryz.func26 rfl rfl (rs := _) rfl (Nat.le_of_ble_eq_true (by kernel_rfl)) ?_
    (repeat' (first|(first|((first|refine qA ?_|refine qB ?_|refine xN ?_|refine xE ?_|refine xT ?_); try show PW _ _ _ _ _ _)|refine ro1 tabOk rfl rfl ?_|refine ro2 tabOk rfl rfl ?_|refine ro3 tabOk rfl rfl ?_|(apply oR rfl rfl; (focus (first|exact cJ|exact mG|exact bT|exact nD)))|refine xS ?_|refine xR ?_|refine xB ?_|refine xt rfl ?_|refine xf rfl ?_)|(refine POps_split rfl rfl (fun h => ?_) (fun h => ?_) <;> fail_if_success (first|(have : true = true := h)|(have : false = false := h)))|refine PW_cond rfl (fun h => ?_) (fun h => ?_)))
    all_goals ((first|refine Ret_int (vC vT vN) rfl ?_|refine Ret_bool (vC vT vN) rfl ?_|refine Ret_g (vC vT vN) rfl ?_); simp_all; done)

set_option maxRecDepth 100000 in
set_option maxHeartbeats 4000000 in
theorem and_pc (a b : VVal) : PC Tryz.prog 11 [.g a.g, .g b.g] ⟨[], [], []⟩ (.g (VVal.mk (tk (min (truthV a) (truthV b))) (ty (min (truthV a) (truthV b))) 0 0 ⟨#[]⟩ []).g) ⟨[], [], []⟩ := by
  have h1 := truth_pc a
  have h2 := truth_pc b
  rw [show min (truthV a) (truthV b) = if truthV b < truthV a then truthV b else truthV a by split <;> omega]
  have h3 := told_pc (if truthV b < truthV a then truthV b else truthV a)
  generalize truthV a = p at h1 h3
  generalize truthV b = q at h2 h3
  obtain ⟨k, y, c, e, t, l⟩ := a
  obtain ⟨k', y', c', e', t', l'⟩ := b
  refine PC_of_PW Tryz.func11 rfl rfl (rs := _) rfl (Nat.le_of_ble_eq_true (by kernel_rfl)) ?_
  (repeat (first|((first|refine qA ?_|refine qB ?_|refine xN ?_|refine xE ?_|refine xT ?_); try show PW _ _ _ _ _ _)|refine ro1 tabOk rfl rfl ?_|refine ro2 tabOk rfl rfl ?_|refine ro3 tabOk rfl rfl ?_|refine rd1 tabOk rfl rfl ?_|refine rd2 tabOk rfl rfl ?_|refine rd3 tabOk rfl rfl ?_|((first|apply oR rfl rfl|(apply dF rfl rfl rfl; intro _)|(apply dP rfl rfl rfl; intro _)|(apply dL rfl rfl rfl; intro _)|apply dC rfl rfl rfl rfl); (focus (first|exact cqP h1|exact cqP h2|exact cqP h3|exact cJ|exact mG|exact bT|exact nD)); try exact kQ)|refine xS ?_|refine xR ?_|refine qxa rfl rfl mixed ?_|refine qxb rfl rfl mixed ?_|refine qxi rfl rfl rfl rfl rfl mixed ?_|refine qxc rfl rfl mixed ?_|refine qxd rfl rfl mixed ?_|refine xB ?_|refine xt rfl ?_|refine xf rfl ?_))
  (first|refine Ret_int (vC (vA (AG rfl) (SZ rfl) rfl rfl (lB rfl)) vN) rfl ?_|refine Ret_bool (vC (vA (AG rfl) (SZ rfl) rfl rfl (lB rfl)) vN) rfl ?_|refine Ret_g (vC (vA (AG rfl) (SZ rfl) rfl rfl (lB rfl)) vN) rfl ?_)
  rfl

set_option maxRecDepth 100000 in
set_option maxHeartbeats 4000000 in
theorem or_pc (a b : VVal) : PC Tryz.prog 13 [.g a.g, .g b.g] ⟨[], [], []⟩ (.g (VVal.mk (tk (max (truthV a) (truthV b))) (ty (max (truthV a) (truthV b))) 0 0 ⟨#[]⟩ []).g) ⟨[], [], []⟩ := by
  have h1 := truth_pc a
  have h2 := truth_pc b
  rw [show max (truthV a) (truthV b) = if truthV a < truthV b then truthV b else truthV a by split <;> omega]
  have h3 := told_pc (if truthV a < truthV b then truthV b else truthV a)
  generalize truthV a = p at h1 h3
  generalize truthV b = q at h2 h3
  obtain ⟨k, y, c, e, t, l⟩ := a
  obtain ⟨k', y', c', e', t', l'⟩ := b
  refine PC_of_PW Tryz.func13 rfl rfl (rs := _) rfl (Nat.le_of_ble_eq_true (by kernel_rfl)) ?_
  (repeat (first|((first|refine qA ?_|refine qB ?_|refine xN ?_|refine xE ?_|refine xT ?_); try show PW _ _ _ _ _ _)|refine ro1 tabOk rfl rfl ?_|refine ro2 tabOk rfl rfl ?_|refine ro3 tabOk rfl rfl ?_|refine rd1 tabOk rfl rfl ?_|refine rd2 tabOk rfl rfl ?_|refine rd3 tabOk rfl rfl ?_|((first|apply oR rfl rfl|(apply dF rfl rfl rfl; intro _)|(apply dP rfl rfl rfl; intro _)|(apply dL rfl rfl rfl; intro _)|apply dC rfl rfl rfl rfl); (focus (first|exact cqP h1|exact cqP h2|exact cqP h3|exact cJ|exact mG|exact bT|exact nD)); try exact kQ)|refine xS ?_|refine xR ?_|refine qxa rfl rfl mixed ?_|refine qxb rfl rfl mixed ?_|refine qxi rfl rfl rfl rfl rfl mixed ?_|refine qxc rfl rfl mixed ?_|refine qxd rfl rfl mixed ?_|refine xB ?_|refine xt rfl ?_|refine xf rfl ?_))
  (first|refine Ret_int (vC (vA (AG rfl) (SZ rfl) rfl rfl (lB rfl)) vN) rfl ?_|refine Ret_bool (vC (vA (AG rfl) (SZ rfl) rfl rfl (lB rfl)) vN) rfl ?_|refine Ret_g (vC (vA (AG rfl) (SZ rfl) rfl rfl (lB rfl)) vN) rfl ?_)
  rfl

set_option maxRecDepth 100000 in
set_option maxHeartbeats 4000000 in
theorem dec_pc (c e : Int) : PC Tryz.prog 29 [.g (.agg [.int .i64 c, .int .i64 e])] ⟨[], [], []⟩ (.g (.int .i64 (wrongD c e))) ⟨[], [], []⟩ := by
  unfold wrongD
  refine PC_of_PW Tryz.func29 rfl rfl (rs := _) rfl (Nat.le_of_ble_eq_true (by kernel_rfl)) ?_
  (repeat' (first|(first|((first|refine qA ?_|refine qB ?_|refine xN ?_|refine xE ?_|refine xT ?_); try show PW _ _ _ _ _ _)|refine ro1 tabOk rfl rfl ?_|refine ro2 tabOk rfl rfl ?_|refine ro3 tabOk rfl rfl ?_|(apply oR rfl rfl; (focus (first|exact PO_rem rfl rfl rfl (by decide)|exact cJ|exact mG|exact bT|exact nD)))|refine xS ?_|refine xR ?_|refine xB ?_|refine xt rfl ?_|refine xf rfl ?_)|(refine POps_split rfl rfl (fun h => ?_) (fun h => ?_) <;> fail_if_success (first|(have : true = true := h)|(have : false = false := h)))|refine PW_cond rfl (fun h => ?_) (fun h => ?_)))
  all_goals ((first|refine Ret_int (vC vT vN) rfl ?_|refine Ret_bool (vC vT vN) rfl ?_|refine Ret_g (vC vT vN) rfl ?_); simp_all)
  all_goals omega
end Go.Proofs.YtdicineiaifahaaGreatDoor

