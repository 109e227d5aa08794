/- What the program's functions compute, each shown once; and plain laws of it. -/
import Derived.Test.YtdicineiaifahaaGreatDoorOwnF
namespace Go.Proofs.YtdicineiaifahaaGreatDoor
open Go Go.Pure
attribute [local irreducible] PW POps POpsD PO PC Cond

theorem intP_nat (m : Nat) : intP m = [.g (.bool false), .g (.sl (wsG (dig m)))] := by
  unfold intP
  rw [decide_eq_false (by omega), Int.natAbs_natCast]

set_option maxRecDepth 100000 in
set_option maxHeartbeats 8000000 in
theorem expNN_0 : PC Tryz.prog 93 [.nils, .nilp, .g (.sl (wsG [10])), .g (.sl []), .g (.sl []), .g (.bool false)] ⟨[], [], []⟩ (.g (.sl (wsG [1]))) ⟨[], [], []⟩ := by
  have hal1 := alias_nil (p := .g (.sl (wsG [10])))
  have hal2 := alias_nil (p := .g (.sl []))
  have hsw := setWord_pc (x := 1) (by decide)
  refine PC_of_PW Tryz.func93 rfl rfl (rs := _) rfl (Nat.le_of_ble_eq_true (by kernel_rfl)) ?_
  (repeat (first | ((first | refine qA ?_ | refine qB ?_ | refine xN ?_ | refine xE ?_ | refine xT ?_); try show PW _ _ _ _ _ _) | refine ro1 tabOk rfl rfl ?_ | refine ro2 tabOk rfl rfl ?_ | refine ro3 tabOk rfl rfl ?_ | refine rd1 tabOk rfl rfl ?_ | refine rd2 tabOk rfl rfl ?_ | refine rd3 tabOk rfl rfl ?_ | ((first | apply oR rfl rfl | (apply dF rfl rfl rfl; intro _) | (apply dP rfl rfl rfl; intro _) | (apply dL rfl rfl rfl; intro _) | apply dC rfl rfl rfl rfl); (focus (first | exact cb [true] rfl rfl (EN rfl) (hal1) rfl rfl rfl rfl rfl rfl rfl rfl rfl rfl rfl | exact cb [true] rfl rfl (EN rfl) (hal2) rfl rfl rfl rfl rfl rfl rfl rfl rfl rfl rfl | exact cJ | exact mG | exact bT | exact nD)); try exact kQ) | refine xU [6] rfl ?_ | refine xR ?_ | refine qxa rfl rfl mixed ?_ | refine qxb rfl rfl mixed ?_ | refine qxi rfl rfl rfl rfl rfl mixed ?_ | refine qxc rfl rfl mixed ?_ | refine qxd rfl rfl mixed ?_ | refine xB ?_ | refine xt rfl ?_ | refine xf rfl ?_))
  refine PW_cut (slots [(12, .vw 0 0 0 1 1)]) ⟨[], [], [AR 0 [1]]⟩ ?_ ?_
  · (repeat (first | ((first | refine qA ?_ | refine qB ?_ | refine xN ?_ | refine xE ?_ | refine xT ?_); try show PW _ _ _ _ _ _) | refine ro1 tabOk rfl rfl ?_ | refine ro2 tabOk rfl rfl ?_ | refine ro3 tabOk rfl rfl ?_ | refine rd1 tabOk rfl rfl ?_ | refine rd2 tabOk rfl rfl ?_ | refine rd3 tabOk rfl rfl ?_ | ((first | apply oR rfl rfl | (apply dF rfl rfl rfl; intro _) | (apply dP rfl rfl rfl; intro _) | (apply dL rfl rfl rfl; intro _) | apply dC rfl rfl rfl rfl); (focus (first | exact cd [true] rfl rfl (EN rfl) (hsw) rfl rfl rfl rfl rfl rfl rfl rfl rfl rfl rfl | exact cJ | exact mG | exact bT | exact nD)); try exact kQ) | refine xS ?_ | refine xR ?_ | refine qxa rfl rfl mixed ?_ | refine qxb rfl rfl mixed ?_ | refine qxi rfl rfl rfl rfl rfl mixed ?_ | refine qxc rfl rfl mixed ?_ | refine qxd rfl rfl mixed ?_ | refine xB ?_ | refine xt rfl ?_ | refine xf rfl ?_))
    exact ⟨SlotsOk.le ⟨.inl rfl, trivial⟩, HLe.of_eq rfl⟩
  refine PW_freeze 0 rfl (PW_weak (env' := slots [(12, .g (.sl (wsG [1])))]) (H' := ⟨[], [], [.gone (0 + 1)]⟩) (SlotsOk.le ⟨.inl rfl, trivial⟩) (HLe.of_eq rfl) ?_)
  (repeat (first | ((first | refine qA ?_ | refine qB ?_ | refine xN ?_ | refine xE ?_ | refine xT ?_); try show PW _ _ _ _ _ _) | refine ro1 tabOk rfl rfl ?_ | refine ro2 tabOk rfl rfl ?_ | refine ro3 tabOk rfl rfl ?_ | refine rd1 tabOk rfl rfl ?_ | refine rd2 tabOk rfl rfl ?_ | refine rd3 tabOk rfl rfl ?_ | ((first | apply oR rfl rfl | (apply dF rfl rfl rfl; intro _) | (apply dP rfl rfl rfl; intro _) | (apply dL rfl rfl rfl; intro _) | apply dC rfl rfl rfl rfl); (focus (first | exact cJ | exact mG | exact bT | exact nD)); try exact kQ) | refine xS ?_ | refine xR ?_ | refine qxa rfl rfl mixed ?_ | refine qxb rfl rfl mixed ?_ | refine qxi rfl rfl rfl rfl rfl mixed ?_ | refine qxc rfl rfl mixed ?_ | refine qxd rfl rfl mixed ?_ | refine xB ?_ | refine xt rfl ?_ | refine xf rfl ?_))
  (first | refine Ret_box wN rfl rfl rfl rfl rfl rfl rfl rfl rfl ?_ ?_ ?_ rfl | refine Ret_box (wC vT wN) rfl rfl rfl rfl rfl rfl rfl rfl rfl ?_ ?_ ?_ rfl | refine Ret_box (wC (vA (AG rfl) (SZ rfl) rfl rfl (lB rfl)) wN) rfl rfl rfl rfl rfl rfl rfl rfl rfl ?_ ?_ ?_ rfl | refine Ret_box (wC vT (wC vT wN)) rfl rfl rfl rfl rfl rfl rfl rfl rfl ?_ ?_ ?_ rfl | refine Ret_box (wC (vA (AG rfl) (SZ rfl) rfl rfl (lB rfl)) (wC vT wN)) rfl rfl rfl rfl rfl rfl rfl rfl rfl ?_ ?_ ?_ rfl)
  all_goals rfl

set_option maxRecDepth 100000 in
set_option maxHeartbeats 8000000 in
theorem expNN_1 : PC Tryz.prog 93 [.nils, .nilp, .g (.sl (wsG [10])), .g (.sl (wsG [1])), .g (.sl []), .g (.bool false)] ⟨[], [], []⟩ (.g (.sl (wsG [10]))) ⟨[], [], []⟩ := by
  have hal1 := alias_nil (p := .g (.sl (wsG [10])))
  have hal2 := alias_nil (p := .g (.sl (wsG [1])))
  have hset := set_pc (xs := [10]) (by decide) (by decide)
  refine PC_of_PW Tryz.func93 rfl rfl (rs := _) rfl (Nat.le_of_ble_eq_true (by kernel_rfl)) ?_
  (repeat (first | ((first | refine qA ?_ | refine qB ?_ | refine xN ?_ | refine xE ?_ | refine xT ?_); try show PW _ _ _ _ _ _) | refine ro1 tabOk rfl rfl ?_ | refine ro2 tabOk rfl rfl ?_ | refine ro3 tabOk rfl rfl ?_ | refine rd1 tabOk rfl rfl ?_ | refine rd2 tabOk rfl rfl ?_ | refine rd3 tabOk rfl rfl ?_ | ((first | apply oR rfl rfl | (apply dF rfl rfl rfl; intro _) | (apply dP rfl rfl rfl; intro _) | (apply dL rfl rfl rfl; intro _) | apply dC rfl rfl rfl rfl); (focus (first | exact cb [true] rfl rfl (EN rfl) (hal1) rfl rfl rfl rfl rfl rfl rfl rfl rfl rfl rfl | exact cb [true] rfl rfl (EN rfl) (hal2) rfl rfl rfl rfl rfl rfl rfl rfl rfl rfl rfl | exact iA (g := wG 10) rfl (EL rfl) (SZ rfl) rfl rfl (by decide) rfl rfl | exact iA (g := wG 1) rfl (EL rfl) (SZ rfl) rfl rfl (by decide) rfl rfl | exact cJ | exact mG | exact bT | exact nD)); try exact kQ) | refine xU [12] rfl ?_ | refine xR ?_ | refine qxa rfl rfl mixed ?_ | refine qxb rfl rfl mixed ?_ | refine qxi rfl rfl rfl rfl rfl mixed ?_ | refine qxc rfl rfl mixed ?_ | refine qxd rfl rfl mixed ?_ | refine xB ?_ | refine xt rfl ?_ | refine xf rfl ?_))
  refine PW_cut (slots [(12, .vw 0 0 0 1 1)]) ⟨[], [], [AR 0 [10]]⟩ ?_ ?_
  · (repeat (first | ((first | refine qA ?_ | refine qB ?_ | refine xN ?_ | refine xE ?_ | refine xT ?_); try show PW _ _ _ _ _ _) | refine ro1 tabOk rfl rfl ?_ | refine ro2 tabOk rfl rfl ?_ | refine ro3 tabOk rfl rfl ?_ | refine rd1 tabOk rfl rfl ?_ | refine rd2 tabOk rfl rfl ?_ | refine rd3 tabOk rfl rfl ?_ | ((first | apply oR rfl rfl | (apply dF rfl rfl rfl; intro _) | (apply dP rfl rfl rfl; intro _) | (apply dL rfl rfl rfl; intro _) | apply dC rfl rfl rfl rfl); (focus (first | exact cd [true] rfl rfl (EN rfl) (hset) rfl rfl rfl rfl rfl rfl rfl rfl rfl rfl rfl | exact cJ | exact mG | exact bT | exact nD)); try exact kQ) | refine xS ?_ | refine xR ?_ | refine qxa rfl rfl mixed ?_ | refine qxb rfl rfl mixed ?_ | refine qxi rfl rfl rfl rfl rfl mixed ?_ | refine qxc rfl rfl mixed ?_ | refine qxd rfl rfl mixed ?_ | refine xB ?_ | refine xt rfl ?_ | refine xf rfl ?_))
    exact ⟨SlotsOk.le ⟨.inl rfl, trivial⟩, HLe.of_eq rfl⟩
  refine PW_freeze 0 rfl (PW_weak (env' := slots [(12, .g (.sl (wsG [10])))]) (H' := ⟨[], [], [.gone (0 + 1)]⟩) (SlotsOk.le ⟨.inl rfl, trivial⟩) (HLe.of_eq rfl) ?_)
  (repeat (first | ((first | refine qA ?_ | refine qB ?_ | refine xN ?_ | refine xE ?_ | refine xT ?_); try show PW _ _ _ _ _ _) | refine ro1 tabOk rfl rfl ?_ | refine ro2 tabOk rfl rfl ?_ | refine ro3 tabOk rfl rfl ?_ | refine rd1 tabOk rfl rfl ?_ | refine rd2 tabOk rfl rfl ?_ | refine rd3 tabOk rfl rfl ?_ | ((first | apply oR rfl rfl | (apply dF rfl rfl rfl; intro _) | (apply dP rfl rfl rfl; intro _) | (apply dL rfl rfl rfl; intro _) | apply dC rfl rfl rfl rfl); (focus (first | exact cJ | exact mG | exact bT | exact nD)); try exact kQ) | refine xS ?_ | refine xR ?_ | refine qxa rfl rfl mixed ?_ | refine qxb rfl rfl mixed ?_ | refine qxi rfl rfl rfl rfl rfl mixed ?_ | refine qxc rfl rfl mixed ?_ | refine qxd rfl rfl mixed ?_ | refine xB ?_ | refine xt rfl ?_ | refine xf rfl ?_))
  (first | refine Ret_box wN rfl rfl rfl rfl rfl rfl rfl rfl rfl ?_ ?_ ?_ rfl | refine Ret_box (wC vT wN) rfl rfl rfl rfl rfl rfl rfl rfl rfl ?_ ?_ ?_ rfl | refine Ret_box (wC (vA (AG rfl) (SZ rfl) rfl rfl (lB rfl)) wN) rfl rfl rfl rfl rfl rfl rfl rfl rfl ?_ ?_ ?_ rfl | refine Ret_box (wC vT (wC vT wN)) rfl rfl rfl rfl rfl rfl rfl rfl rfl ?_ ?_ ?_ rfl | refine Ret_box (wC (vA (AG rfl) (SZ rfl) rfl rfl (lB rfl)) (wC vT wN)) rfl rfl rfl rfl rfl rfl rfl rfl rfl ?_ ?_ ?_ rfl)
  all_goals rfl

theorem expNN_all {n : Nat} (hn : n < 256) : PC Tryz.prog 93 [.nils, .nilp, .g (.sl (wsG [10])), .g (.sl (wsG (dig n))), .g (.sl []), .g (.bool false)] ⟨[], [], []⟩ (.g (.sl (wsG (dig (10 ^ n))))) ⟨[], [], []⟩ := by
  rcases (by omega : n = 0 ∨ n = 1 ∨ 2 ≤ n) with h | h | h
  · subst h
    rw [dig_zero, Nat.pow_zero, dig_one (n := 1) (by decide) (by decide)]
    exact expNN_0
  · subst h
    rw [Nat.pow_one, dig_one (n := 1) (by decide) (by decide), dig_one (n := 10) (by decide) (by decide)]
    exact expNN_1
  · rw [dig_one (n := n) (by omega) (by unfold WB; omega)]
    exact expNN_pc h hn

set_option maxRecDepth 100000 in
set_option maxHeartbeats 8000000 in
theorem exp_pc {n : Nat} (hn : n < 256) : PC Tryz.prog 68 [.ptr 0 0, .ptr 1 0, .ptr 2 0, .nilp, .g (.bool false)] ⟨[[.g (.bool false), .nils], [.g (.bool false), .g (.sl (wsG [10]))], [.g (.bool false), .g (.sl (wsG (dig n)))]], [], []⟩ (.ptr 0 0)
    ⟨[[.g (.bool false), .g (.sl (wsG (dig (10 ^ n))))], [.g (.bool false), .g (.sl (wsG [10]))], [.g (.bool false), .g (.sl (wsG (dig n)))]], [], []⟩ := by
  have hc := expNN_all hn
  generalize dig (10 ^ n) = Z at *
  generalize dig n = ys at *
  refine PC_of_PW Tryz.func68 rfl rfl (rs := _) rfl (Nat.le_of_ble_eq_true (by kernel_rfl)) ?_
  (repeat' (first | (first | ((first | refine qA ?_ | refine qB ?_ | refine xN ?_ | refine xE ?_ | refine xT ?_); try show PW _ _ _ _ _ _) | refine ro1 tabOk rfl rfl ?_ | refine ro2 tabOk rfl rfl ?_ | refine ro3 tabOk rfl rfl ?_ | refine rd1 tabOk rfl rfl ?_ | refine rd2 tabOk rfl rfl ?_ | refine rd3 tabOk rfl rfl ?_ | ((first | apply oR rfl rfl | (apply dF rfl rfl rfl; intro _) | (apply dP rfl rfl rfl; intro _) | (apply dL rfl rfl rfl; intro _) | apply dC rfl rfl rfl rfl); (focus (first | exact PO_pnnil rfl Tryz.underlying53 rfl rfl | exact cd [true] rfl rfl (EN rfl) (hc) rfl rfl rfl rfl rfl rfl rfl rfl rfl rfl rfl | exact cJ | exact mG | exact bT | exact nD)); try exact kQ) | refine xS ?_ | refine xR ?_ | refine qxa rfl rfl mixed ?_ | refine qxb rfl rfl mixed ?_ | refine qxi rfl rfl rfl rfl rfl mixed ?_ | refine qxc rfl rfl mixed ?_ | refine qxd rfl rfl mixed ?_ | refine xB ?_ | refine xt rfl ?_ | refine xf rfl ?_) | (refine POps_split rfl rfl (fun h => ?_) (fun h => ?_) <;> fail_if_success (first | (have : true = true := h) | (have : false = false := h))) | (refine POpsD_split rfl rfl (fun h => ?_) (fun h => ?_) <;> fail_if_success (first | (have : true = true := h) | (have : false = false := h))) | refine PW_cond rfl (fun h => ?_) (fun h => ?_)))
  all_goals ((first | refine Ret_box wN rfl rfl rfl rfl rfl rfl rfl rfl rfl ?_ ?_ ?_ rfl | refine Ret_box (wC vT wN) rfl rfl rfl rfl rfl rfl rfl rfl rfl ?_ ?_ ?_ rfl | refine Ret_box (wC (vA (AG rfl) (SZ rfl) rfl rfl (lB rfl)) wN) rfl rfl rfl rfl rfl rfl rfl rfl rfl ?_ ?_ ?_ rfl | refine Ret_box (wC vT (wC vT wN)) rfl rfl rfl rfl rfl rfl rfl rfl rfl ?_ ?_ ?_ rfl | refine Ret_box (wC (vA (AG rfl) (SZ rfl) rfl rfl (lB rfl)) (wC vT wN)) rfl rfl rfl rfl rfl rfl rfl rfl rfl ?_ ?_ ?_ rfl))
  all_goals rfl

set_option maxRecDepth 100000 in
set_option maxHeartbeats 8000000 in
theorem Exp_pc {n : Nat} (hn : n < 256) : PC Tryz.prog 59 [.ptr 0 0, .ptr 1 0, .ptr 2 0, .nilp] ⟨[[.g (.bool false), .nils], [.g (.bool false), .g (.sl (wsG [10]))], [.g (.bool false), .g (.sl (wsG (dig n)))]], [], []⟩ (.ptr 0 0)
    ⟨[[.g (.bool false), .g (.sl (wsG (dig (10 ^ n))))], [.g (.bool false), .g (.sl (wsG [10]))], [.g (.bool false), .g (.sl (wsG (dig n)))]], [], []⟩ := by
  have hc := exp_pc hn
  refine PC_of_PW Tryz.func59 rfl rfl (rs := _) rfl (Nat.le_of_ble_eq_true (by kernel_rfl)) ?_
  (repeat (first | ((first | refine qA ?_ | refine qB ?_ | refine xN ?_ | refine xE ?_ | refine xT ?_); try show PW _ _ _ _ _ _) | refine ro1 tabOk rfl rfl ?_ | refine ro2 tabOk rfl rfl ?_ | refine ro3 tabOk rfl rfl ?_ | refine rd1 tabOk rfl rfl ?_ | refine rd2 tabOk rfl rfl ?_ | refine rd3 tabOk rfl rfl ?_ | ((first | apply oR rfl rfl | (apply dF rfl rfl rfl; intro _) | (apply dP rfl rfl rfl; intro _) | (apply dL rfl rfl rfl; intro _) | apply dC rfl rfl rfl rfl); (focus (first | exact cd [] rfl rfl (EN rfl) (hc) rfl rfl rfl rfl rfl rfl rfl rfl rfl rfl rfl | exact cJ | exact mG | exact bT | exact nD)); try exact kQ) | refine xS ?_ | refine xR ?_ | refine qxa rfl rfl mixed ?_ | refine qxb rfl rfl mixed ?_ | refine qxi rfl rfl rfl rfl rfl mixed ?_ | refine qxc rfl rfl mixed ?_ | refine qxd rfl rfl mixed ?_ | refine xB ?_ | refine xt rfl ?_ | refine xf rfl ?_))
  (first | refine Ret_box wN rfl rfl rfl rfl rfl rfl rfl rfl rfl ?_ ?_ ?_ rfl | refine Ret_box (wC vT wN) rfl rfl rfl rfl rfl rfl rfl rfl rfl ?_ ?_ ?_ rfl | refine Ret_box (wC (vA (AG rfl) (SZ rfl) rfl rfl (lB rfl)) wN) rfl rfl rfl rfl rfl rfl rfl rfl rfl ?_ ?_ ?_ rfl | refine Ret_box (wC vT (wC vT wN)) rfl rfl rfl rfl rfl rfl rfl rfl rfl ?_ ?_ ?_ rfl | refine Ret_box (wC (vA (AG rfl) (SZ rfl) rfl rfl (lB rfl)) (wC vT wN)) rfl rfl rfl rfl rfl rfl rfl rfl rfl ?_ ?_ ?_ rfl)
  all_goals rfl
end Go.Proofs.YtdicineiaifahaaGreatDoor


namespace Go.Proofs.YtdicineiaifahaaGreatDoor
open Go Go.Pure
attribute [local irreducible] PW POps POpsD PO PC Cond

theorem anyArg {f : FuncId} {a p b c v : PV} {H H' : PH} (h : PC Tryz.prog f [a, .any, b, c] H v H') : PC Tryz.prog f [a, p, b, c] H v H' := by
  unfold PC at h ⊢
  intro cx vs hr ha
  refine h cx vs hr ⟨ha.1, fun i q u hq hu => ?_⟩
  match i, hq with
  | 0, hq => exact ha.2 0 q u hq hu
  | 1, hq => cases hq; exact .any u
  | 2, hq => exact ha.2 2 q u hq hu
  | 3, hq => exact ha.2 3 q u hq hu
  | (_ + 4), hq => simp at hq

set_option maxRecDepth 100000 in
set_option maxHeartbeats 8000000 in
/-- A product of two whole numbers, as its parts. -/
theorem imul_nz {X Y : Nat} {p q : Bool} (hX : X ≠ 0) (hY : Y ≠ 0) (hm : (wsG (dig X)).length ≤ 30) (hm2 : (wsG (dig Y)).length ≤ 30) : PC Tryz.prog 58 [.ptr 0 0, .nilp, .ptr 1 0, .ptr 2 0] ⟨[[.g (.bool false), .nils], [.g (.bool p), .g (.sl (wsG (dig X)))], [.g (.bool q), .g (.sl (wsG (dig Y)))]], [], []⟩ (.tuple [])
    ⟨[[.g (.bool (p != q)), .g (.sl (wsG (dig (X * Y))))], [.g (.bool p), .g (.sl (wsG (dig X)))], [.g (.bool q), .g (.sl (wsG (dig Y)))]], [], []⟩ := by
  have hc := anyArg (p := .nilp) (mul_g hX hY hm hm2)
  have htk : ((wsG (prodW X Y)).drop 0).take (dig (X * Y)).length = wsG (dig (X * Y)) := by
    rw [List.drop_zero, wsG, ← List.map_take, prodW_take]
    rfl
  have hpos : 1 ≤ (wsG (dig (X * Y))).length := dig_len_pos (Nat.mul_ne_zero hX hY)
  generalize dig (X * Y) = zs at *
  generalize prodW X Y = pw at *
  generalize hA : dig X = xs at *
  generalize hB : dig Y = ys at *
  generalize (wsG xs).length + (wsG ys).length + 4 = cz at *
  refine PC_of_PW Tryz.func58 rfl rfl (rs := _) rfl (Nat.le_of_ble_eq_true (by kernel_rfl)) ?_
  (repeat (first | ((first | refine qA ?_ | refine qB ?_ | refine xN ?_ | refine xE ?_ | refine xT ?_); try show PW _ _ _ _ _ _) | refine ro1 tabOk rfl rfl ?_ | refine ro2 tabOk rfl rfl ?_ | refine ro3 tabOk rfl rfl ?_ | refine rd1 tabOk rfl rfl ?_ | refine rd2 tabOk rfl rfl ?_ | refine rd3 tabOk rfl rfl ?_ | ((first | apply oR rfl rfl | (apply dF rfl rfl rfl; intro _) | (apply dP rfl rfl rfl; intro _) | (apply dL rfl rfl rfl; intro _) | apply dC rfl rfl rfl rfl); (focus (first | exact PO_pcmp rfl Tryz.underlying53 (SZ rfl) (.inl rfl) rfl rfl rfl rfl | exact cJ | exact mG | exact bT | exact nD)); try exact kQ) | refine xU [3] rfl ?_ | refine xR ?_ | refine qxa rfl rfl mixed ?_ | refine qxb rfl rfl mixed ?_ | refine qxi rfl rfl rfl rfl rfl mixed ?_ | refine qxc rfl rfl mixed ?_ | refine qxd rfl rfl mixed ?_ | refine xB ?_ | refine xt rfl ?_ | refine xf rfl ?_))
  refine PW_cut (slots [(0, .ptr 0 0), (2, .ptr 1 0), (3, .ptr 2 0)]) ⟨[[.g (.bool false), .vw 0 0 0 zs.length cz], [.g (.bool p), .g (.sl (wsG xs))], [.g (.bool q), .g (.sl (wsG ys))]], [], [AR 0 pw]⟩ ?_ ?_
  · (repeat (first | ((first | refine qA ?_ | refine qB ?_ | refine xN ?_ | refine xE ?_ | refine xT ?_); try show PW _ _ _ _ _ _) | refine ro1 tabOk rfl rfl ?_ | refine ro2 tabOk rfl rfl ?_ | refine ro3 tabOk rfl rfl ?_ | refine rd1 tabOk rfl rfl ?_ | refine rd2 tabOk rfl rfl ?_ | refine rd3 tabOk rfl rfl ?_ | ((first | apply oR rfl rfl | (apply dF rfl rfl rfl; intro _) | (apply dP rfl rfl rfl; intro _) | (apply dL rfl rfl rfl; intro _) | apply dC rfl rfl rfl rfl); (focus (first | exact cd [true] rfl rfl (EN rfl) (hc) rfl rfl rfl rfl rfl rfl rfl rfl rfl rfl rfl | exact cJ | exact mG | exact bT | exact nD)); try exact kQ) | refine xS ?_ | refine xR ?_ | refine xK false false [0, 1, 2] rfl mixed (by decide +kernel) ?_ | refine xK false true [0, 1, 2] rfl mixed (by decide +kernel) ?_ | refine xK true false [0, 1, 2] rfl mixed (by decide +kernel) ?_ | refine xK true true [0, 1, 2] rfl mixed (by decide +kernel) ?_ | refine xB ?_ | refine xt rfl ?_ | refine xf rfl ?_))
    exact ⟨SlotsOk.le ⟨.inl rfl, .inl rfl, .inl rfl, trivial⟩, HLe.of_eq rfl⟩
  refine PW_freeze 0 rfl (PW_weak (env' := slots [(0, .ptr 0 0), (2, .ptr 1 0), (3, .ptr 2 0)]) (H' := ⟨[[.g (.bool false), .g (.sl (wsG zs))], [.g (.bool p), .g (.sl (wsG xs))], [.g (.bool q), .g (.sl (wsG ys))]], [], [.gone (0 + 1)]⟩) (SlotsOk.le ⟨.inl rfl, .inl rfl, .inl rfl, trivial⟩) (HLe.of_eq ?_) ?_)
  · rw [← htk]; rfl
  (repeat' (first | (first | ((first | refine qA ?_ | refine qB ?_ | refine xN ?_ | refine xE ?_ | refine xT ?_); try show PW _ _ _ _ _ _) | refine ro1 tabOk rfl rfl ?_ | refine ro2 tabOk rfl rfl ?_ | refine ro3 tabOk rfl rfl ?_ | refine rd1 tabOk rfl rfl ?_ | refine rd2 tabOk rfl rfl ?_ | refine rd3 tabOk rfl rfl ?_ | ((first | apply oR rfl rfl | (apply dF rfl rfl rfl; intro _) | (apply dP rfl rfl rfl; intro _) | (apply dL rfl rfl rfl; intro _) | apply dC rfl rfl rfl rfl); (focus (first | exact cJ | exact mG | exact bT | exact nD)); try exact kQ) | refine xS ?_ | refine xR ?_ | refine xK false false [0, 1, 2] rfl mixed (by decide +kernel) ?_ | refine xK false true [0, 1, 2] rfl mixed (by decide +kernel) ?_ | refine xK true false [0, 1, 2] rfl mixed (by decide +kernel) ?_ | refine xK true true [0, 1, 2] rfl mixed (by decide +kernel) ?_ | refine xB ?_ | refine xt rfl ?_ | refine xf rfl ?_) | (refine POps_split rfl rfl (fun h => ?_) (fun h => ?_) <;> fail_if_success (first | (have : true = true := h) | (have : false = false := h))) | (refine POpsD_split rfl rfl (fun h => ?_) (fun h => ?_) <;> fail_if_success (first | (have : true = true := h) | (have : false = false := h))) | refine PW_cond rfl (fun h => ?_) (fun h => ?_)))
  · (first | refine Ret_box wN rfl rfl rfl rfl rfl rfl rfl rfl rfl ?_ ?_ ?_ rfl | refine Ret_box (wC vT wN) rfl rfl rfl rfl rfl rfl rfl rfl rfl ?_ ?_ ?_ rfl | refine Ret_box (wC (vA (AG rfl) (SZ rfl) rfl rfl (lB rfl)) wN) rfl rfl rfl rfl rfl rfl rfl rfl rfl ?_ ?_ ?_ rfl | refine Ret_box (wC vT (wC vT wN)) rfl rfl rfl rfl rfl rfl rfl rfl rfl ?_ ?_ ?_ rfl | refine Ret_box (wC (vA (AG rfl) (SZ rfl) rfl rfl (lB rfl)) (wC vT wN)) rfl rfl rfl rfl rfl rfl rfl rfl rfl ?_ ?_ ?_ rfl)
    all_goals rfl
  · exfalso; have hh := of_decide_eq_false h; omega

set_option maxRecDepth 100000 in
set_option maxHeartbeats 8000000 in
theorem imul_z {X Y : Nat} {p q : Bool} (h0 : X = 0 ∨ Y = 0) : PC Tryz.prog 58 [.ptr 0 0, .nilp, .ptr 1 0, .ptr 2 0] ⟨[[.g (.bool false), .nils], [.g (.bool p), .g (.sl (wsG (dig X)))], [.g (.bool q), .g (.sl (wsG (dig Y)))]], [], []⟩ (.tuple [])
    ⟨[[.g (.bool false), .nils], [.g (.bool p), .g (.sl (wsG (dig X)))], [.g (.bool q), .g (.sl (wsG (dig Y)))]], [], []⟩ := by
  have hc := anyArg (p := .nilp) (mul_z h0)
  generalize hA : dig X = xs at *
  generalize hB : dig Y = ys at *
  refine PC_of_PW Tryz.func58 rfl rfl (rs := _) rfl (Nat.le_of_ble_eq_true (by kernel_rfl)) ?_
  (repeat' (first | (first | ((first | refine qA ?_ | refine qB ?_ | refine xN ?_ | refine xE ?_ | refine xT ?_); try show PW _ _ _ _ _ _) | refine ro1 tabOk rfl rfl ?_ | refine ro2 tabOk rfl rfl ?_ | refine ro3 tabOk rfl rfl ?_ | refine rd1 tabOk rfl rfl ?_ | refine rd2 tabOk rfl rfl ?_ | refine rd3 tabOk rfl rfl ?_ | ((first | apply oR rfl rfl | (apply dF rfl rfl rfl; intro _) | (apply dP rfl rfl rfl; intro _) | (apply dL rfl rfl rfl; intro _) | apply dC rfl rfl rfl rfl); (focus (first | exact cd [true] rfl rfl (EN rfl) (hc) rfl rfl rfl rfl rfl rfl rfl rfl rfl rfl rfl | exact PO_pcmp rfl Tryz.underlying53 (SZ rfl) (.inl rfl) rfl rfl rfl rfl | exact cJ | exact mG | exact bT | exact nD)); try exact kQ) | refine xS ?_ | refine xR ?_ | refine xK false false [0, 1, 2] rfl mixed (by decide +kernel) ?_ | refine xK false true [0, 1, 2] rfl mixed (by decide +kernel) ?_ | refine xK true false [0, 1, 2] rfl mixed (by decide +kernel) ?_ | refine xK true true [0, 1, 2] rfl mixed (by decide +kernel) ?_ | refine xB ?_ | refine xt rfl ?_ | refine xf rfl ?_) | (refine POps_split rfl rfl (fun h => ?_) (fun h => ?_) <;> fail_if_success (first | (have : true = true := h) | (have : false = false := h))) | (refine POpsD_split rfl rfl (fun h => ?_) (fun h => ?_) <;> fail_if_success (first | (have : true = true := h) | (have : false = false := h))) | refine PW_cond rfl (fun h => ?_) (fun h => ?_)))
  all_goals ((first | refine Ret_box wN rfl rfl rfl rfl rfl rfl rfl rfl rfl ?_ ?_ ?_ rfl | refine Ret_box (wC vT wN) rfl rfl rfl rfl rfl rfl rfl rfl rfl ?_ ?_ ?_ rfl | refine Ret_box (wC (vA (AG rfl) (SZ rfl) rfl rfl (lB rfl)) wN) rfl rfl rfl rfl rfl rfl rfl rfl rfl ?_ ?_ ?_ rfl | refine Ret_box (wC vT (wC vT wN)) rfl rfl rfl rfl rfl rfl rfl rfl rfl ?_ ?_ ?_ rfl | refine Ret_box (wC (vA (AG rfl) (SZ rfl) rfl rfl (lB rfl)) (wC vT wN)) rfl rfl rfl rfl rfl rfl rfl rfl rfl ?_ ?_ ?_ rfl))
  all_goals rfl
end Go.Proofs.YtdicineiaifahaaGreatDoor


namespace Go.Proofs.YtdicineiaifahaaGreatDoor
open Go Go.Pure
attribute [local irreducible] PW POps POpsD PO PC Cond

theorem mul_sign {x y : Int} (hx : x ≠ 0) (hy : y ≠ 0) : decide (x * y < 0) = (decide (x < 0) != decide (y < 0)) := by
  rcases Int.lt_or_gt_of_ne hx with h1 | h1 <;> rcases Int.lt_or_gt_of_ne hy with h2 | h2
  · have := Int.mul_pos_of_neg_of_neg h1 h2
    rw [decide_eq_false (by omega), decide_eq_true h1, decide_eq_true h2]; rfl
  · have := Int.mul_neg_of_neg_of_pos h1 h2
    rw [decide_eq_true this, decide_eq_true h1, decide_eq_false (by omega)]; rfl
  · have := Int.mul_neg_of_pos_of_neg h1 h2
    rw [decide_eq_true this, decide_eq_false (by omega), decide_eq_true h2]; rfl
  · have := Int.mul_pos h1 h2
    rw [decide_eq_false (by omega), decide_eq_false (by omega), decide_eq_false (by omega)]; rfl

set_option maxRecDepth 100000 in
set_option maxHeartbeats 8000000 in
theorem Mul_pc {x y : Int} (hm : (dig x.natAbs).length ≤ 30) (hm2 : (dig y.natAbs).length ≤ 30) : PC Tryz.prog 39 [.ptr 0 0, .ptr 1 0, .ptr 2 0] ⟨[[.g (.bool false), .nils], intP x, intP y], [], []⟩ (.ptr 0 0) ⟨[intP (x * y), intP x, intP y], [], []⟩ := by
  by_cases hx : x = 0 ∨ y = 0
  · have h0 : x.natAbs = 0 ∨ y.natAbs = 0 := by omega
    have hp : x * y = 0 := by rcases hx with h | h <;> subst h <;> simp
    have hc := imul_z (p := decide (x < 0)) (q := decide (y < 0)) h0
    have e0 : intP (0 : Int) = [.g (.bool false), .g (.sl [])] := by unfold intP; rw [show (0 : Int).natAbs = 0 from rfl, dig_zero]; rfl
    rw [hp]
    refine PC.post (H1 := ⟨[[.g (.bool false), .nils], intP x, intP y], [], []⟩) ?_ (show HLe _ _ ⟨[intP 0, intP x, intP y], [], []⟩ from by rw [e0]; exact HLe.packbx)
    unfold intP
    generalize dig x.natAbs = xs at *
    generalize dig y.natAbs = ys at *
    generalize decide (x < 0) = p at *
    generalize decide (y < 0) = q at *
    refine PC_of_PW Tryz.func39 rfl rfl (rs := _) rfl (Nat.le_of_ble_eq_true (by kernel_rfl)) ?_
    (repeat (first | ((first | refine qA ?_ | refine qB ?_ | refine xN ?_ | refine xE ?_ | refine xT ?_); try show PW _ _ _ _ _ _) | refine ro1 tabOk rfl rfl ?_ | refine ro2 tabOk rfl rfl ?_ | refine ro3 tabOk rfl rfl ?_ | refine rd1 tabOk rfl rfl ?_ | refine rd2 tabOk rfl rfl ?_ | refine rd3 tabOk rfl rfl ?_ | ((first | apply oR rfl rfl | (apply dF rfl rfl rfl; intro _) | (apply dP rfl rfl rfl; intro _) | (apply dL rfl rfl rfl; intro _) | apply dC rfl rfl rfl rfl); (focus (first | exact cd [] rfl rfl (EN rfl) (hc) rfl rfl rfl rfl rfl rfl rfl rfl rfl rfl rfl | exact cJ | exact mG | exact bT | exact nD)); try exact kQ) | refine xS ?_ | refine xR ?_ | refine qxa rfl rfl mixed ?_ | refine qxb rfl rfl mixed ?_ | refine qxi rfl rfl rfl rfl rfl mixed ?_ | refine qxc rfl rfl mixed ?_ | refine qxd rfl rfl mixed ?_ | refine xB ?_ | refine xt rfl ?_ | refine xf rfl ?_))
    (first | refine Ret_box wN rfl rfl rfl rfl rfl rfl rfl rfl rfl ?_ ?_ ?_ rfl | refine Ret_box (wC vT wN) rfl rfl rfl rfl rfl rfl rfl rfl rfl ?_ ?_ ?_ rfl | refine Ret_box (wC (vA (AG rfl) (SZ rfl) rfl rfl (lB rfl)) wN) rfl rfl rfl rfl rfl rfl rfl rfl rfl ?_ ?_ ?_ rfl | refine Ret_box (wC vT (wC vT wN)) rfl rfl rfl rfl rfl rfl rfl rfl rfl ?_ ?_ ?_ rfl | refine Ret_box (wC (vA (AG rfl) (SZ rfl) rfl rfl (lB rfl)) (wC vT wN)) rfl rfl rfl rfl rfl rfl rfl rfl rfl ?_ ?_ ?_ rfl)
    all_goals rfl
  · have hx1 : x.natAbs ≠ 0 := by omega
    have hy1 : y.natAbs ≠ 0 := by omega
    have hc := imul_nz (p := decide (x < 0)) (q := decide (y < 0)) hx1 hy1 (by rw [wsG_length]; exact hm) (by rw [wsG_length]; exact hm2)
    unfold intP
    rw [mul_sign (by omega) (by omega), Int.natAbs_mul]
    generalize dig (x.natAbs * y.natAbs) = zs at *
    generalize dig x.natAbs = xs at *
    generalize dig y.natAbs = ys at *
    generalize decide (x < 0) = p at *
    generalize decide (y < 0) = q at *
    refine PC_of_PW Tryz.func39 rfl rfl (rs := _) rfl (Nat.le_of_ble_eq_true (by kernel_rfl)) ?_
    (repeat (first | ((first | refine qA ?_ | refine qB ?_ | refine xN ?_ | refine xE ?_ | refine xT ?_); try show PW _ _ _ _ _ _) | refine ro1 tabOk rfl rfl ?_ | refine ro2 tabOk rfl rfl ?_ | refine ro3 tabOk rfl rfl ?_ | refine rd1 tabOk rfl rfl ?_ | refine rd2 tabOk rfl rfl ?_ | refine rd3 tabOk rfl rfl ?_ | ((first | apply oR rfl rfl | (apply dF rfl rfl rfl; intro _) | (apply dP rfl rfl rfl; intro _) | (apply dL rfl rfl rfl; intro _) | apply dC rfl rfl rfl rfl); (focus (first | exact cd [] rfl rfl (EN rfl) (hc) rfl rfl rfl rfl rfl rfl rfl rfl rfl rfl rfl | exact cJ | exact mG | exact bT | exact nD)); try exact kQ) | refine xS ?_ | refine xR ?_ | refine qxa rfl rfl mixed ?_ | refine qxb rfl rfl mixed ?_ | refine qxi rfl rfl rfl rfl rfl mixed ?_ | refine qxc rfl rfl mixed ?_ | refine qxd rfl rfl mixed ?_ | refine xB ?_ | refine xt rfl ?_ | refine xf rfl ?_))
    (first | refine Ret_box wN rfl rfl rfl rfl rfl rfl rfl rfl rfl ?_ ?_ ?_ rfl | refine Ret_box (wC vT wN) rfl rfl rfl rfl rfl rfl rfl rfl rfl ?_ ?_ ?_ rfl | refine Ret_box (wC (vA (AG rfl) (SZ rfl) rfl rfl (lB rfl)) wN) rfl rfl rfl rfl rfl rfl rfl rfl rfl ?_ ?_ ?_ rfl | refine Ret_box (wC vT (wC vT wN)) rfl rfl rfl rfl rfl rfl rfl rfl rfl ?_ ?_ ?_ rfl | refine Ret_box (wC (vA (AG rfl) (SZ rfl) rfl rfl (lB rfl)) (wC vT wN)) rfl rfl rfl rfl rfl rfl rfl rfl rfl ?_ ?_ ?_ rfl)
    all_goals rfl

set_option maxRecDepth 100000 in
set_option maxHeartbeats 8000000 in
/-- A power of ten. -/
theorem ten_pc {n : Nat} (hn : n < 256) : PC Tryz.prog 41 [.g (.int .i64 n)] ⟨[], [], []⟩ (.ptr 0 0) ⟨[intP (10 ^ n : Nat)], [], []⟩ := by
  have h1 := newInt_pc (z := 10) (by decide) (by decide)
  have h2 := newInt_pc (z := (n : Int)) (by omega) (by omega)
  have h3 := Exp_pc hn
  rw [show intP (10 : Int) = [.g (.bool false), .g (.sl (wsG [10]))] from by rw [show (10 : Int) = ((10 : Nat) : Int) from rfl, intP_nat, dig_one (by decide) (by decide)]] at h1
  rw [intP_nat] at h2 ⊢
  have hcv : IntKind.i64.wrap (n : Int) = n := w64 (by omega)
  generalize dig (10 ^ n) = Z at *
  generalize dig n = ys at *
  refine PC_of_PW Tryz.func41 rfl rfl (rs := _) rfl (Nat.le_of_ble_eq_true (by kernel_rfl)) ?_
  (repeat (first | ((first | refine qA ?_ | refine qB ?_ | refine xN ?_ | refine xE ?_ | refine xT ?_); try show PW _ _ _ _ _ _) | refine ro1 tabOk rfl rfl ?_ | refine ro2 tabOk rfl rfl ?_ | refine ro3 tabOk rfl rfl ?_ | refine rd1 tabOk rfl rfl ?_ | refine rd2 tabOk rfl rfl ?_ | refine rd3 tabOk rfl rfl ?_ | ((first | apply oR rfl rfl | (apply dF rfl rfl rfl; intro _) | (apply dP rfl rfl rfl; intro _) | (apply dL rfl rfl rfl; intro _) | apply dC rfl rfl rfl rfl); (focus (first | exact cb [] rfl rfl (EN rfl) (h1) rfl rfl rfl rfl rfl rfl rfl rfl rfl rfl rfl | exact cb [] rfl rfl (EN rfl) (h2) rfl rfl rfl rfl rfl rfl rfl rfl rfl rfl rfl | exact cd [] rfl rfl (EN rfl) (h3) rfl rfl rfl rfl rfl rfl rfl rfl rfl rfl rfl | exact cJ | exact mG | exact bT | exact nD)); try exact kQ) | refine xS ?_ | refine xR ?_ | refine qxa rfl rfl mixed ?_ | refine qxb rfl rfl mixed ?_ | refine qxi rfl rfl rfl rfl rfl mixed ?_ | refine qxc rfl rfl mixed ?_ | refine qxd rfl rfl mixed ?_ | refine xB ?_ | refine xt rfl ?_ | refine xf rfl ?_))
  (first | refine Ret_box wN rfl rfl rfl rfl rfl rfl rfl rfl rfl ?_ ?_ ?_ rfl | refine Ret_box (wC vT wN) rfl rfl rfl rfl rfl rfl rfl rfl rfl ?_ ?_ ?_ rfl | refine Ret_box (wC (vA (AG rfl) (SZ rfl) rfl rfl (lB rfl)) wN) rfl rfl rfl rfl rfl rfl rfl rfl rfl ?_ ?_ ?_ rfl | refine Ret_box (wC vT (wC vT wN)) rfl rfl rfl rfl rfl rfl rfl rfl rfl ?_ ?_ ?_ rfl | refine Ret_box (wC (vA (AG rfl) (SZ rfl) rfl rfl (lB rfl)) (wC vT wN)) rfl rfl rfl rfl rfl rfl rfl rfl rfl ?_ ?_ ?_ rfl)
  all_goals rfl
end Go.Proofs.YtdicineiaifahaaGreatDoor

