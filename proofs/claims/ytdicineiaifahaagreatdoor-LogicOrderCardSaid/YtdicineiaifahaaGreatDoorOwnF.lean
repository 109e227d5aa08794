/- What the program's functions compute, each shown once; and plain laws of it. -/
import Derived.Test.YtdicineiaifahaaGreatDoorOwnD
import Derived.Test.YtdicineiaifahaaGreatDoorPureC
import Derived.Test.YtdicineiaifahaaGreatDoorPureE
namespace Go.Proofs.YtdicineiaifahaaGreatDoor
open Go Go.Pure Go.Shelf
attribute [local irreducible] PW POps POpsD PO PC Cond

/-- A contract of a call that gets numbers, out of the shelf's. -/
theorem pc_two {P : Program} {f : FuncId} {k1 k2 : IntKind} {x y : Int} {u : Value} {v : PV} (h : ∀ w : World, Calls P f #[.int k1 x, .int k2 y] w fun e w' => e = .returned u ∧ w' = w) (hv : ∀ c : Ctx, RV c v u) :
    PC P f [.g (.int k1 x), .g (.int k2 y)] ⟨[], [], []⟩ v ⟨[], [], []⟩ := by
  unfold PC
  intro c vs hr ha
  obtain ⟨hl, hvs⟩ := ha
  obtain ⟨a, b, rfl⟩ : ∃ a b, vs = #[a, b] := by
    obtain ⟨l⟩ := vs
    match l, hl with
    | [a, b], _ => exact ⟨a, b, rfl⟩
  have h0 := RV_int (hvs 0 _ a rfl rfl)
  have h1 := RV_int (hvs 1 _ b rfl rfl)
  subst h0; subst h1
  refine (h c.w).mono ?_
  rintro e w' ⟨rfl, rfl⟩
  exact ⟨u, c, rfl, rfl, hr, Evo.refl c, hv c⟩
theorem pc_one {P : Program} {f : FuncId} {k1 : IntKind} {x : Int} {u : Value} {v : PV} (h : ∀ w : World, Calls P f #[.int k1 x] w fun e w' => e = .returned u ∧ w' = w) (hv : ∀ c : Ctx, RV c v u) :
    PC P f [.g (.int k1 x)] ⟨[], [], []⟩ v ⟨[], [], []⟩ := by
  unfold PC
  intro c vs hr ha
  obtain ⟨hl, hvs⟩ := ha
  obtain ⟨a, rfl⟩ : ∃ a, vs = #[a] := by
    obtain ⟨l⟩ := vs
    match l, hl with
    | [a], _ => exact ⟨a, rfl⟩
  have h0 := RV_int (hvs 0 _ a rfl rfl)
  subst h0
  refine (h c.w).mono ?_
  rintro e w' ⟨rfl, rfl⟩
  exact ⟨u, c, rfl, rfl, hr, Evo.refl c, hv c⟩
theorem rv_pair (c : Ctx) (x y : Nat) : RV c (.tuple [.g (wG x), .g (wG y)]) (.tuple #[.int .u64 (x : Int), .int .u64 (y : Int)]) := by
  refine .tuple _ _ rfl fun i p v hp hv => ?_
  match i with
  | 0 => cases hp; cases hv; exact .g _ _ (.int _ _)
  | 1 => cases hp; cases hv; exact .g _ _ (.int _ _)
  | n + 2 => simp at hp

theorem bmul_pc {x y : Nat} (hx : x < WB) (hy : y < WB) : PC Tryz.prog 100 [.g (wG x), .g (wG y)] ⟨[], [], []⟩ (.tuple [.g (wG (x * y / WB)), .g (wG (x * y % WB))]) ⟨[], [], []⟩ :=
  pc_two (fun w => Any.bits_Mul layMul x y hx hy w) (fun c => rv_pair c _ _)
theorem add64_ext {x y c : Nat} (hc : c ≤ 1) (w : World) : (callFunc 136 (intsV [(.u64, x), (.u64, y), (.u64, c)])).run Tryz.prog w = .ok (.value (.tuple #[.int .u64 (((x + y + c) % WB : Nat) : Int), .int .u64 (((x + y + c) / WB : Nat) : Int)])) w :=
  Any7.bits_Add64 layAdd x y c hc w
theorem lz_pc {x : Nat} (hx : x < WB) : PC Tryz.prog 161 [.g (wG x)] ⟨[], [], []⟩ (.g (.int .i64 (64 - (Lib.bitLen x : Int)))) ⟨[], [], []⟩ :=
  pc_one (fun w => by
    have hx' : x < 18446744073709551616 := hx
    have h := Any.bits_LeadingZeros layLz (x : Int) w (by omega) (by omega)
    rw [Int.toNat_natCast] at h
    exact h) (fun c => .g _ _ (.int _ _))
end Go.Proofs.YtdicineiaifahaaGreatDoor


namespace Go.Proofs.YtdicineiaifahaaGreatDoor
open Go Go.Pure
attribute [local irreducible] PW POps POpsD PO PC Cond

theorem u64_wrap {n : Nat} {z : Int} (hz : z = n) (h : n < WB) : IntKind.u64.wrap z = n := by
  have h' : n < 18446744073709551616 := h
  subst hz
  rw [IntKind.wrap_u64]
  omega
theorem wG_wrap {n : Nat} {z : Int} (hz : z = n) (h : n < WB) : GV.int .u64 (IntKind.u64.wrap z) = wG n := by
  have h' : n < 18446744073709551616 := h
  subst hz
  unfold wG
  rw [IntKind.wrap_u64]
  congr 1
  omega

set_option maxRecDepth 100000 in
set_option maxHeartbeats 4000000 in
theorem badd_pc {x y c : Nat} (hc : c ≤ 1) : PC Tryz.prog 103 [.g (wG x), .g (wG y), .g (wG c)] ⟨[], [], []⟩ (.tuple [.g (wG ((x + y + c) % WB)), .g (wG ((x + y + c) / WB))]) ⟨[], [], []⟩ := by
  refine PC_of_PW Tryz.func103 rfl rfl (rs := _) rfl (Nat.le_of_ble_eq_true (by kernel_rfl)) ?_
  (repeat (first | ((first | refine qA ?_ | refine qB ?_ | refine xN ?_ | refine xE ?_ | refine xT ?_); try show PW _ _ _ _ _ _) | refine ro1 tabOk rfl rfl ?_ | refine ro2 tabOk rfl rfl ?_ | refine ro3 tabOk rfl rfl ?_ | refine rd1 tabOk rfl rfl ?_ | refine rd2 tabOk rfl rfl ?_ | refine rd3 tabOk rfl rfl ?_ | ((first | apply oR rfl rfl | (apply dF rfl rfl rfl; intro _) | (apply dP rfl rfl rfl; intro _) | (apply dL rfl rfl rfl; intro _) | apply dC rfl rfl rfl rfl); (focus (first | exact PO_call_ext rfl rfl rfl (fun w => add64_ext hc w) (fun c => rv_pair c _ _) | exact cJ | exact mG | exact bT | exact nD)); try exact kQ) | refine xS ?_ | refine xR ?_ | refine qxa rfl rfl mixed ?_ | refine qxb rfl rfl mixed ?_ | refine qxi rfl rfl rfl rfl rfl mixed ?_ | refine qxc rfl rfl mixed ?_ | refine qxd rfl rfl mixed ?_ | refine xB ?_ | refine xt rfl ?_ | refine xf rfl ?_))
  exact Ret2 (vC vT (vC vT vN)) rfl rfl rfl
theorem www {x y c : Nat} (hx : x < WB) (hy : y < WB) (hc : c < WB) : (x * y % WB + c + 0) % WB = (x * y + c) % WB ∧ x * y / WB + (x * y % WB + c + 0) / WB = (x * y + c) / WB ∧ (x * y + c) / WB < WB := by
  refine ⟨by rw [Nat.add_zero, Nat.mod_add_mod], ?_, word_step hx hy hc⟩
  have h1 := Nat.mod_add_div (x * y) WB
  have h2 : (x * y + c) / WB = (x * y % WB + c + WB * (x * y / WB)) / WB := by congr 1; omega
  rw [h2, Nat.add_mul_div_left _ _ (by decide), Nat.add_zero, Nat.add_comm]

set_option maxRecDepth 100000 in
set_option maxHeartbeats 4000000 in
theorem www_pc {x y c : Nat} (hx : x < WB) (hy : y < WB) (hc : c < WB) : PC Tryz.prog 102 [.g (wG x), .g (wG y), .g (wG c)] ⟨[], [], []⟩ (.tuple [.g (wG ((x * y + c) / WB)), .g (wG ((x * y + c) % WB))]) ⟨[], [], []⟩ := by
  have h1 := bmul_pc hx hy
  have h2 := badd_pc (x := x * y % WB) (y := c) (c := 0) (by omega)
  obtain ⟨e1, e2, e3⟩ := www hx hy hc
  generalize (x * y + c) % WB = lo at e1 ⊢
  generalize (x * y + c) / WB = hi at e2 e3 ⊢
  generalize x * y / WB = h at h1 e2
  generalize x * y % WB = l at h1 h2 e1 e2
  generalize (l + c + 0) % WB = l2 at h2 e1
  generalize (l + c + 0) / WB = c2 at h2 e2
  subst e1
  refine PC_of_PW Tryz.func102 rfl rfl (rs := _) rfl (Nat.le_of_ble_eq_true (by kernel_rfl)) ?_
  (repeat (first | ((first | refine qA ?_ | refine qB ?_ | refine xN ?_ | refine xE ?_ | refine xT ?_); try show PW _ _ _ _ _ _) | refine ro1 tabOk rfl rfl ?_ | refine ro2 tabOk rfl rfl ?_ | refine ro3 tabOk rfl rfl ?_ | refine rd1 tabOk rfl rfl ?_ | refine rd2 tabOk rfl rfl ?_ | refine rd3 tabOk rfl rfl ?_ | ((first | apply oR rfl rfl | (apply dF rfl rfl rfl; intro _) | (apply dP rfl rfl rfl; intro _) | (apply dL rfl rfl rfl; intro _) | apply dC rfl rfl rfl rfl); (focus (first | exact cqP h1 | exact cqP h2 | exact cJ | exact mG | exact bT | exact nD)); try exact kQ) | refine xS ?_ | refine xR ?_ | refine qxa rfl rfl mixed ?_ | refine qxb rfl rfl mixed ?_ | refine qxi rfl rfl rfl rfl rfl mixed ?_ | refine qxc rfl rfl mixed ?_ | refine qxd rfl rfl mixed ?_ | refine xB ?_ | refine xt rfl ?_ | refine xf rfl ?_))
  exact Ret2 (vC vT (vC vT vN)) rfl (wG_wrap (by omega) e3) rfl

set_option maxRecDepth 100000 in
set_option maxHeartbeats 4000000 in
theorem nlz_pc {x : Nat} (hx : x < WB) (hb : Lib.bitLen x ≤ 64) : PC Tryz.prog 128 [.g (wG x)] ⟨[], [], []⟩ (.g (wG (64 - Lib.bitLen x))) ⟨[], [], []⟩ := by
  have h1 := lz_pc hx
  refine PC_of_PW Tryz.func128 rfl rfl (rs := _) rfl (Nat.le_of_ble_eq_true (by kernel_rfl)) ?_
  (repeat (first | ((first | refine qA ?_ | refine qB ?_ | refine xN ?_ | refine xE ?_ | refine xT ?_); try show PW _ _ _ _ _ _) | refine ro1 tabOk rfl rfl ?_ | refine ro2 tabOk rfl rfl ?_ | refine ro3 tabOk rfl rfl ?_ | refine rd1 tabOk rfl rfl ?_ | refine rd2 tabOk rfl rfl ?_ | refine rd3 tabOk rfl rfl ?_ | ((first | apply oR rfl rfl | (apply dF rfl rfl rfl; intro _) | (apply dP rfl rfl rfl; intro _) | (apply dL rfl rfl rfl; intro _) | apply dC rfl rfl rfl rfl); (focus (first | exact cqP h1 | exact cJ | exact mG | exact bT | exact nD)); try exact kQ) | refine xS ?_ | refine xR ?_ | refine qxa rfl rfl mixed ?_ | refine qxb rfl rfl mixed ?_ | refine qxi rfl rfl rfl rfl rfl mixed ?_ | refine qxc rfl rfl mixed ?_ | refine qxd rfl rfl mixed ?_ | refine xB ?_ | refine xt rfl ?_ | refine xf rfl ?_))
  (first | refine Ret_int (vC vT vN) rfl ?_ | refine Ret_bool (vC vT vN) rfl ?_ | refine Ret_g (vC vT vN) rfl ?_ | refine Ret_int (vC (vA (AG rfl) (SZ rfl) rfl rfl (lB rfl)) vN) rfl ?_ | refine Ret_bool (vC (vA (AG rfl) (SZ rfl) rfl rfl (lB rfl)) vN) rfl ?_ | refine Ret_g (vC (vA (AG rfl) (SZ rfl) rfl rfl (lB rfl)) vN) rfl ?_)
  refine u64_wrap (n := 64 - Lib.bitLen x) ?_ (Nat.lt_of_le_of_lt (Nat.sub_le _ _) (by decide))
  omega
end Go.Proofs.YtdicineiaifahaaGreatDoor


namespace Go.Proofs.YtdicineiaifahaaGreatDoor
open Go Go.Pure
attribute [local irreducible] PW POps POpsD PO PC Cond

abbrev WT : Nat := 91
/-- An array of words. -/
abbrev AR (g : Nat) (ws : List Nat) : MO := .arr g WT (wsG ws)

theorem wsG_set {ws : List Nat} {i w : Nat} : (wsG ws).set i (wG w) = wsG (ws.set i w) := by unfold wsG; rw [List.map_set]
theorem set_putL {ws us : List Nat} {off n w : Nat} (hl : us.length = n) (h : off + n < ws.length) : (putL ws off us).set (off + n) w = putL ws off (us ++ [w]) := by
  subst hl
  have hlen : (putL ws off us).length = ws.length := putL_length (by omega)
  apply List.ext_getElem?
  intro k
  rw [List.getElem?_set]
  unfold putL
  have e1 : (ws.take off).length = off := by simp; omega
  by_cases hk : off + us.length = k
  · subst hk
    rw [if_pos rfl, if_pos (by have := hlen; unfold putL at this; rw [this]; exact h)]
    rw [List.append_assoc, List.getElem?_append_right (by omega), e1, List.getElem?_append_left (by simp), List.getElem?_append_right (by omega)]
    simp
  · rw [if_neg hk]
    have e2 : (ws.take off ++ us).length = off + us.length := by rw [List.length_append, e1]
    have e3 : ws.take off ++ (us ++ [w]) ++ ws.drop (off + (us ++ [w]).length) = (ws.take off ++ us) ++ ([w] ++ ws.drop (off + (us ++ [w]).length)) := by simp
    rw [e3]
    by_cases h1 : k < off + us.length
    · rw [List.getElem?_append_left (by omega), List.getElem?_append_left (l₁ := ws.take off ++ us) (by omega)]
    · rw [List.getElem?_append_right (by omega), List.getElem?_append_right (l₁ := ws.take off ++ us) (by omega), e2, List.getElem?_append_right (by simp; omega), List.getElem?_drop, List.getElem?_drop]
      congr 1
      simp
      omega
theorem putL_nil (ws : List Nat) (off : Nat) : putL ws off [] = ws := by simp [putL]
theorem putL_get {ws us : List Nat} {off k : Nat} (h : off + us.length ≤ k) : (putL ws off us)[k]? = ws[k]? := by
  unfold putL
  by_cases hk : k < ws.length
  · rw [List.getElem?_append_right (by simp; omega), List.getElem?_drop]
    congr 1
    simp
    omega
  · rw [List.getElem?_eq_none (by simp; omega), List.getElem?_eq_none (by omega)]

theorem mulAdd_step : ∀ {l : List Nat} {y c i x : Nat}, l[i]? = some x → mulAddW (l.take (i + 1)) y c = mulAddW (l.take i) y c ++ [(x * y + mulAddC (l.take i) y c) % WB] ∧ mulAddC (l.take (i + 1)) y c = (x * y + mulAddC (l.take i) y c) / WB
  | [], _, _, _, _, h => by simp at h
  | z :: r, y, c, 0, x, h => by simp at h; subst h; simp [mulAddW, mulAddC]
  | z :: r, y, c, i + 1, x, h => by
    have := mulAdd_step (l := r) (y := y) (c := (z * y + c) / WB) (i := i) (x := x) (by simpa using h)
    simp only [List.take_succ_cons, mulAddW, mulAddC, List.cons_append]
    exact ⟨by rw [this.1], this.2⟩
theorem addMul_step : ∀ {z l : List Nat} {m c i x y : Nat}, z[i]? = some x → l[i]? = some y → addMulW (z.take (i + 1)) (l.take (i + 1)) m c = addMulW (z.take i) (l.take i) m c ++ [(y * m + x + addMulC (z.take i) (l.take i) m c) % WB] ∧ addMulC (z.take (i + 1)) (l.take (i + 1)) m c = (y * m + x + addMulC (z.take i) (l.take i) m c) / WB
  | [], _, _, _, _, _, _, h, _ => by simp at h
  | _ :: _, [], _, _, _, _, _, _, h => by simp at h
  | z :: zs, q :: l, m, c, 0, x, y, h, h' => by simp at h h'; subst h; subst h'; simp [addMulW, addMulC]
  | z :: zs, q :: l, m, c, i + 1, x, y, h, h' => by
    have := addMul_step (z := zs) (l := l) (m := m) (c := (q * m + z + c) / WB) (i := i) (x := x) (y := y) (by simpa using h) (by simpa using h')
    simp only [List.take_succ_cons, addMulW, addMulC, List.cons_append]
    exact ⟨by rw [this.1], this.2⟩

/-- mulAddVWW: z = x * y + r, told by its words; x is a slice that stays. -/
theorem mulAddV_pc {g o n cap : Nat} {ws xs : List Nat} {y r : Nat} (hx : okW xs) (hn : xs.length = n) (hm : n ≤ maxLen) (hy : y < WB) (hr : r < WB) (hfit : o + n ≤ ws.length) :
    PC Tryz.prog 46 [.vw 0 g o n cap, .g (.sl (wsG xs)), .g (wG y), .g (wG r)] ⟨[], [], [AR g ws]⟩ (.g (wG (mulAddC xs y r))) ⟨[], [], [AR g (putL ws o (mulAddW xs y r))]⟩ := by
  have hgl : ((wsG xs).length : Int) = n := by rw [wsG_length, hn]
  refine PC_of_PW Tryz.func46 rfl rfl (rs := _) rfl (Nat.le_of_ble_eq_true (by kernel_rfl)) ?_
  (repeat (first | ((first | refine qA ?_ | refine qB ?_ | refine xN ?_ | refine xE ?_ | refine xT ?_); try show PW _ _ _ _ _ _) | refine ro1 tabOk rfl rfl ?_ | refine ro2 tabOk rfl rfl ?_ | refine ro3 tabOk rfl rfl ?_ | refine rd1 tabOk rfl rfl ?_ | refine rd2 tabOk rfl rfl ?_ | refine rd3 tabOk rfl rfl ?_ | ((first | apply oR rfl rfl | (apply dF rfl rfl rfl; intro _) | (apply dP rfl rfl rfl; intro _) | (apply dL rfl rfl rfl; intro _) | apply dC rfl rfl rfl rfl); (focus (first | exact PO_vlen rfl (EL rfl) rfl | exact cJ | exact mG | exact bT | exact nD)); try exact kQ) | refine xS ?_ | refine xR ?_ | refine qxa rfl rfl mixed ?_ | refine qxb rfl rfl mixed ?_ | refine qxi rfl rfl rfl rfl rfl mixed ?_ | refine qxc rfl rfl mixed ?_ | refine qxd rfl rfl mixed ?_ | refine xB ?_ | refine xt rfl ?_ | refine xf rfl ?_))
  (first | refine POps_split rfl rfl (fun h => ?_) (fun h => ?_) | refine POpsD_split rfl rfl (fun h => ?_) (fun h => ?_) | refine PW_cond rfl (fun h => ?_) (fun h => ?_))
  · exfalso
    revert h
    simp [wsG_length, hn]
  clear h
  (repeat (first | ((first | refine qA ?_ | refine qB ?_ | refine xN ?_ | refine xE ?_ | refine xT ?_); try show PW _ _ _ _ _ _) | refine ro1 tabOk rfl rfl ?_ | refine ro2 tabOk rfl rfl ?_ | refine ro3 tabOk rfl rfl ?_ | refine rd1 tabOk rfl rfl ?_ | refine rd2 tabOk rfl rfl ?_ | refine rd3 tabOk rfl rfl ?_ | ((first | apply oR rfl rfl | (apply dF rfl rfl rfl; intro _) | (apply dP rfl rfl rfl; intro _) | (apply dL rfl rfl rfl; intro _) | apply dC rfl rfl rfl rfl); (focus (first | exact PO_vlen rfl (EL rfl) rfl | exact cJ | exact mG | exact bT | exact nD)); try exact kQ) | refine xS ?_ | refine xR ?_ | refine qxa rfl rfl mixed ?_ | refine qxb rfl rfl mixed ?_ | refine qxi rfl rfl rfl rfl rfl mixed ?_ | refine qxc rfl rfl mixed ?_ | refine qxd rfl rfl mixed ?_ | refine xB ?_ | refine xt rfl ?_ | refine xf rfl ?_))
  refine PW_loop (S := Nat) (fun i => slots [(0, .vw 0 g o n cap), (1, .g (.sl (wsG xs))), (2, .g (wG y)), (8, .g (wG (mulAddC (xs.take i) y r))), (18, .g (.int .i64 n)), (19, .g (.int .i64 i))]) (fun i => ⟨[], [], [AR g (putL ws o (mulAddW (xs.take i) y r))]⟩) (fun i => i ≤ n) (fun i => n - i) 0 (Nat.zero_le _)
    (SlotsOk.le ⟨.inl rfl, .inl rfl, .inl rfl, .inl rfl, .inl rfl, .inl rfl, trivial⟩) (HLe.of_eq (by rw [List.take_zero, mulAddW, putL_nil])) (fun i hi => ?_)
  (repeat (first | ((first | refine qA ?_ | refine qB ?_ | refine xN ?_ | refine xE ?_ | refine xT ?_); try show PW _ _ _ _ _ _) | refine ro1 tabOk rfl rfl ?_ | refine ro2 tabOk rfl rfl ?_ | refine ro3 tabOk rfl rfl ?_ | refine rd1 tabOk rfl rfl ?_ | refine rd2 tabOk rfl rfl ?_ | refine rd3 tabOk rfl rfl ?_ | ((first | apply oR rfl rfl | (apply dF rfl rfl rfl; intro _) | (apply dP rfl rfl rfl; intro _) | (apply dL rfl rfl rfl; intro _) | apply dC rfl rfl rfl rfl); (focus (first | exact cJ | exact mG | exact bT | exact nD)); try exact kQ) | refine xS ?_ | refine xR ?_ | refine qxa rfl rfl mixed ?_ | refine qxb rfl rfl mixed ?_ | refine qxi rfl rfl rfl rfl rfl mixed ?_ | refine qxc rfl rfl mixed ?_ | refine qxd rfl rfl mixed ?_ | refine xB ?_ | refine xt rfl ?_ | refine xf rfl ?_))
  (first | refine POps_split rfl rfl (fun h => ?_) (fun h => ?_) | refine POpsD_split rfl rfl (fun h => ?_) (fun h => ?_) | refine PW_cond rfl (fun h => ?_) (fun h => ?_))
  · have hlt : i < n := by have := of_decide_eq_true h; omega
    have hxi : xs[i]? = some (xs[i]'(by omega)) := List.getElem?_eq_getElem (by omega)
    generalize xs[i]'(by omega) = x at hxi
    have hg : (wsG xs)[(i : Int).toNat]? = some (wG x) := wsG_get hxi
    have hw := www_pc (hx.at hxi) hy (mulAddC_lt (hx.take i) hy hr)
    obtain ⟨s1, s2⟩ := mulAdd_step (y := y) (c := r) hxi
    have hti : (mulAddW (xs.take i) y r).length = i := by rw [mulAddW_length, List.length_take]; omega
    have hz : (wsG (putL ws o (mulAddW (xs.take i) y r)))[o + i]? = some (wG (ws[o + i]'(by omega))) := wsG_get (by rw [putL_get (by omega)]; exact List.getElem?_eq_getElem (by omega))
    generalize ws[o + i]'(by omega) = z at hz
    clear h
    (repeat (first | ((first | refine qA ?_ | refine qB ?_ | refine xN ?_ | refine xE ?_ | refine xT ?_); try show PW _ _ _ _ _ _) | refine ro1 tabOk rfl rfl ?_ | refine ro2 tabOk rfl rfl ?_ | refine ro3 tabOk rfl rfl ?_ | refine rd1 tabOk rfl rfl ?_ | refine rd2 tabOk rfl rfl ?_ | refine rd3 tabOk rfl rfl ?_ | ((first | apply oR rfl rfl | (apply dF rfl rfl rfl; intro _) | (apply dP rfl rfl rfl; intro _) | (apply dL rfl rfl rfl; intro _) | apply dC rfl rfl rfl rfl); (focus (first | exact cqP hw | exact iA rfl (EL rfl) (SZ rfl) rfl rfl (Int.natCast_nonneg _) hg rfl | exact PO_vindex i rfl (EL rfl) (SZ rfl) rfl rfl rfl hlt | exact PO_store_mref rfl (SZ rfl) rfl rfl rfl rfl (by decide) rfl hz (Nat.le_refl _) | exact cJ | exact mG | exact bT | exact nD)); try exact kQ) | refine xS ?_ | refine xR ?_ | refine qxa rfl rfl mixed ?_ | refine qxb rfl rfl mixed ?_ | refine qxi rfl rfl rfl rfl rfl mixed ?_ | refine qxc rfl rfl mixed ?_ | refine qxd rfl rfl mixed ?_ | refine xB ?_ | refine xt rfl ?_ | refine xf rfl ?_))
    exact ⟨i + 1, hlt, by omega, SlotsOk.le ⟨.inl rfl, .inl rfl, .inl rfl, .inl (by rw [s2]; rfl), .inl rfl, .inl (congrArg (fun k => PV.g (.int .i64 k)) (w64 (by unfold maxLen at hm; omega))), trivial⟩,
      HLe.of_eq (by
        rw [s1, ← set_putL hti (by omega)]
        exact congrArg (fun l => (⟨[], [], [MO.arr g WT l]⟩ : PH)) wsG_set)⟩
  · have hi' : i = n := by have := of_decide_eq_false h; omega
    subst hi'
    rw [List.take_of_length_le (Nat.le_of_eq hn)]
    (repeat (first | ((first | refine qA ?_ | refine qB ?_ | refine xN ?_ | refine xE ?_ | refine xT ?_); try show PW _ _ _ _ _ _) | refine ro1 tabOk rfl rfl ?_ | refine ro2 tabOk rfl rfl ?_ | refine ro3 tabOk rfl rfl ?_ | refine rd1 tabOk rfl rfl ?_ | refine rd2 tabOk rfl rfl ?_ | refine rd3 tabOk rfl rfl ?_ | ((first | apply oR rfl rfl | (apply dF rfl rfl rfl; intro _) | (apply dP rfl rfl rfl; intro _) | (apply dL rfl rfl rfl; intro _) | apply dC rfl rfl rfl rfl); (focus (first | exact cJ | exact mG | exact bT | exact nD)); try exact kQ) | refine xS ?_ | refine xR ?_ | refine qxa rfl rfl mixed ?_ | refine qxb rfl rfl mixed ?_ | refine qxi rfl rfl rfl rfl rfl mixed ?_ | refine qxc rfl rfl mixed ?_ | refine qxd rfl rfl mixed ?_ | refine xB ?_ | refine xt rfl ?_ | refine xf rfl ?_))
    (first | refine Ret_box wN rfl rfl rfl rfl rfl rfl rfl rfl rfl ?_ ?_ ?_ rfl | refine Ret_box (wC vT wN) rfl rfl rfl rfl rfl rfl rfl rfl rfl ?_ ?_ ?_ rfl | refine Ret_box (wC (vA (AG rfl) (SZ rfl) rfl rfl (lB rfl)) wN) rfl rfl rfl rfl rfl rfl rfl rfl rfl ?_ ?_ ?_ rfl | refine Ret_box (wC vT (wC vT wN)) rfl rfl rfl rfl rfl rfl rfl rfl rfl ?_ ?_ ?_ rfl | refine Ret_box (wC (vA (AG rfl) (SZ rfl) rfl rfl (lB rfl)) (wC vT wN)) rfl rfl rfl rfl rfl rfl rfl rfl rfl ?_ ?_ ?_ rfl)
    all_goals rfl
/-- mulAddVWW: z = x * y + r, told by its words; x is a part of another array. -/
theorem mulAddV_vpc {g o n cap g1 o1 c1 : Nat} {ws xs ws1 : List Nat} (hv : (ws1.drop o1).take n = xs) {y r : Nat} (hx : okW xs) (hn : xs.length = n) (hm : n ≤ maxLen) (hy : y < WB) (hr : r < WB) (hfit : o + n ≤ ws.length) :
    PC Tryz.prog 46 [.vw 0 g o n cap, .vw 1 g1 o1 n c1, .g (wG y), .g (wG r)] ⟨[], [], [AR g ws, AR g1 ws1]⟩ (.g (wG (mulAddC xs y r))) ⟨[], [], [AR g (putL ws o (mulAddW xs y r)), AR g1 ws1]⟩ := by
  refine PC_of_PW Tryz.func46 rfl rfl (rs := _) rfl (Nat.le_of_ble_eq_true (by kernel_rfl)) ?_
  (repeat (first | ((first | refine qA ?_ | refine qB ?_ | refine xN ?_ | refine xE ?_ | refine xT ?_); try show PW _ _ _ _ _ _) | refine ro1 tabOk rfl rfl ?_ | refine ro2 tabOk rfl rfl ?_ | refine ro3 tabOk rfl rfl ?_ | refine rd1 tabOk rfl rfl ?_ | refine rd2 tabOk rfl rfl ?_ | refine rd3 tabOk rfl rfl ?_ | ((first | apply oR rfl rfl | (apply dF rfl rfl rfl; intro _) | (apply dP rfl rfl rfl; intro _) | (apply dL rfl rfl rfl; intro _) | apply dC rfl rfl rfl rfl); (focus (first | exact PO_vlen rfl (EL rfl) rfl | exact cJ | exact mG | exact bT | exact nD)); try exact kQ) | refine xS ?_ | refine xR ?_ | refine qxa rfl rfl mixed ?_ | refine qxb rfl rfl mixed ?_ | refine qxi rfl rfl rfl rfl rfl mixed ?_ | refine qxc rfl rfl mixed ?_ | refine qxd rfl rfl mixed ?_ | refine xB ?_ | refine xt rfl ?_ | refine xf rfl ?_))
  (first | refine POps_split rfl rfl (fun h => ?_) (fun h => ?_) | refine POpsD_split rfl rfl (fun h => ?_) (fun h => ?_) | refine PW_cond rfl (fun h => ?_) (fun h => ?_))
  · exfalso
    revert h
    simp
  clear h
  (repeat (first | ((first | refine qA ?_ | refine qB ?_ | refine xN ?_ | refine xE ?_ | refine xT ?_); try show PW _ _ _ _ _ _) | refine ro1 tabOk rfl rfl ?_ | refine ro2 tabOk rfl rfl ?_ | refine ro3 tabOk rfl rfl ?_ | refine rd1 tabOk rfl rfl ?_ | refine rd2 tabOk rfl rfl ?_ | refine rd3 tabOk rfl rfl ?_ | ((first | apply oR rfl rfl | (apply dF rfl rfl rfl; intro _) | (apply dP rfl rfl rfl; intro _) | (apply dL rfl rfl rfl; intro _) | apply dC rfl rfl rfl rfl); (focus (first | exact PO_vlen rfl (EL rfl) rfl | exact cJ | exact mG | exact bT | exact nD)); try exact kQ) | refine xS ?_ | refine xR ?_ | refine qxa rfl rfl mixed ?_ | refine qxb rfl rfl mixed ?_ | refine qxi rfl rfl rfl rfl rfl mixed ?_ | refine qxc rfl rfl mixed ?_ | refine qxd rfl rfl mixed ?_ | refine xB ?_ | refine xt rfl ?_ | refine xf rfl ?_))
  refine PW_loop (S := Nat) (fun i => slots [(0, .vw 0 g o n cap), (1, .vw 1 g1 o1 n c1), (2, .g (wG y)), (8, .g (wG (mulAddC (xs.take i) y r))), (18, .g (.int .i64 n)), (19, .g (.int .i64 i))]) (fun i => ⟨[], [], [AR g (putL ws o (mulAddW (xs.take i) y r)), AR g1 ws1]⟩) (fun i => i ≤ n) (fun i => n - i) 0 (Nat.zero_le _)
    (SlotsOk.le ⟨.inl rfl, .inl rfl, .inl rfl, .inl rfl, .inl rfl, .inl rfl, trivial⟩) (HLe.of_eq (by rw [List.take_zero, mulAddW, putL_nil])) (fun i hi => ?_)
  (repeat (first | ((first | refine qA ?_ | refine qB ?_ | refine xN ?_ | refine xE ?_ | refine xT ?_); try show PW _ _ _ _ _ _) | refine ro1 tabOk rfl rfl ?_ | refine ro2 tabOk rfl rfl ?_ | refine ro3 tabOk rfl rfl ?_ | refine rd1 tabOk rfl rfl ?_ | refine rd2 tabOk rfl rfl ?_ | refine rd3 tabOk rfl rfl ?_ | ((first | apply oR rfl rfl | (apply dF rfl rfl rfl; intro _) | (apply dP rfl rfl rfl; intro _) | (apply dL rfl rfl rfl; intro _) | apply dC rfl rfl rfl rfl); (focus (first | exact cJ | exact mG | exact bT | exact nD)); try exact kQ) | refine xS ?_ | refine xR ?_ | refine qxa rfl rfl mixed ?_ | refine qxb rfl rfl mixed ?_ | refine qxi rfl rfl rfl rfl rfl mixed ?_ | refine qxc rfl rfl mixed ?_ | refine qxd rfl rfl mixed ?_ | refine xB ?_ | refine xt rfl ?_ | refine xf rfl ?_))
  (first | refine POps_split rfl rfl (fun h => ?_) (fun h => ?_) | refine POpsD_split rfl rfl (fun h => ?_) (fun h => ?_) | refine PW_cond rfl (fun h => ?_) (fun h => ?_))
  · have hlt : i < n := by have := of_decide_eq_true h; omega
    have hxi : xs[i]? = some (xs[i]'(by omega)) := List.getElem?_eq_getElem (by omega)
    generalize xs[i]'(by omega) = x at hxi
    have hg : (wsG ws1)[o1 + i]? = some (wG x) := wsG_get (by rw [← hv, List.getElem?_take, if_pos hlt, List.getElem?_drop] at hxi; exact hxi)
    have hw := www_pc (hx.at hxi) hy (mulAddC_lt (hx.take i) hy hr)
    obtain ⟨s1, s2⟩ := mulAdd_step (y := y) (c := r) hxi
    have hti : (mulAddW (xs.take i) y r).length = i := by rw [mulAddW_length, List.length_take]; omega
    have hz : (wsG (putL ws o (mulAddW (xs.take i) y r)))[o + i]? = some (wG (ws[o + i]'(by omega))) := wsG_get (by rw [putL_get (by omega)]; exact List.getElem?_eq_getElem (by omega))
    generalize ws[o + i]'(by omega) = z at hz
    clear h
    (repeat (first | ((first | refine qA ?_ | refine qB ?_ | refine xN ?_ | refine xE ?_ | refine xT ?_); try show PW _ _ _ _ _ _) | refine ro1 tabOk rfl rfl ?_ | refine ro2 tabOk rfl rfl ?_ | refine ro3 tabOk rfl rfl ?_ | refine rd1 tabOk rfl rfl ?_ | refine rd2 tabOk rfl rfl ?_ | refine rd3 tabOk rfl rfl ?_ | ((first | apply oR rfl rfl | (apply dF rfl rfl rfl; intro _) | (apply dP rfl rfl rfl; intro _) | (apply dL rfl rfl rfl; intro _) | apply dC rfl rfl rfl rfl); (focus (first | exact cqP hw | exact PO_load_mref_one rfl (AG rfl) rfl rfl hg rfl | exact PO_vindex i rfl (EL rfl) (SZ rfl) rfl rfl rfl hlt | exact PO_store_mref rfl (SZ rfl) rfl rfl rfl rfl (by decide) rfl hz (Nat.le_refl _) | exact cJ | exact mG | exact bT | exact nD)); try exact kQ) | refine xS ?_ | refine xR ?_ | refine qxa rfl rfl mixed ?_ | refine qxb rfl rfl mixed ?_ | refine qxi rfl rfl rfl rfl rfl mixed ?_ | refine qxc rfl rfl mixed ?_ | refine qxd rfl rfl mixed ?_ | refine xB ?_ | refine xt rfl ?_ | refine xf rfl ?_))
    exact ⟨i + 1, hlt, by omega, SlotsOk.le ⟨.inl rfl, .inl rfl, .inl rfl, .inl (by rw [s2]; rfl), .inl rfl, .inl (congrArg (fun k => PV.g (.int .i64 k)) (w64 (by unfold maxLen at hm; omega))), trivial⟩,
      HLe.of_eq (by
        rw [s1, ← set_putL hti (by omega)]
        exact congrArg (fun l => (⟨[], [], [MO.arr g WT l, AR g1 ws1]⟩ : PH)) wsG_set)⟩
  · have hi' : i = n := by have := of_decide_eq_false h; omega
    subst hi'
    rw [List.take_of_length_le (Nat.le_of_eq hn)]
    (repeat (first | ((first | refine qA ?_ | refine qB ?_ | refine xN ?_ | refine xE ?_ | refine xT ?_); try show PW _ _ _ _ _ _) | refine ro1 tabOk rfl rfl ?_ | refine ro2 tabOk rfl rfl ?_ | refine ro3 tabOk rfl rfl ?_ | refine rd1 tabOk rfl rfl ?_ | refine rd2 tabOk rfl rfl ?_ | refine rd3 tabOk rfl rfl ?_ | ((first | apply oR rfl rfl | (apply dF rfl rfl rfl; intro _) | (apply dP rfl rfl rfl; intro _) | (apply dL rfl rfl rfl; intro _) | apply dC rfl rfl rfl rfl); (focus (first | exact cJ | exact mG | exact bT | exact nD)); try exact kQ) | refine xS ?_ | refine xR ?_ | refine qxa rfl rfl mixed ?_ | refine qxb rfl rfl mixed ?_ | refine qxi rfl rfl rfl rfl rfl mixed ?_ | refine qxc rfl rfl mixed ?_ | refine qxd rfl rfl mixed ?_ | refine xB ?_ | refine xt rfl ?_ | refine xf rfl ?_))
    (first | refine Ret_box wN rfl rfl rfl rfl rfl rfl rfl rfl rfl ?_ ?_ ?_ rfl | refine Ret_box (wC vT wN) rfl rfl rfl rfl rfl rfl rfl rfl rfl ?_ ?_ ?_ rfl | refine Ret_box (wC (vA (AG rfl) (SZ rfl) rfl rfl (lB rfl)) wN) rfl rfl rfl rfl rfl rfl rfl rfl rfl ?_ ?_ ?_ rfl | refine Ret_box (wC vT (wC vT wN)) rfl rfl rfl rfl rfl rfl rfl rfl rfl ?_ ?_ ?_ rfl | refine Ret_box (wC (vA (AG rfl) (SZ rfl) rfl rfl (lB rfl)) (wC vT wN)) rfl rfl rfl rfl rfl rfl rfl rfl rfl ?_ ?_ ?_ rfl)
    all_goals rfl
end Go.Proofs.YtdicineiaifahaaGreatDoor


namespace Go.Proofs.YtdicineiaifahaaGreatDoor
open Go Go.Pure
attribute [local irreducible] PW POps POpsD PO PC Cond

theorem wwww {x c : Nat} : (x % WB + c + 0) % WB = (x + c) % WB ∧ x / WB + (x % WB + c + 0) / WB = (x + c) / WB := by
  refine ⟨by rw [Nat.add_zero, Nat.mod_add_mod], ?_⟩
  have h1 := Nat.mod_add_div x WB
  have h2 : (x + c) / WB = (x % WB + c + WB * (x / WB)) / WB := by congr 1; omega
  rw [h2, Nat.add_mul_div_left _ _ (by decide), Nat.add_zero, Nat.add_comm]

set_option maxRecDepth 100000 in
set_option maxHeartbeats 4000000 in
/-- addMulVVWW: z += y * m + a, told by its words. -/
theorem addMulV_pc {g o n cap cap' : Nat} {ws xs ys : List Nat} {m a : Nat} (hw : okW ws) (hv : (ws.drop o).take n = xs) (hy : okW ys) (hn : ys.length = n) (hm : n ≤ maxLen) (hmw : m < WB) (ha : a < WB) (hfit : o + n ≤ ws.length) :
    PC Tryz.prog 47 [.vw 0 g o n cap, .vw 0 g o n cap', .g (.sl (wsG ys)), .g (wG m), .g (wG a)] ⟨[], [], [AR g ws]⟩ (.g (wG (addMulC xs ys m a))) ⟨[], [], [AR g (putL ws o (addMulW xs ys m a))]⟩ := by
  have hxl : xs.length = n := by rw [← hv]; simp; omega
  have hxo : okW xs := by rw [← hv]; exact (hw.drop o).take n
  refine PC_of_PW Tryz.func47 rfl rfl (rs := _) rfl (Nat.le_of_ble_eq_true (by kernel_rfl)) ?_
  (repeat' (first | (first | ((first | refine qA ?_ | refine qB ?_ | refine xN ?_ | refine xE ?_ | refine xT ?_); try show PW _ _ _ _ _ _) | refine ro1 tabOk rfl rfl ?_ | refine ro2 tabOk rfl rfl ?_ | refine ro3 tabOk rfl rfl ?_ | refine rd1 tabOk rfl rfl ?_ | refine rd2 tabOk rfl rfl ?_ | refine rd3 tabOk rfl rfl ?_ | ((first | apply oR rfl rfl | (apply dF rfl rfl rfl; intro _) | (apply dP rfl rfl rfl; intro _) | (apply dL rfl rfl rfl; intro _) | apply dC rfl rfl rfl rfl); (focus (first | exact PO_vlen rfl (EL rfl) rfl | exact cJ | exact mG | exact bT | exact nD)); try exact kQ) | refine xU [3] rfl ?_ | refine xR ?_ | refine qxa rfl rfl mixed ?_ | refine qxb rfl rfl mixed ?_ | refine qxi rfl rfl rfl rfl rfl mixed ?_ | refine qxc rfl rfl mixed ?_ | refine qxd rfl rfl mixed ?_ | refine xB ?_ | refine xt rfl ?_ | refine xf rfl ?_) | (refine POps_split rfl rfl (fun h => ?_) (fun h => ?_) <;> fail_if_success (first | (have : true = true := h) | (have : false = false := h))) | (refine POpsD_split rfl rfl (fun h => ?_) (fun h => ?_) <;> fail_if_success (first | (have : true = true := h) | (have : false = false := h))) | refine PW_cond rfl (fun h => ?_) (fun h => ?_)))
  all_goals (try (exfalso; revert h; simp [wsG_length, hn]; done))
  all_goals (try (exfalso; rename_i h1 h2; revert h1 h2; simp [wsG_length, hn]; done))
  all_goals try clear h
  (repeat (first | ((first | refine qA ?_ | refine qB ?_ | refine xN ?_ | refine xE ?_ | refine xT ?_); try show PW _ _ _ _ _ _) | refine ro1 tabOk rfl rfl ?_ | refine ro2 tabOk rfl rfl ?_ | refine ro3 tabOk rfl rfl ?_ | refine rd1 tabOk rfl rfl ?_ | refine rd2 tabOk rfl rfl ?_ | refine rd3 tabOk rfl rfl ?_ | ((first | apply oR rfl rfl | (apply dF rfl rfl rfl; intro _) | (apply dP rfl rfl rfl; intro _) | (apply dL rfl rfl rfl; intro _) | apply dC rfl rfl rfl rfl); (focus (first | exact PO_vlen rfl (EL rfl) rfl | exact cJ | exact mG | exact bT | exact nD)); try exact kQ) | refine xS ?_ | refine xR ?_ | refine qxa rfl rfl mixed ?_ | refine qxb rfl rfl mixed ?_ | refine qxi rfl rfl rfl rfl rfl mixed ?_ | refine qxc rfl rfl mixed ?_ | refine qxd rfl rfl mixed ?_ | refine xB ?_ | refine xt rfl ?_ | refine xf rfl ?_))
  refine PW_loop (S := Nat) (fun i => slots [(0, .vw 0 g o n cap), (1, .vw 0 g o n cap'), (2, .g (.sl (wsG ys))), (3, .g (wG m)), (10, .g (wG (addMulC (xs.take i) (ys.take i) m a))), (31, .g (.int .i64 n)), (32, .g (.int .i64 i))]) (fun i => ⟨[], [], [AR g (putL ws o (addMulW (xs.take i) (ys.take i) m a))]⟩) (fun i => i ≤ n) (fun i => n - i) 0 (Nat.zero_le _)
    (SlotsOk.le ⟨.inl rfl, .inl rfl, .inl rfl, .inl rfl, .inl rfl, .inl rfl, .inl rfl, trivial⟩) (HLe.of_eq (by simp only [List.take_zero, addMulW, putL_nil])) (fun i hi => ?_)
  (repeat (first | ((first | refine qA ?_ | refine qB ?_ | refine xN ?_ | refine xE ?_ | refine xT ?_); try show PW _ _ _ _ _ _) | refine ro1 tabOk rfl rfl ?_ | refine ro2 tabOk rfl rfl ?_ | refine ro3 tabOk rfl rfl ?_ | refine rd1 tabOk rfl rfl ?_ | refine rd2 tabOk rfl rfl ?_ | refine rd3 tabOk rfl rfl ?_ | ((first | apply oR rfl rfl | (apply dF rfl rfl rfl; intro _) | (apply dP rfl rfl rfl; intro _) | (apply dL rfl rfl rfl; intro _) | apply dC rfl rfl rfl rfl); (focus (first | exact cJ | exact mG | exact bT | exact nD)); try exact kQ) | refine xS ?_ | refine xR ?_ | refine qxa rfl rfl mixed ?_ | refine qxb rfl rfl mixed ?_ | refine qxi rfl rfl rfl rfl rfl mixed ?_ | refine qxc rfl rfl mixed ?_ | refine qxd rfl rfl mixed ?_ | refine xB ?_ | refine xt rfl ?_ | refine xf rfl ?_))
  (first | refine POps_split rfl rfl (fun h => ?_) (fun h => ?_) | refine POpsD_split rfl rfl (fun h => ?_) (fun h => ?_) | refine PW_cond rfl (fun h => ?_) (fun h => ?_))
  · have hlt : i < n := by have := of_decide_eq_true h; omega
    have hxi : xs[i]? = some (xs[i]'(by omega)) := List.getElem?_eq_getElem (by omega)
    generalize xs[i]'(by omega) = x at hxi
    have hyi : ys[i]? = some (ys[i]'(by omega)) := List.getElem?_eq_getElem (by omega)
    generalize ys[i]'(by omega) = y at hyi
    have hg : (wsG ys)[(i : Int).toNat]? = some (wG y) := wsG_get hyi
    have hC := addMulC_lt (hxo.take i) (hy.take i) hmw ha
    have hti : (addMulW (xs.take i) (ys.take i) m a).length = i := by rw [addMulW_length (by rw [List.length_take, List.length_take]; omega), List.length_take]; omega
    have hz : (wsG (putL ws o (addMulW (xs.take i) (ys.take i) m a)))[o + i]? = some (wG x) := wsG_get (by rw [putL_get (by omega)]; rw [← hv, List.getElem?_take, if_pos hlt, List.getElem?_drop] at hxi; exact hxi)
    have h1 := www_pc (hy.at hyi) hmw (hxo.at hxi)
    have h2 := badd_pc (x := (y * m + x) % WB) (y := addMulC (xs.take i) (ys.take i) m a) (c := 0) (by omega)
    obtain ⟨s1, s2⟩ := addMul_step (m := m) (c := a) hxi hyi
    have hlast := addMulC_lt (hxo.take (i + 1)) (hy.take (i + 1)) hmw ha
    rw [s2] at hlast
    obtain ⟨e1, e2⟩ := wwww (x := y * m + x) (c := addMulC (xs.take i) (ys.take i) m a)
    clear h
    (repeat (first | ((first | refine qA ?_ | refine qB ?_ | refine xN ?_ | refine xE ?_ | refine xT ?_); try show PW _ _ _ _ _ _) | refine ro1 tabOk rfl rfl ?_ | refine ro2 tabOk rfl rfl ?_ | refine ro3 tabOk rfl rfl ?_ | refine rd1 tabOk rfl rfl ?_ | refine rd2 tabOk rfl rfl ?_ | refine rd3 tabOk rfl rfl ?_ | (apply dR rfl rfl; focus (first | exact Cond_mload rfl rfl (AG rfl) rfl rfl hz rfl)) | ((first | apply oR rfl rfl | (apply dF rfl rfl rfl; intro _) | (apply dP rfl rfl rfl; intro _) | (apply dL rfl rfl rfl; intro _) | apply dC rfl rfl rfl rfl); (focus (first | exact cqP h1 | exact cqP h2 | exact iA rfl (EL rfl) (SZ rfl) rfl rfl (Int.natCast_nonneg _) hg rfl | exact PO_vindex i rfl (EL rfl) (SZ rfl) rfl rfl rfl hlt | exact PO_store_mref rfl (SZ rfl) rfl rfl rfl rfl (by decide) rfl hz (Nat.le_refl _) | exact cJ | exact mG | exact bT | exact nD)); try exact kQ) | refine xS ?_ | refine xR ?_ | refine xK false false [10000] rfl mixed (by decide +kernel) ?_ | refine xK false true [10000] rfl mixed (by decide +kernel) ?_ | refine xK true false [10000] rfl mixed (by decide +kernel) ?_ | refine xK true true [10000] rfl mixed (by decide +kernel) ?_ | refine xB ?_ | refine xt rfl ?_ | refine xf rfl ?_))
    exact ⟨i + 1, hlt, by omega, SlotsOk.le ⟨.inl rfl, .inl rfl, .inl rfl, .inl rfl, .inl (congrArg PV.g (wG_wrap (by rw [s2, ← e2]; omega) (by rw [s2]; exact hlast))), .inl rfl, .inl (congrArg (fun k => PV.g (.int .i64 k)) (w64 (by unfold maxLen at hm; omega))), trivial⟩,
      HLe.of_eq (by
        rw [s1, ← e1, ← set_putL hti (by omega)]
        exact congrArg (fun l => (⟨[], [], [MO.arr g WT l]⟩ : PH)) wsG_set)⟩
  · have hi' : i = n := by have := of_decide_eq_false h; omega
    subst hi'
    rw [List.take_of_length_le (Nat.le_of_eq hn), List.take_of_length_le (Nat.le_of_eq hxl)]
    (repeat (first | ((first | refine qA ?_ | refine qB ?_ | refine xN ?_ | refine xE ?_ | refine xT ?_); try show PW _ _ _ _ _ _) | refine ro1 tabOk rfl rfl ?_ | refine ro2 tabOk rfl rfl ?_ | refine ro3 tabOk rfl rfl ?_ | refine rd1 tabOk rfl rfl ?_ | refine rd2 tabOk rfl rfl ?_ | refine rd3 tabOk rfl rfl ?_ | ((first | apply oR rfl rfl | (apply dF rfl rfl rfl; intro _) | (apply dP rfl rfl rfl; intro _) | (apply dL rfl rfl rfl; intro _) | apply dC rfl rfl rfl rfl); (focus (first | exact cJ | exact mG | exact bT | exact nD)); try exact kQ) | refine xS ?_ | refine xR ?_ | refine qxa rfl rfl mixed ?_ | refine qxb rfl rfl mixed ?_ | refine qxi rfl rfl rfl rfl rfl mixed ?_ | refine qxc rfl rfl mixed ?_ | refine qxd rfl rfl mixed ?_ | refine xB ?_ | refine xt rfl ?_ | refine xf rfl ?_))
    (first | refine Ret_box wN rfl rfl rfl rfl rfl rfl rfl rfl rfl ?_ ?_ ?_ rfl | refine Ret_box (wC vT wN) rfl rfl rfl rfl rfl rfl rfl rfl rfl ?_ ?_ ?_ rfl | refine Ret_box (wC (vA (AG rfl) (SZ rfl) rfl rfl (lB rfl)) wN) rfl rfl rfl rfl rfl rfl rfl rfl rfl ?_ ?_ ?_ rfl | refine Ret_box (wC vT (wC vT wN)) rfl rfl rfl rfl rfl rfl rfl rfl rfl ?_ ?_ ?_ rfl | refine Ret_box (wC (vA (AG rfl) (SZ rfl) rfl rfl (lB rfl)) (wC vT wN)) rfl rfl rfl rfl rfl rfl rfl rfl rfl ?_ ?_ ?_ rfl)
    all_goals rfl

set_option maxRecDepth 100000 in
set_option maxHeartbeats 4000000 in
/-- addMulVVWW: z += y * m + a, told by its words. -/
theorem addMulV_vpc {g o n cap cap' g1 o1 c1 : Nat} {ws xs ys ws1 : List Nat} {m a : Nat} (hv1 : (ws1.drop o1).take n = ys) (hw : okW ws) (hv : (ws.drop o).take n = xs) (hy : okW ys) (hn : ys.length = n) (hm : n ≤ maxLen) (hmw : m < WB) (ha : a < WB) (hfit : o + n ≤ ws.length) :
    PC Tryz.prog 47 [.vw 0 g o n cap, .vw 0 g o n cap', .vw 1 g1 o1 n c1, .g (wG m), .g (wG a)] ⟨[], [], [AR g ws, AR g1 ws1]⟩ (.g (wG (addMulC xs ys m a))) ⟨[], [], [AR g (putL ws o (addMulW xs ys m a)), AR g1 ws1]⟩ := by
  have hxl : xs.length = n := by rw [← hv]; simp; omega
  have hxo : okW xs := by rw [← hv]; exact (hw.drop o).take n
  refine PC_of_PW Tryz.func47 rfl rfl (rs := _) rfl (Nat.le_of_ble_eq_true (by kernel_rfl)) ?_
  (repeat' (first | (first | ((first | refine qA ?_ | refine qB ?_ | refine xN ?_ | refine xE ?_ | refine xT ?_); try show PW _ _ _ _ _ _) | refine ro1 tabOk rfl rfl ?_ | refine ro2 tabOk rfl rfl ?_ | refine ro3 tabOk rfl rfl ?_ | refine rd1 tabOk rfl rfl ?_ | refine rd2 tabOk rfl rfl ?_ | refine rd3 tabOk rfl rfl ?_ | ((first | apply oR rfl rfl | (apply dF rfl rfl rfl; intro _) | (apply dP rfl rfl rfl; intro _) | (apply dL rfl rfl rfl; intro _) | apply dC rfl rfl rfl rfl); (focus (first | exact PO_vlen rfl (EL rfl) rfl | exact cJ | exact mG | exact bT | exact nD)); try exact kQ) | refine xU [3] rfl ?_ | refine xR ?_ | refine qxa rfl rfl mixed ?_ | refine qxb rfl rfl mixed ?_ | refine qxi rfl rfl rfl rfl rfl mixed ?_ | refine qxc rfl rfl mixed ?_ | refine qxd rfl rfl mixed ?_ | refine xB ?_ | refine xt rfl ?_ | refine xf rfl ?_) | (refine POps_split rfl rfl (fun h => ?_) (fun h => ?_) <;> fail_if_success (first | (have : true = true := h) | (have : false = false := h))) | (refine POpsD_split rfl rfl (fun h => ?_) (fun h => ?_) <;> fail_if_success (first | (have : true = true := h) | (have : false = false := h))) | refine PW_cond rfl (fun h => ?_) (fun h => ?_)))
  all_goals (try (exfalso; revert h; simp; done))
  all_goals (try (exfalso; rename_i h1 h2; revert h1 h2; simp; done))
  all_goals try clear h
  (repeat (first | ((first | refine qA ?_ | refine qB ?_ | refine xN ?_ | refine xE ?_ | refine xT ?_); try show PW _ _ _ _ _ _) | refine ro1 tabOk rfl rfl ?_ | refine ro2 tabOk rfl rfl ?_ | refine ro3 tabOk rfl rfl ?_ | refine rd1 tabOk rfl rfl ?_ | refine rd2 tabOk rfl rfl ?_ | refine rd3 tabOk rfl rfl ?_ | ((first | apply oR rfl rfl | (apply dF rfl rfl rfl; intro _) | (apply dP rfl rfl rfl; intro _) | (apply dL rfl rfl rfl; intro _) | apply dC rfl rfl rfl rfl); (focus (first | exact PO_vlen rfl (EL rfl) rfl | exact cJ | exact mG | exact bT | exact nD)); try exact kQ) | refine xS ?_ | refine xR ?_ | refine qxa rfl rfl mixed ?_ | refine qxb rfl rfl mixed ?_ | refine qxi rfl rfl rfl rfl rfl mixed ?_ | refine qxc rfl rfl mixed ?_ | refine qxd rfl rfl mixed ?_ | refine xB ?_ | refine xt rfl ?_ | refine xf rfl ?_))
  refine PW_loop (S := Nat) (fun i => slots [(0, .vw 0 g o n cap), (1, .vw 0 g o n cap'), (2, .vw 1 g1 o1 n c1), (3, .g (wG m)), (10, .g (wG (addMulC (xs.take i) (ys.take i) m a))), (31, .g (.int .i64 n)), (32, .g (.int .i64 i))]) (fun i => ⟨[], [], [AR g (putL ws o (addMulW (xs.take i) (ys.take i) m a)), AR g1 ws1]⟩) (fun i => i ≤ n) (fun i => n - i) 0 (Nat.zero_le _)
    (SlotsOk.le ⟨.inl rfl, .inl rfl, .inl rfl, .inl rfl, .inl rfl, .inl rfl, .inl rfl, trivial⟩) (HLe.of_eq (by simp only [List.take_zero, addMulW, putL_nil])) (fun i hi => ?_)
  (repeat (first | ((first | refine qA ?_ | refine qB ?_ | refine xN ?_ | refine xE ?_ | refine xT ?_); try show PW _ _ _ _ _ _) | refine ro1 tabOk rfl rfl ?_ | refine ro2 tabOk rfl rfl ?_ | refine ro3 tabOk rfl rfl ?_ | refine rd1 tabOk rfl rfl ?_ | refine rd2 tabOk rfl rfl ?_ | refine rd3 tabOk rfl rfl ?_ | ((first | apply oR rfl rfl | (apply dF rfl rfl rfl; intro _) | (apply dP rfl rfl rfl; intro _) | (apply dL rfl rfl rfl; intro _) | apply dC rfl rfl rfl rfl); (focus (first | exact cJ | exact mG | exact bT | exact nD)); try exact kQ) | refine xS ?_ | refine xR ?_ | refine qxa rfl rfl mixed ?_ | refine qxb rfl rfl mixed ?_ | refine qxi rfl rfl rfl rfl rfl mixed ?_ | refine qxc rfl rfl mixed ?_ | refine qxd rfl rfl mixed ?_ | refine xB ?_ | refine xt rfl ?_ | refine xf rfl ?_))
  (first | refine POps_split rfl rfl (fun h => ?_) (fun h => ?_) | refine POpsD_split rfl rfl (fun h => ?_) (fun h => ?_) | refine PW_cond rfl (fun h => ?_) (fun h => ?_))
  · have hlt : i < n := by have := of_decide_eq_true h; omega
    have hxi : xs[i]? = some (xs[i]'(by omega)) := List.getElem?_eq_getElem (by omega)
    generalize xs[i]'(by omega) = x at hxi
    have hyi : ys[i]? = some (ys[i]'(by omega)) := List.getElem?_eq_getElem (by omega)
    generalize ys[i]'(by omega) = y at hyi
    have hg : (wsG ws1)[o1 + i]? = some (wG y) := wsG_get (by rw [← hv1, List.getElem?_take, if_pos hlt, List.getElem?_drop] at hyi; exact hyi)
    have hC := addMulC_lt (hxo.take i) (hy.take i) hmw ha
    have hti : (addMulW (xs.take i) (ys.take i) m a).length = i := by rw [addMulW_length (by rw [List.length_take, List.length_take]; omega), List.length_take]; omega
    have hz : (wsG (putL ws o (addMulW (xs.take i) (ys.take i) m a)))[o + i]? = some (wG x) := wsG_get (by rw [putL_get (by omega)]; rw [← hv, List.getElem?_take, if_pos hlt, List.getElem?_drop] at hxi; exact hxi)
    have h1 := www_pc (hy.at hyi) hmw (hxo.at hxi)
    have h2 := badd_pc (x := (y * m + x) % WB) (y := addMulC (xs.take i) (ys.take i) m a) (c := 0) (by omega)
    obtain ⟨s1, s2⟩ := addMul_step (m := m) (c := a) hxi hyi
    have hlast := addMulC_lt (hxo.take (i + 1)) (hy.take (i + 1)) hmw ha
    rw [s2] at hlast
    obtain ⟨e1, e2⟩ := wwww (x := y * m + x) (c := addMulC (xs.take i) (ys.take i) m a)
    clear h
    (repeat (first | ((first | refine qA ?_ | refine qB ?_ | refine xN ?_ | refine xE ?_ | refine xT ?_); try show PW _ _ _ _ _ _) | refine ro1 tabOk rfl rfl ?_ | refine ro2 tabOk rfl rfl ?_ | refine ro3 tabOk rfl rfl ?_ | refine rd1 tabOk rfl rfl ?_ | refine rd2 tabOk rfl rfl ?_ | refine rd3 tabOk rfl rfl ?_ | (apply dR rfl rfl; focus (first | exact Cond_mload rfl rfl (AG rfl) rfl rfl hg rfl | exact Cond_mload rfl rfl (AG rfl) rfl rfl hz rfl)) | ((first | apply oR rfl rfl | (apply dF rfl rfl rfl; intro _) | (apply dP rfl rfl rfl; intro _) | (apply dL rfl rfl rfl; intro _) | apply dC rfl rfl rfl rfl); (focus (first | exact cqP h1 | exact cqP h2 | exact PO_vindex i rfl (EL rfl) (SZ rfl) rfl rfl rfl hlt | exact PO_store_mref rfl (SZ rfl) rfl rfl rfl rfl (by decide) rfl hz (Nat.le_refl _) | exact cJ | exact mG | exact bT | exact nD)); try exact kQ) | refine xS ?_ | refine xR ?_ | refine xK false false [10000, 10001] rfl mixed (by decide +kernel) ?_ | refine xK false true [10000, 10001] rfl mixed (by decide +kernel) ?_ | refine xK true false [10000, 10001] rfl mixed (by decide +kernel) ?_ | refine xK true true [10000, 10001] rfl mixed (by decide +kernel) ?_ | refine xB ?_ | refine xt rfl ?_ | refine xf rfl ?_))
    exact ⟨i + 1, hlt, by omega, SlotsOk.le ⟨.inl rfl, .inl rfl, .inl rfl, .inl rfl, .inl (congrArg PV.g (wG_wrap (by rw [s2, ← e2]; omega) (by rw [s2]; exact hlast))), .inl rfl, .inl (congrArg (fun k => PV.g (.int .i64 k)) (w64 (by unfold maxLen at hm; omega))), trivial⟩,
      HLe.of_eq (by
        rw [s1, ← e1, ← set_putL hti (by omega)]
        exact congrArg (fun l => (⟨[], [], [MO.arr g WT l, AR g1 ws1]⟩ : PH)) wsG_set)⟩
  · have hi' : i = n := by have := of_decide_eq_false h; omega
    subst hi'
    rw [List.take_of_length_le (Nat.le_of_eq hn), List.take_of_length_le (Nat.le_of_eq hxl)]
    (repeat (first | ((first | refine qA ?_ | refine qB ?_ | refine xN ?_ | refine xE ?_ | refine xT ?_); try show PW _ _ _ _ _ _) | refine ro1 tabOk rfl rfl ?_ | refine ro2 tabOk rfl rfl ?_ | refine ro3 tabOk rfl rfl ?_ | refine rd1 tabOk rfl rfl ?_ | refine rd2 tabOk rfl rfl ?_ | refine rd3 tabOk rfl rfl ?_ | ((first | apply oR rfl rfl | (apply dF rfl rfl rfl; intro _) | (apply dP rfl rfl rfl; intro _) | (apply dL rfl rfl rfl; intro _) | apply dC rfl rfl rfl rfl); (focus (first | exact cJ | exact mG | exact bT | exact nD)); try exact kQ) | refine xS ?_ | refine xR ?_ | refine qxa rfl rfl mixed ?_ | refine qxb rfl rfl mixed ?_ | refine qxi rfl rfl rfl rfl rfl mixed ?_ | refine qxc rfl rfl mixed ?_ | refine qxd rfl rfl mixed ?_ | refine xB ?_ | refine xt rfl ?_ | refine xf rfl ?_))
    (first | refine Ret_box wN rfl rfl rfl rfl rfl rfl rfl rfl rfl ?_ ?_ ?_ rfl | refine Ret_box (wC vT wN) rfl rfl rfl rfl rfl rfl rfl rfl rfl ?_ ?_ ?_ rfl | refine Ret_box (wC (vA (AG rfl) (SZ rfl) rfl rfl (lB rfl)) wN) rfl rfl rfl rfl rfl rfl rfl rfl rfl ?_ ?_ ?_ rfl | refine Ret_box (wC vT (wC vT wN)) rfl rfl rfl rfl rfl rfl rfl rfl rfl ?_ ?_ ?_ rfl | refine Ret_box (wC (vA (AG rfl) (SZ rfl) rfl rfl (lB rfl)) (wC vT wN)) rfl rfl rfl rfl rfl rfl rfl rfl rfl ?_ ?_ ?_ rfl)
    all_goals rfl
end Go.Proofs.YtdicineiaifahaaGreatDoor


namespace Go.Proofs.YtdicineiaifahaaGreatDoor
open Go Go.Pure
attribute [local irreducible] PW POps POpsD PO PC Cond

/-- norm: so many words as count. -/
theorem norm_pc {g o n cap : Nat} {ws l : List Nat} (hv : (ws.drop o).take n = l) (hfit : o + n ≤ ws.length) (hc : n ≤ cap) (hm : n ≤ maxLen) :
    PC Tryz.prog 77 [.vw 0 g o n cap] ⟨[], [], [AR g ws]⟩ (.vw 0 g o (nlen l) cap) ⟨[], [], [AR g ws]⟩ := by
  have hl : l.length = n := by rw [← hv]; simp; omega
  refine PC_of_PW Tryz.func77 rfl rfl (rs := _) rfl (Nat.le_of_ble_eq_true (by kernel_rfl)) ?_
  (repeat (first | ((first | refine qA ?_ | refine qB ?_ | refine xN ?_ | refine xE ?_ | refine xT ?_); try show PW _ _ _ _ _ _) | refine ro1 tabOk rfl rfl ?_ | refine ro2 tabOk rfl rfl ?_ | refine ro3 tabOk rfl rfl ?_ | refine rd1 tabOk rfl rfl ?_ | refine rd2 tabOk rfl rfl ?_ | refine rd3 tabOk rfl rfl ?_ | ((first | apply oR rfl rfl | (apply dF rfl rfl rfl; intro _) | (apply dP rfl rfl rfl; intro _) | (apply dL rfl rfl rfl; intro _) | apply dC rfl rfl rfl rfl); (focus (first | exact PO_vlen rfl (EL rfl) rfl | exact cJ | exact mG | exact bT | exact nD)); try exact kQ) | refine xS ?_ | refine xR ?_ | refine qxa rfl rfl mixed ?_ | refine qxb rfl rfl mixed ?_ | refine qxi rfl rfl rfl rfl rfl mixed ?_ | refine qxc rfl rfl mixed ?_ | refine qxd rfl rfl mixed ?_ | refine xB ?_ | refine xt rfl ?_ | refine xf rfl ?_))
  refine PW_loop (S := Nat) (fun i => slots [(0, .vw 0 g o n cap), (3, .g (.int .i64 i))]) (fun i => ⟨[], [], [AR g ws]⟩) (fun i => i ≤ n ∧ ∀ j, i ≤ j → ∀ x, l[j]? = some x → x = 0) (fun i => i) n ⟨Nat.le_refl _, fun j hj x hx => by rw [List.getElem?_eq_none (by omega)] at hx; cases hx⟩
    (SlotsOk.le ⟨.inl rfl, .inl rfl, trivial⟩) (HLe.of_eq rfl) (fun i hi => ?_)
  obtain ⟨hi, hz⟩ := hi
  cases i with
  | zero =>
    have hk : nlen l = 0 := nlen_none fun x hx => by
      obtain ⟨j, hj⟩ := List.getElem?_of_mem hx
      exact hz j (Nat.zero_le _) x hj
    (repeat (first | ((first | refine qA ?_ | refine qB ?_ | refine xN ?_ | refine xE ?_ | refine xT ?_); try show PW _ _ _ _ _ _) | refine ro1 tabOk rfl rfl ?_ | refine ro2 tabOk rfl rfl ?_ | refine ro3 tabOk rfl rfl ?_ | refine rd1 tabOk rfl rfl ?_ | refine rd2 tabOk rfl rfl ?_ | refine rd3 tabOk rfl rfl ?_ | ((first | apply oR rfl rfl | (apply dF rfl rfl rfl; intro _) | (apply dP rfl rfl rfl; intro _) | (apply dL rfl rfl rfl; intro _) | apply dC rfl rfl rfl rfl); (focus (first | exact vcut 0 rfl (EL rfl) (SZ rfl) rfl rfl rfl rfl rfl (Nat.zero_le _) | exact cJ | exact mG | exact bT | exact nD)); try exact kQ) | refine xS ?_ | refine xR ?_ | refine qxa rfl rfl mixed ?_ | refine qxb rfl rfl mixed ?_ | refine qxi rfl rfl rfl rfl rfl mixed ?_ | refine qxc rfl rfl mixed ?_ | refine qxd rfl rfl mixed ?_ | refine xB ?_ | refine xt rfl ?_ | refine xf rfl ?_))
    rw [hk]
    (first | refine Ret_box wN rfl rfl rfl rfl rfl rfl rfl rfl rfl ?_ ?_ ?_ rfl | refine Ret_box (wC vT wN) rfl rfl rfl rfl rfl rfl rfl rfl rfl ?_ ?_ ?_ rfl | refine Ret_box (wC (vA (AG rfl) (SZ rfl) rfl rfl (lB rfl)) wN) rfl rfl rfl rfl rfl rfl rfl rfl rfl ?_ ?_ ?_ rfl | refine Ret_box (wC vT (wC vT wN)) rfl rfl rfl rfl rfl rfl rfl rfl rfl ?_ ?_ ?_ rfl | refine Ret_box (wC (vA (AG rfl) (SZ rfl) rfl rfl (lB rfl)) (wC vT wN)) rfl rfl rfl rfl rfl rfl rfl rfl rfl ?_ ?_ ?_ rfl)
    all_goals rfl
  | succ i =>
    have hli : l[i]? = some (l[i]'(by omega)) := List.getElem?_eq_getElem (by omega)
    generalize l[i]'(by omega) = x at hli
    have hg : (wsG ws)[o + i]? = some (wG x) := wsG_get (by rw [← hv, List.getElem?_take, if_pos (by omega), List.getElem?_drop] at hli; exact hli)
    have hsub : IntKind.i64.wrap (((i + 1 : Nat) : Int) - 1) = (i : Int) := by rw [w64 (by unfold maxLen at hm; omega)]; omega
    have hpos : decide ((0 : Int) < ((i + 1 : Nat) : Int)) = true := decide_eq_true (by omega)
    (repeat (first | ((first | refine qA ?_ | refine qB ?_ | refine xN ?_ | refine xE ?_ | refine xT ?_); try show PW _ _ _ _ _ _) | refine ro1 tabOk rfl rfl ?_ | refine ro2 tabOk rfl rfl ?_ | refine ro3 tabOk rfl rfl ?_ | refine rd1 tabOk rfl rfl ?_ | refine rd2 tabOk rfl rfl ?_ | refine rd3 tabOk rfl rfl ?_ | ((first | apply oR rfl rfl | (apply dF rfl rfl rfl; intro _) | (apply dP rfl rfl rfl; intro _) | (apply dL rfl rfl rfl; intro _) | apply dC rfl rfl rfl rfl); (focus (first | exact cJ | exact mG | exact bT | exact nD)); try exact kQ) | refine xS ?_ | refine xR ?_ | refine qxa rfl rfl mixed ?_ | refine qxb rfl rfl mixed ?_ | refine qxi rfl rfl rfl rfl rfl mixed ?_ | refine qxc rfl rfl mixed ?_ | refine qxd rfl rfl mixed ?_ | refine xB ?_ | refine xt rfl ?_ | refine xf rfl ?_))
    (first | refine POps_split rfl rfl (fun h => ?_) (fun h => ?_) | refine POpsD_split rfl rfl (fun h => ?_) (fun h => ?_) | refine PW_cond rfl (fun h => ?_) (fun h => ?_))
    · clear h
      (repeat (first | ((first | refine qA ?_ | refine qB ?_ | refine xN ?_ | refine xE ?_ | refine xT ?_); try show PW _ _ _ _ _ _) | refine ro1 tabOk rfl rfl ?_ | refine ro2 tabOk rfl rfl ?_ | refine ro3 tabOk rfl rfl ?_ | refine rd1 tabOk rfl rfl ?_ | refine rd2 tabOk rfl rfl ?_ | refine rd3 tabOk rfl rfl ?_ | ((first | apply oR rfl rfl | (apply dF rfl rfl rfl; intro _) | (apply dP rfl rfl rfl; intro _) | (apply dL rfl rfl rfl; intro _) | apply dC rfl rfl rfl rfl); (focus (first | exact PO_as (PO_vindex i rfl (EL rfl) (SZ rfl) rfl rfl hsub (by omega)) rfl | exact PO_load_mref_one rfl (AG rfl) rfl rfl hg rfl | exact cJ | exact mG | exact bT | exact nD)); try exact kQ) | refine xS ?_ | refine xR ?_ | refine qxa rfl rfl mixed ?_ | refine qxb rfl rfl mixed ?_ | refine qxi rfl rfl rfl rfl rfl mixed ?_ | refine qxc rfl rfl mixed ?_ | refine qxd rfl rfl mixed ?_ | refine xB ?_ | refine xt rfl ?_ | refine xf rfl ?_))
      (first | refine POps_split rfl rfl (fun h => ?_) (fun h => ?_) | refine POpsD_split rfl rfl (fun h => ?_) (fun h => ?_) | refine PW_cond rfl (fun h => ?_) (fun h => ?_))
      · have hx0 : x = 0 := by have := of_decide_eq_true h; omega
        subst hx0
        clear h
        (repeat (first | ((first | refine qA ?_ | refine qB ?_ | refine xN ?_ | refine xE ?_ | refine xT ?_); try show PW _ _ _ _ _ _) | refine ro1 tabOk rfl rfl ?_ | refine ro2 tabOk rfl rfl ?_ | refine ro3 tabOk rfl rfl ?_ | refine rd1 tabOk rfl rfl ?_ | refine rd2 tabOk rfl rfl ?_ | refine rd3 tabOk rfl rfl ?_ | ((first | apply oR rfl rfl | (apply dF rfl rfl rfl; intro _) | (apply dP rfl rfl rfl; intro _) | (apply dL rfl rfl rfl; intro _) | apply dC rfl rfl rfl rfl); (focus (first | exact cJ | exact mG | exact bT | exact nD)); try exact kQ) | refine xS ?_ | refine xR ?_ | refine qxa rfl rfl mixed ?_ | refine qxb rfl rfl mixed ?_ | refine qxi rfl rfl rfl rfl rfl mixed ?_ | refine qxc rfl rfl mixed ?_ | refine qxd rfl rfl mixed ?_ | refine xB ?_ | refine xt rfl ?_ | refine xf rfl ?_))
        refine ⟨i, ⟨by omega, fun j hj x hx => ?_⟩, by omega, SlotsOk.le ⟨.inl rfl, .inl (congrArg (fun k => PV.g (.int .i64 k)) hsub), trivial⟩, HLe.of_eq rfl⟩
        by_cases hji : j = i
        · subst hji; rw [hli] at hx; exact (Option.some.inj hx).symm
        · exact hz j (by omega) x hx
      · have hx0 : x ≠ 0 := fun e => by subst e; simp at h
        have hk : nlen l = i + 1 := nlen_step hli (fun j hj y hy => hz j hj y hy) hx0
        clear h
        (repeat (first | ((first | refine qA ?_ | refine qB ?_ | refine xN ?_ | refine xE ?_ | refine xT ?_); try show PW _ _ _ _ _ _) | refine ro1 tabOk rfl rfl ?_ | refine ro2 tabOk rfl rfl ?_ | refine ro3 tabOk rfl rfl ?_ | refine rd1 tabOk rfl rfl ?_ | refine rd2 tabOk rfl rfl ?_ | refine rd3 tabOk rfl rfl ?_ | ((first | apply oR rfl rfl | (apply dF rfl rfl rfl; intro _) | (apply dP rfl rfl rfl; intro _) | (apply dL rfl rfl rfl; intro _) | apply dC rfl rfl rfl rfl); (focus (first | exact vcut (i + 1) rfl (EL rfl) (SZ rfl) rfl rfl rfl rfl rfl (Nat.le_trans hi hc) | exact cJ | exact mG | exact bT | exact nD)); try exact kQ) | refine xS ?_ | refine xR ?_ | refine qxa rfl rfl mixed ?_ | refine qxb rfl rfl mixed ?_ | refine qxi rfl rfl rfl rfl rfl mixed ?_ | refine qxc rfl rfl mixed ?_ | refine qxd rfl rfl mixed ?_ | refine xB ?_ | refine xt rfl ?_ | refine xf rfl ?_))
        rw [hk]
        (first | refine Ret_box wN rfl rfl rfl rfl rfl rfl rfl rfl rfl ?_ ?_ ?_ rfl | refine Ret_box (wC vT wN) rfl rfl rfl rfl rfl rfl rfl rfl rfl ?_ ?_ ?_ rfl | refine Ret_box (wC (vA (AG rfl) (SZ rfl) rfl rfl (lB rfl)) wN) rfl rfl rfl rfl rfl rfl rfl rfl rfl ?_ ?_ ?_ rfl | refine Ret_box (wC vT (wC vT wN)) rfl rfl rfl rfl rfl rfl rfl rfl rfl ?_ ?_ ?_ rfl | refine Ret_box (wC (vA (AG rfl) (SZ rfl) rfl rfl (lB rfl)) (wC vT wN)) rfl rfl rfl rfl rfl rfl rfl rfl rfl ?_ ?_ ?_ rfl)
        all_goals rfl
    · have := of_decide_eq_false h; omega

/-- The capacity of what is made for so many words. -/
def capN (n : Nat) : Nat := if n = 1 then 1 else n + 4
theorem capN_le (n : Nat) : n ≤ capN n := by unfold capN; split <;> omega

theorem vmakeW {o : Oper} {ρ : Operand → PV} {H : PH} {t : TypeId} {x y : Operand} {k1 k2 : IntKind} {l n : Nat} {z : Int} (ho : o.op = .makeSlice t x y) (hx1 : ρ x = .g (.int k1 l)) (hy1 : ρ y = .g (.int k2 z)) (hz : z = n) (he : Tryz.prog.underlying t = some (.slice WT)) (hl : l ≤ n) (hn : n ≤ 2000000) :
    PO Tryz.prog o ρ H (.vw H.mu.length 0 0 l n) ⟨H.bx, H.tk, H.mu ++ [AR 0 (List.replicate n 0)]⟩ := by
  subst hz
  have hr : wsG (List.replicate n 0) = List.replicate n (constG (.int .u64 0)) := by unfold wsG; rw [List.map_replicate]; rfl
  rw [AR, hr]
  exact PO_vmake ho hx1 hy1 he (SZ rfl) (ZR rfl) rfl (BY rfl) hl (by omega) (by omega)
theorem make_nil {n : Nat} (h1 : 1 ≤ n) (hm : n ≤ 1000000) : PC Tryz.prog 75 [.nils, .g (.int .i64 n)] ⟨[], [], []⟩ (.vw 0 0 0 n (capN n)) ⟨[], [], [AR 0 (List.replicate (capN n) 0)]⟩ := by
  refine PC_of_PW Tryz.func75 rfl rfl (rs := _) rfl (Nat.le_of_ble_eq_true (by kernel_rfl)) ?_
  (repeat (first | ((first | refine qA ?_ | refine qB ?_ | refine xN ?_ | refine xE ?_ | refine xT ?_); try show PW _ _ _ _ _ _) | refine ro1 tabOk rfl rfl ?_ | refine ro2 tabOk rfl rfl ?_ | refine ro3 tabOk rfl rfl ?_ | refine rd1 tabOk rfl rfl ?_ | refine rd2 tabOk rfl rfl ?_ | refine rd3 tabOk rfl rfl ?_ | ((first | apply oR rfl rfl | (apply dF rfl rfl rfl; intro _) | (apply dP rfl rfl rfl; intro _) | (apply dL rfl rfl rfl; intro _) | apply dC rfl rfl rfl rfl); (focus (first | exact PO_ncap rfl (EL rfl) rfl | exact cJ | exact mG | exact bT | exact nD)); try exact kQ) | refine xS ?_ | refine xR ?_ | refine qxa rfl rfl mixed ?_ | refine qxb rfl rfl mixed ?_ | refine qxi rfl rfl rfl rfl rfl mixed ?_ | refine qxc rfl rfl mixed ?_ | refine qxd rfl rfl mixed ?_ | refine xB ?_ | refine xt rfl ?_ | refine xf rfl ?_))
  (first | refine POps_split rfl rfl (fun h => ?_) (fun h => ?_) | refine POpsD_split rfl rfl (fun h => ?_) (fun h => ?_) | refine PW_cond rfl (fun h => ?_) (fun h => ?_))
  · exfalso; have := of_decide_eq_true h; omega
  clear h
  (repeat (first | ((first | refine qA ?_ | refine qB ?_ | refine xN ?_ | refine xE ?_ | refine xT ?_); try show PW _ _ _ _ _ _) | refine ro1 tabOk rfl rfl ?_ | refine ro2 tabOk rfl rfl ?_ | refine ro3 tabOk rfl rfl ?_ | refine rd1 tabOk rfl rfl ?_ | refine rd2 tabOk rfl rfl ?_ | refine rd3 tabOk rfl rfl ?_ | ((first | apply oR rfl rfl | (apply dF rfl rfl rfl; intro _) | (apply dP rfl rfl rfl; intro _) | (apply dL rfl rfl rfl; intro _) | apply dC rfl rfl rfl rfl); (focus (first | exact cJ | exact mG | exact bT | exact nD)); try exact kQ) | refine xS ?_ | refine xR ?_ | refine qxa rfl rfl mixed ?_ | refine qxb rfl rfl mixed ?_ | refine qxi rfl rfl rfl rfl rfl mixed ?_ | refine qxc rfl rfl mixed ?_ | refine qxd rfl rfl mixed ?_ | refine xB ?_ | refine xt rfl ?_ | refine xf rfl ?_))
  (first | refine POps_split rfl rfl (fun h => ?_) (fun h => ?_) | refine POpsD_split rfl rfl (fun h => ?_) (fun h => ?_) | refine PW_cond rfl (fun h => ?_) (fun h => ?_))
  · have hn : n = 1 := by have := of_decide_eq_true h; omega
    subst hn
    rw [show capN 1 = 1 from rfl]
    (repeat (first | ((first | refine qA ?_ | refine qB ?_ | refine xN ?_ | refine xE ?_ | refine xT ?_); try show PW _ _ _ _ _ _) | refine ro1 tabOk rfl rfl ?_ | refine ro2 tabOk rfl rfl ?_ | refine ro3 tabOk rfl rfl ?_ | refine rd1 tabOk rfl rfl ?_ | refine rd2 tabOk rfl rfl ?_ | refine rd3 tabOk rfl rfl ?_ | ((first | apply oR rfl rfl | (apply dF rfl rfl rfl; intro _) | (apply dP rfl rfl rfl; intro _) | (apply dL rfl rfl rfl; intro _) | apply dC rfl rfl rfl rfl); (focus (first | exact vmakeW (l := 1) (n := 1) rfl rfl rfl rfl (EL rfl) (Nat.le_refl _) (by decide) | exact cJ | exact mG | exact bT | exact nD)); try exact kQ) | refine xS ?_ | refine xR ?_ | refine qxa rfl rfl mixed ?_ | refine qxb rfl rfl mixed ?_ | refine qxi rfl rfl rfl rfl rfl mixed ?_ | refine qxc rfl rfl mixed ?_ | refine qxd rfl rfl mixed ?_ | refine xB ?_ | refine xt rfl ?_ | refine xf rfl ?_))
    (first | refine Ret_box wN rfl rfl rfl rfl rfl rfl rfl rfl rfl ?_ ?_ ?_ rfl | refine Ret_box (wC vT wN) rfl rfl rfl rfl rfl rfl rfl rfl rfl ?_ ?_ ?_ rfl | refine Ret_box (wC (vA (AG rfl) (SZ rfl) rfl rfl (lB rfl)) wN) rfl rfl rfl rfl rfl rfl rfl rfl rfl ?_ ?_ ?_ rfl | refine Ret_box (wC vT (wC vT wN)) rfl rfl rfl rfl rfl rfl rfl rfl rfl ?_ ?_ ?_ rfl | refine Ret_box (wC (vA (AG rfl) (SZ rfl) rfl rfl (lB rfl)) (wC vT wN)) rfl rfl rfl rfl rfl rfl rfl rfl rfl ?_ ?_ ?_ rfl)
    all_goals rfl
  · have hn : n ≠ 1 := by have := of_decide_eq_false h; omega
    have hadd : IntKind.i64.wrap ((n : Int) + 4) = ((n + 4 : Nat) : Int) := by rw [w64 (by omega)]; omega
    have hc : capN n = n + 4 := by unfold capN; rw [if_neg hn]
    rw [hc]
    clear h
    (repeat (first | ((first | refine qA ?_ | refine qB ?_ | refine xN ?_ | refine xE ?_ | refine xT ?_); try show PW _ _ _ _ _ _) | refine ro1 tabOk rfl rfl ?_ | refine ro2 tabOk rfl rfl ?_ | refine ro3 tabOk rfl rfl ?_ | refine rd1 tabOk rfl rfl ?_ | refine rd2 tabOk rfl rfl ?_ | refine rd3 tabOk rfl rfl ?_ | ((first | apply oR rfl rfl | (apply dF rfl rfl rfl; intro _) | (apply dP rfl rfl rfl; intro _) | (apply dL rfl rfl rfl; intro _) | apply dC rfl rfl rfl rfl); (focus (first | exact vmakeW (l := n) (n := n + 4) rfl rfl rfl hadd (EL rfl) (by omega) (by omega) | exact cJ | exact mG | exact bT | exact nD)); try exact kQ) | refine xS ?_ | refine xR ?_ | refine qxa rfl rfl mixed ?_ | refine qxb rfl rfl mixed ?_ | refine qxi rfl rfl rfl rfl rfl mixed ?_ | refine qxc rfl rfl mixed ?_ | refine qxd rfl rfl mixed ?_ | refine xB ?_ | refine xt rfl ?_ | refine xf rfl ?_))
    (first | refine Ret_box wN rfl rfl rfl rfl rfl rfl rfl rfl rfl ?_ ?_ ?_ rfl | refine Ret_box (wC vT wN) rfl rfl rfl rfl rfl rfl rfl rfl rfl ?_ ?_ ?_ rfl | refine Ret_box (wC (vA (AG rfl) (SZ rfl) rfl rfl (lB rfl)) wN) rfl rfl rfl rfl rfl rfl rfl rfl rfl ?_ ?_ ?_ rfl | refine Ret_box (wC vT (wC vT wN)) rfl rfl rfl rfl rfl rfl rfl rfl rfl ?_ ?_ ?_ rfl | refine Ret_box (wC (vA (AG rfl) (SZ rfl) rfl rfl (lB rfl)) (wC vT wN)) rfl rfl rfl rfl rfl rfl rfl rfl rfl ?_ ?_ ?_ rfl)
    all_goals rfl
/-- Room enough: the same array. -/
theorem make_in {n g o len cap : Nat} {m : MO} (hnc : n ≤ cap) : PC Tryz.prog 75 [.vw 0 g o len cap, .g (.int .i64 n)] ⟨[], [], [m]⟩ (.vw 0 g o n cap) ⟨[], [], [m]⟩ := by
  refine PC_of_PW Tryz.func75 rfl rfl (rs := _) rfl (Nat.le_of_ble_eq_true (by kernel_rfl)) ?_
  (repeat (first | ((first | refine qA ?_ | refine qB ?_ | refine xN ?_ | refine xE ?_ | refine xT ?_); try show PW _ _ _ _ _ _) | refine ro1 tabOk rfl rfl ?_ | refine ro2 tabOk rfl rfl ?_ | refine ro3 tabOk rfl rfl ?_ | refine rd1 tabOk rfl rfl ?_ | refine rd2 tabOk rfl rfl ?_ | refine rd3 tabOk rfl rfl ?_ | ((first | apply oR rfl rfl | (apply dF rfl rfl rfl; intro _) | (apply dP rfl rfl rfl; intro _) | (apply dL rfl rfl rfl; intro _) | apply dC rfl rfl rfl rfl); (focus (first | exact PO_vcap rfl (EL rfl) rfl | exact cJ | exact mG | exact bT | exact nD)); try exact kQ) | refine xS ?_ | refine xR ?_ | refine qxa rfl rfl mixed ?_ | refine qxb rfl rfl mixed ?_ | refine qxi rfl rfl rfl rfl rfl mixed ?_ | refine qxc rfl rfl mixed ?_ | refine qxd rfl rfl mixed ?_ | refine xB ?_ | refine xt rfl ?_ | refine xf rfl ?_))
  (first | refine POps_split rfl rfl (fun h => ?_) (fun h => ?_) | refine POpsD_split rfl rfl (fun h => ?_) (fun h => ?_) | refine PW_cond rfl (fun h => ?_) (fun h => ?_))
  · (repeat (first | ((first | refine qA ?_ | refine qB ?_ | refine xN ?_ | refine xE ?_ | refine xT ?_); try show PW _ _ _ _ _ _) | refine ro1 tabOk rfl rfl ?_ | refine ro2 tabOk rfl rfl ?_ | refine ro3 tabOk rfl rfl ?_ | refine rd1 tabOk rfl rfl ?_ | refine rd2 tabOk rfl rfl ?_ | refine rd3 tabOk rfl rfl ?_ | ((first | apply oR rfl rfl | (apply dF rfl rfl rfl; intro _) | (apply dP rfl rfl rfl; intro _) | (apply dL rfl rfl rfl; intro _) | apply dC rfl rfl rfl rfl); (focus (first | exact vcut n rfl (EL rfl) (SZ rfl) rfl rfl rfl rfl rfl hnc | exact cJ | exact mG | exact bT | exact nD)); try exact kQ) | refine xS ?_ | refine xR ?_ | refine qxa rfl rfl mixed ?_ | refine qxb rfl rfl mixed ?_ | refine qxi rfl rfl rfl rfl rfl mixed ?_ | refine qxc rfl rfl mixed ?_ | refine qxd rfl rfl mixed ?_ | refine xB ?_ | refine xt rfl ?_ | refine xf rfl ?_))
    (first | refine Ret_box wN rfl rfl rfl rfl rfl rfl rfl rfl rfl ?_ ?_ ?_ rfl | refine Ret_box (wC vT wN) rfl rfl rfl rfl rfl rfl rfl rfl rfl ?_ ?_ ?_ rfl | refine Ret_box (wC (vA (AG rfl) (SZ rfl) rfl rfl (lB rfl)) wN) rfl rfl rfl rfl rfl rfl rfl rfl rfl ?_ ?_ ?_ rfl | refine Ret_box (wC vT (wC vT wN)) rfl rfl rfl rfl rfl rfl rfl rfl rfl ?_ ?_ ?_ rfl | refine Ret_box (wC (vA (AG rfl) (SZ rfl) rfl rfl (lB rfl)) (wC vT wN)) rfl rfl rfl rfl rfl rfl rfl rfl rfl ?_ ?_ ?_ rfl)
    all_goals rfl
  · exfalso; have := of_decide_eq_false h; omega
/-- Too little: another one. -/
theorem make_out {n g o len cap : Nat} {m : MO} (h2 : 2 ≤ n) (hlt : cap < n) (hm : n ≤ 1000000) : PC Tryz.prog 75 [.vw 0 g o len cap, .g (.int .i64 n)] ⟨[], [], [m]⟩ (.vw 1 0 0 n (n + 4)) ⟨[], [], [m, AR 0 (List.replicate (n + 4) 0)]⟩ := by
  have hadd : IntKind.i64.wrap ((n : Int) + 4) = ((n + 4 : Nat) : Int) := by rw [w64 (by omega)]; omega
  refine PC_of_PW Tryz.func75 rfl rfl (rs := _) rfl (Nat.le_of_ble_eq_true (by kernel_rfl)) ?_
  (repeat (first | ((first | refine qA ?_ | refine qB ?_ | refine xN ?_ | refine xE ?_ | refine xT ?_); try show PW _ _ _ _ _ _) | refine ro1 tabOk rfl rfl ?_ | refine ro2 tabOk rfl rfl ?_ | refine ro3 tabOk rfl rfl ?_ | refine rd1 tabOk rfl rfl ?_ | refine rd2 tabOk rfl rfl ?_ | refine rd3 tabOk rfl rfl ?_ | ((first | apply oR rfl rfl | (apply dF rfl rfl rfl; intro _) | (apply dP rfl rfl rfl; intro _) | (apply dL rfl rfl rfl; intro _) | apply dC rfl rfl rfl rfl); (focus (first | exact PO_vcap rfl (EL rfl) rfl | exact cJ | exact mG | exact bT | exact nD)); try exact kQ) | refine xS ?_ | refine xR ?_ | refine qxa rfl rfl mixed ?_ | refine qxb rfl rfl mixed ?_ | refine qxi rfl rfl rfl rfl rfl mixed ?_ | refine qxc rfl rfl mixed ?_ | refine qxd rfl rfl mixed ?_ | refine xB ?_ | refine xt rfl ?_ | refine xf rfl ?_))
  (first | refine POps_split rfl rfl (fun h => ?_) (fun h => ?_) | refine POpsD_split rfl rfl (fun h => ?_) (fun h => ?_) | refine PW_cond rfl (fun h => ?_) (fun h => ?_))
  · exfalso; have := of_decide_eq_true h; omega
  clear h
  (repeat (first | ((first | refine qA ?_ | refine qB ?_ | refine xN ?_ | refine xE ?_ | refine xT ?_); try show PW _ _ _ _ _ _) | refine ro1 tabOk rfl rfl ?_ | refine ro2 tabOk rfl rfl ?_ | refine ro3 tabOk rfl rfl ?_ | refine rd1 tabOk rfl rfl ?_ | refine rd2 tabOk rfl rfl ?_ | refine rd3 tabOk rfl rfl ?_ | ((first | apply oR rfl rfl | (apply dF rfl rfl rfl; intro _) | (apply dP rfl rfl rfl; intro _) | (apply dL rfl rfl rfl; intro _) | apply dC rfl rfl rfl rfl); (focus (first | exact cJ | exact mG | exact bT | exact nD)); try exact kQ) | refine xS ?_ | refine xR ?_ | refine qxa rfl rfl mixed ?_ | refine qxb rfl rfl mixed ?_ | refine qxi rfl rfl rfl rfl rfl mixed ?_ | refine qxc rfl rfl mixed ?_ | refine qxd rfl rfl mixed ?_ | refine xB ?_ | refine xt rfl ?_ | refine xf rfl ?_))
  (first | refine POps_split rfl rfl (fun h => ?_) (fun h => ?_) | refine POpsD_split rfl rfl (fun h => ?_) (fun h => ?_) | refine PW_cond rfl (fun h => ?_) (fun h => ?_))
  · exfalso; have := of_decide_eq_true h; omega
  clear h
  (repeat (first | ((first | refine qA ?_ | refine qB ?_ | refine xN ?_ | refine xE ?_ | refine xT ?_); try show PW _ _ _ _ _ _) | refine ro1 tabOk rfl rfl ?_ | refine ro2 tabOk rfl rfl ?_ | refine ro3 tabOk rfl rfl ?_ | refine rd1 tabOk rfl rfl ?_ | refine rd2 tabOk rfl rfl ?_ | refine rd3 tabOk rfl rfl ?_ | ((first | apply oR rfl rfl | (apply dF rfl rfl rfl; intro _) | (apply dP rfl rfl rfl; intro _) | (apply dL rfl rfl rfl; intro _) | apply dC rfl rfl rfl rfl); (focus (first | exact vmakeW (l := n) (n := n + 4) rfl rfl rfl hadd (EL rfl) (by omega) (by omega) | exact cJ | exact mG | exact bT | exact nD)); try exact kQ) | refine xS ?_ | refine xR ?_ | refine qxa rfl rfl mixed ?_ | refine qxb rfl rfl mixed ?_ | refine qxi rfl rfl rfl rfl rfl mixed ?_ | refine qxc rfl rfl mixed ?_ | refine qxd rfl rfl mixed ?_ | refine xB ?_ | refine xt rfl ?_ | refine xf rfl ?_))
  (first | refine Ret_box wN rfl rfl rfl rfl rfl rfl rfl rfl rfl ?_ ?_ ?_ rfl | refine Ret_box (wC vT wN) rfl rfl rfl rfl rfl rfl rfl rfl rfl ?_ ?_ ?_ rfl | refine Ret_box (wC (vA (AG rfl) (SZ rfl) rfl rfl (lB rfl)) wN) rfl rfl rfl rfl rfl rfl rfl rfl rfl ?_ ?_ ?_ rfl | refine Ret_box (wC vT (wC vT wN)) rfl rfl rfl rfl rfl rfl rfl rfl rfl ?_ ?_ ?_ rfl | refine Ret_box (wC (vA (AG rfl) (SZ rfl) rfl rfl (lB rfl)) (wC vT wN)) rfl rfl rfl rfl rfl rfl rfl rfl rfl ?_ ?_ ?_ rfl)
  all_goals rfl

/-- One word. -/
theorem setWord_pc {x : Nat} (h0 : x ≠ 0) : PC Tryz.prog 111 [.nils, .g (wG x)] ⟨[], [], []⟩ (.vw 0 0 0 1 1) ⟨[], [], [AR 0 [x]]⟩ := by
  have hmk := make_nil (n := 1) (by omega) (by omega)
  rw [show capN 1 = 1 from rfl] at hmk
  refine PC_of_PW Tryz.func111 rfl rfl (rs := _) rfl (Nat.le_of_ble_eq_true (by kernel_rfl)) ?_
  (repeat (first | ((first | refine qA ?_ | refine qB ?_ | refine xN ?_ | refine xE ?_ | refine xT ?_); try show PW _ _ _ _ _ _) | refine ro1 tabOk rfl rfl ?_ | refine ro2 tabOk rfl rfl ?_ | refine ro3 tabOk rfl rfl ?_ | refine rd1 tabOk rfl rfl ?_ | refine rd2 tabOk rfl rfl ?_ | refine rd3 tabOk rfl rfl ?_ | ((first | apply oR rfl rfl | (apply dF rfl rfl rfl; intro _) | (apply dP rfl rfl rfl; intro _) | (apply dL rfl rfl rfl; intro _) | apply dC rfl rfl rfl rfl); (focus (first | exact cJ | exact mG | exact bT | exact nD)); try exact kQ) | refine xS ?_ | refine xR ?_ | refine qxa rfl rfl mixed ?_ | refine qxb rfl rfl mixed ?_ | refine qxi rfl rfl rfl rfl rfl mixed ?_ | refine qxc rfl rfl mixed ?_ | refine qxd rfl rfl mixed ?_ | refine xB ?_ | refine xt rfl ?_ | refine xf rfl ?_))
  (first | refine POps_split rfl rfl (fun h => ?_) (fun h => ?_) | refine POpsD_split rfl rfl (fun h => ?_) (fun h => ?_) | refine PW_cond rfl (fun h => ?_) (fun h => ?_))
  · exfalso; have := of_decide_eq_true h; omega
  clear h
  (repeat (first | ((first | refine qA ?_ | refine qB ?_ | refine xN ?_ | refine xE ?_ | refine xT ?_); try show PW _ _ _ _ _ _) | refine ro1 tabOk rfl rfl ?_ | refine ro2 tabOk rfl rfl ?_ | refine ro3 tabOk rfl rfl ?_ | refine rd1 tabOk rfl rfl ?_ | refine rd2 tabOk rfl rfl ?_ | refine rd3 tabOk rfl rfl ?_ | ((first | apply oR rfl rfl | (apply dF rfl rfl rfl; intro _) | (apply dP rfl rfl rfl; intro _) | (apply dL rfl rfl rfl; intro _) | apply dC rfl rfl rfl rfl); (focus (first | exact cd [true] rfl rfl (EN rfl) (hmk) rfl rfl rfl rfl rfl rfl rfl rfl rfl rfl rfl | exact PO_vindex 0 rfl (EL rfl) (SZ rfl) rfl rfl rfl (by decide) | exact PO_store_mref rfl (SZ rfl) rfl rfl rfl rfl (by decide) rfl rfl (Nat.le_refl _) | exact cJ | exact mG | exact bT | exact nD)); try exact kQ) | refine xS ?_ | refine xR ?_ | refine qxa rfl rfl mixed ?_ | refine qxb rfl rfl mixed ?_ | refine qxi rfl rfl rfl rfl rfl mixed ?_ | refine qxc rfl rfl mixed ?_ | refine qxd rfl rfl mixed ?_ | refine xB ?_ | refine xt rfl ?_ | refine xf rfl ?_))
  (first | refine Ret_box wN rfl rfl rfl rfl rfl rfl rfl rfl rfl ?_ ?_ ?_ rfl | refine Ret_box (wC vT wN) rfl rfl rfl rfl rfl rfl rfl rfl rfl ?_ ?_ ?_ rfl | refine Ret_box (wC (vA (AG rfl) (SZ rfl) rfl rfl (lB rfl)) wN) rfl rfl rfl rfl rfl rfl rfl rfl rfl ?_ ?_ ?_ rfl | refine Ret_box (wC vT (wC vT wN)) rfl rfl rfl rfl rfl rfl rfl rfl rfl ?_ ?_ ?_ rfl | refine Ret_box (wC (vA (AG rfl) (SZ rfl) rfl rfl (lB rfl)) (wC vT wN)) rfl rfl rfl rfl rfl rfl rfl rfl rfl ?_ ?_ ?_ rfl)
  all_goals rfl

/-- Copied anew. -/
theorem set_pc {xs : List Nat} (h1 : 1 ≤ xs.length) (hm : xs.length ≤ 1000000) : PC Tryz.prog 122 [.nils, .g (.sl (wsG xs))] ⟨[], [], []⟩ (.vw 0 0 0 xs.length (capN xs.length)) ⟨[], [], [AR 0 (xs ++ List.replicate (capN xs.length - xs.length) 0)]⟩ := by
  rw [← wsG_length xs] at h1 hm ⊢
  have hmk := make_nil h1 hm
  have hcap := capN_le (wsG xs).length
  have hcap' : xs.length ≤ capN xs.length := capN_le _
  have hput : putAt (wsG (List.replicate (capN (wsG xs).length) 0)) 0 ((wsG xs).take (wsG xs).length) = wsG (xs ++ List.replicate (capN (wsG xs).length - (wsG xs).length) 0) := by
    rw [List.take_of_length_le (Nat.le_refl _)]
    unfold putAt wsG
    simp
  refine PC_of_PW Tryz.func122 rfl rfl (rs := _) rfl (Nat.le_of_ble_eq_true (by kernel_rfl)) ?_
  (repeat (first | ((first | refine qA ?_ | refine qB ?_ | refine xN ?_ | refine xE ?_ | refine xT ?_); try show PW _ _ _ _ _ _) | refine ro1 tabOk rfl rfl ?_ | refine ro2 tabOk rfl rfl ?_ | refine ro3 tabOk rfl rfl ?_ | refine rd1 tabOk rfl rfl ?_ | refine rd2 tabOk rfl rfl ?_ | refine rd3 tabOk rfl rfl ?_ | ((first | apply oR rfl rfl | (apply dF rfl rfl rfl; intro _) | (apply dP rfl rfl rfl; intro _) | (apply dL rfl rfl rfl; intro _) | apply dC rfl rfl rfl rfl); (focus (first | exact cd [true] rfl rfl (EN rfl) (hmk) rfl rfl rfl rfl rfl rfl rfl rfl rfl rfl rfl | exact PO_asH (PO_vcopy (ys := wsG xs) rfl (EL rfl) (SZ rfl) (SZ rfl) rfl rfl rfl (fun _ _ _ _ _ e => by cases e) wsG_cells (by simp [wsG_length]; exact hcap')) (congrArg (fun l => (⟨[], [], [MO.arr 0 WT l]⟩ : PH)) hput) | exact cJ | exact mG | exact bT | exact nD)); try exact kQ) | refine xS ?_ | refine xR ?_ | refine qxa rfl rfl mixed ?_ | refine qxb rfl rfl mixed ?_ | refine qxi rfl rfl rfl rfl rfl mixed ?_ | refine qxc rfl rfl mixed ?_ | refine qxd rfl rfl mixed ?_ | refine xB ?_ | refine xt rfl ?_ | refine xf rfl ?_))
  (first | refine Ret_box wN rfl rfl rfl rfl rfl rfl rfl rfl rfl ?_ ?_ ?_ rfl | refine Ret_box (wC vT wN) rfl rfl rfl rfl rfl rfl rfl rfl rfl ?_ ?_ ?_ rfl | refine Ret_box (wC (vA (AG rfl) (SZ rfl) rfl rfl (lB rfl)) wN) rfl rfl rfl rfl rfl rfl rfl rfl rfl ?_ ?_ ?_ rfl | refine Ret_box (wC vT (wC vT wN)) rfl rfl rfl rfl rfl rfl rfl rfl rfl ?_ ?_ ?_ rfl | refine Ret_box (wC (vA (AG rfl) (SZ rfl) rfl rfl (lB rfl)) (wC vT wN)) rfl rfl rfl rfl rfl rfl rfl rfl rfl ?_ ?_ ?_ rfl)
  all_goals rfl
/-- What is nil is nobody's. -/
theorem alias_nil {p : PV} : PC Tryz.prog 78 [.nils, p] ⟨[], [], []⟩ (.g (.bool false)) ⟨[], [], []⟩ := by
  refine PC_of_PW Tryz.func78 rfl rfl (rs := _) rfl (Nat.le_of_ble_eq_true (by kernel_rfl)) ?_
  (repeat (first | ((first | refine qA ?_ | refine qB ?_ | refine xN ?_ | refine xE ?_ | refine xT ?_); try show PW _ _ _ _ _ _) | refine ro1 tabOk rfl rfl ?_ | refine ro2 tabOk rfl rfl ?_ | refine ro3 tabOk rfl rfl ?_ | refine rd1 tabOk rfl rfl ?_ | refine rd2 tabOk rfl rfl ?_ | refine rd3 tabOk rfl rfl ?_ | ((first | apply oR rfl rfl | (apply dF rfl rfl rfl; intro _) | (apply dP rfl rfl rfl; intro _) | (apply dL rfl rfl rfl; intro _) | apply dC rfl rfl rfl rfl); (focus (first | exact PO_ncap rfl (EL rfl) rfl | exact cJ | exact mG | exact bT | exact nD)); try exact kQ) | refine xS ?_ | refine xR ?_ | refine qxa rfl rfl mixed ?_ | refine qxb rfl rfl mixed ?_ | refine qxi rfl rfl rfl rfl rfl mixed ?_ | refine qxc rfl rfl mixed ?_ | refine qxd rfl rfl mixed ?_ | refine xB ?_ | refine xt rfl ?_ | refine xf rfl ?_))
  (first | refine Ret_int (vC vT vN) rfl ?_ | refine Ret_bool (vC vT vN) rfl ?_ | refine Ret_g (vC vT vN) rfl ?_ | refine Ret_int (vC (vA (AG rfl) (SZ rfl) rfl rfl (lB rfl)) vN) rfl ?_ | refine Ret_bool (vC (vA (AG rfl) (SZ rfl) rfl rfl (lB rfl)) vN) rfl ?_ | refine Ret_g (vC (vA (AG rfl) (SZ rfl) rfl rfl (lB rfl)) vN) rfl ?_)
  rfl
theorem alias_nilv {m : MO} {g o n c : Nat} : PC Tryz.prog 78 [.nils, .vw 0 g o n c] ⟨[], [], [m]⟩ (.g (.bool false)) ⟨[], [], [m]⟩ := by
  refine PC_of_PW Tryz.func78 rfl rfl (rs := _) rfl (Nat.le_of_ble_eq_true (by kernel_rfl)) ?_
  (repeat (first | ((first | refine qA ?_ | refine qB ?_ | refine xN ?_ | refine xE ?_ | refine xT ?_); try show PW _ _ _ _ _ _) | refine ro1 tabOk rfl rfl ?_ | refine ro2 tabOk rfl rfl ?_ | refine ro3 tabOk rfl rfl ?_ | refine rd1 tabOk rfl rfl ?_ | refine rd2 tabOk rfl rfl ?_ | refine rd3 tabOk rfl rfl ?_ | ((first | apply oR rfl rfl | (apply dF rfl rfl rfl; intro _) | (apply dP rfl rfl rfl; intro _) | (apply dL rfl rfl rfl; intro _) | apply dC rfl rfl rfl rfl); (focus (first | exact PO_ncap rfl (EL rfl) rfl | exact cJ | exact mG | exact bT | exact nD)); try exact kQ) | refine xS ?_ | refine xR ?_ | refine qxa rfl rfl mixed ?_ | refine qxb rfl rfl mixed ?_ | refine qxi rfl rfl rfl rfl rfl mixed ?_ | refine qxc rfl rfl mixed ?_ | refine qxd rfl rfl mixed ?_ | refine xB ?_ | refine xt rfl ?_ | refine xf rfl ?_))
  (first | refine Ret_box wN rfl rfl rfl rfl rfl rfl rfl rfl rfl ?_ ?_ ?_ rfl | refine Ret_box (wC vT wN) rfl rfl rfl rfl rfl rfl rfl rfl rfl ?_ ?_ ?_ rfl | refine Ret_box (wC (vA (AG rfl) (SZ rfl) rfl rfl (lB rfl)) wN) rfl rfl rfl rfl rfl rfl rfl rfl rfl ?_ ?_ ?_ rfl | refine Ret_box (wC vT (wC vT wN)) rfl rfl rfl rfl rfl rfl rfl rfl rfl ?_ ?_ ?_ rfl | refine Ret_box (wC (vA (AG rfl) (SZ rfl) rfl rfl (lB rfl)) (wC vT wN)) rfl rfl rfl rfl rfl rfl rfl rfl rfl ?_ ?_ ?_ rfl)
  all_goals rfl
theorem alias_two {g1 n1 c1 g2 n2 c2 : Nat} {ws1 ws2 : List Nat} (h1 : 1 ≤ c1) (h2 : 1 ≤ c2) (hl1 : c1 ≤ ws1.length) (hl2 : c2 ≤ ws2.length) (hm1 : c1 ≤ 1000000) (hm2 : c2 ≤ 1000000) : PC Tryz.prog 78 [.vw 0 g1 0 n1 c1, .vw 1 g2 0 n2 c2] ⟨[], [], [AR g1 ws1, AR g2 ws2]⟩ (.g (.bool false)) ⟨[], [], [AR g1 ws1, AR g2 ws2]⟩ := by
  have s1 : IntKind.i64.wrap ((c1 : Int) - 1) = ((c1 - 1 : Nat) : Int) := by rw [w64 (by omega)]; omega
  have s2 : IntKind.i64.wrap ((c2 : Int) - 1) = ((c2 - 1 : Nat) : Int) := by rw [w64 (by omega)]; omega
  have e1 : 0 < (wsG ws1).length := by rw [wsG_length]; omega
  have e2 : 0 < (wsG ws2).length := by rw [wsG_length]; omega
  refine PC_of_PW Tryz.func78 rfl rfl (rs := _) rfl (Nat.le_of_ble_eq_true (by kernel_rfl)) ?_
  (repeat' (first | (first | ((first | refine qA ?_ | refine qB ?_ | refine xN ?_ | refine xE ?_ | refine xT ?_); try show PW _ _ _ _ _ _) | refine ro1 tabOk rfl rfl ?_ | refine ro2 tabOk rfl rfl ?_ | refine ro3 tabOk rfl rfl ?_ | refine rd1 tabOk rfl rfl ?_ | refine rd2 tabOk rfl rfl ?_ | refine rd3 tabOk rfl rfl ?_ | (apply dR rfl rfl; focus (first | exact Cond_mcmp rfl rfl rfl Tryz.underlying130 (SZ rfl) (.inl rfl) rfl rfl rfl rfl (SZ rfl) (SZ rfl) e1 e2 | exact Cond_mcmp rfl rfl rfl Tryz.underlying130 (SZ rfl) (.inl rfl) rfl rfl rfl rfl (SZ rfl) (SZ rfl) e1 e2)) | ((first | apply oR rfl rfl | (apply dF rfl rfl rfl; intro _) | (apply dP rfl rfl rfl; intro _) | (apply dL rfl rfl rfl; intro _) | apply dC rfl rfl rfl rfl); (focus (first | exact PO_vcap rfl (EL rfl) rfl | exact vcut c1 rfl (EL rfl) (SZ rfl) rfl rfl rfl rfl rfl (Nat.le_refl _) | exact vcut c2 rfl (EL rfl) (SZ rfl) rfl rfl rfl rfl rfl (Nat.le_refl _) | exact PO_vindex (c1 - 1) rfl (EL rfl) (SZ rfl) rfl rfl s1 (by omega) | exact PO_vindex (c2 - 1) rfl (EL rfl) (SZ rfl) rfl rfl s2 (by omega) | exact cJ | exact mG | exact bT | exact nD)); try exact kQ) | refine xS ?_ | refine xR ?_ | refine xK false false [10000, 10001] rfl mixed (by decide +kernel) ?_ | refine xK false true [10000, 10001] rfl mixed (by decide +kernel) ?_ | refine xK true false [10000, 10001] rfl mixed (by decide +kernel) ?_ | refine xK true true [10000, 10001] rfl mixed (by decide +kernel) ?_ | refine xB ?_ | refine xt rfl ?_ | refine xf rfl ?_) | (refine POps_split rfl rfl (fun h => ?_) (fun h => ?_) <;> fail_if_success (first | (have : true = true := h) | (have : false = false := h))) | (refine POpsD_split rfl rfl (fun h => ?_) (fun h => ?_) <;> fail_if_success (first | (have : true = true := h) | (have : false = false := h))) | refine PW_cond rfl (fun h => ?_) (fun h => ?_)))
  all_goals (try (exfalso; have := of_decide_eq_false h; omega))
  all_goals (try ((first | refine Ret_box wN rfl rfl rfl rfl rfl rfl rfl rfl rfl ?_ ?_ ?_ rfl | refine Ret_box (wC vT wN) rfl rfl rfl rfl rfl rfl rfl rfl rfl ?_ ?_ ?_ rfl | refine Ret_box (wC (vA (AG rfl) (SZ rfl) rfl rfl (lB rfl)) wN) rfl rfl rfl rfl rfl rfl rfl rfl rfl ?_ ?_ ?_ rfl | refine Ret_box (wC vT (wC vT wN)) rfl rfl rfl rfl rfl rfl rfl rfl rfl ?_ ?_ ?_ rfl | refine Ret_box (wC (vA (AG rfl) (SZ rfl) rfl rfl (lB rfl)) (wC vT wN)) rfl rfl rfl rfl rfl rfl rfl rfl rfl ?_ ?_ ?_ rfl); all_goals rfl))
end Go.Proofs.YtdicineiaifahaaGreatDoor


namespace Go.Proofs.YtdicineiaifahaaGreatDoor
open Go Go.Pure
attribute [local irreducible] PW POps POpsD PO PC Cond

theorem tw_addMul (args : Array Value) (w : World) : (callFunc 101 args).run Tryz.prog w = .ok (.enter 47 args) w :=
  run_callFunc_twin (twin := Tryz.f47.name) Tryz.func101 (by kernel_rfl) (by kernel_rfl) (by kernel_rfl) (by kernel_rfl) Tryz.func47 (by kernel_rfl) (by kernel_rfl) (by kernel_rfl) args w
theorem tw_mulAdd (args : Array Value) (w : World) : (callFunc 112 args).run Tryz.prog w = .ok (.enter 46 args) w :=
  run_callFunc_twin (twin := Tryz.f46.name) Tryz.func112 (by kernel_rfl) (by kernel_rfl) (by kernel_rfl) (by kernel_rfl) Tryz.func46 (by kernel_rfl) (by kernel_rfl) (by kernel_rfl) args w

theorem putL_zero (ws zs : List Nat) : putL ws 0 zs = zs ++ ws.drop zs.length := by simp [putL]
theorem putL_in {ws zs us : List Nat} {i : Nat} (h : i + us.length ≤ zs.length) : putL (putL ws 0 zs) i us = putL ws 0 (putL zs i us) := by
  rw [putL_zero, putL_zero, putL_length h]
  unfold putL
  rw [List.take_append_of_le_length (by omega), List.drop_append_of_le_length h]
  simp
theorem part_in {ws zs : List Nat} {i n : Nat} (h : i + n ≤ zs.length) : ((putL ws 0 zs).drop i).take n = (zs.drop i).take n := by
  rw [putL_zero, List.drop_append_of_le_length (by omega), List.take_append_of_le_length (by simp; omega)]
theorem putL0_ok {ws zs : List Nat} (h1 : okW ws) (h2 : okW zs) : okW (putL ws 0 zs) := putL_ok 0 h1 h2

set_option maxRecDepth 100000 in
set_option maxHeartbeats 4000000 in
/-- basicMul: all lines. -/
theorem basicMul_pc {g cap : Nat} {ws xs ys : List Nat} (hws : okW ws) (hx : okW xs) (hy : okW ys) (hn : (wsG xs).length + (wsG ys).length ≤ ws.length) (hcap : (wsG xs).length + (wsG ys).length ≤ cap) (hm : (wsG xs).length + (wsG ys).length ≤ 100000) (hx1 : 1 ≤ (wsG xs).length) :
    PC Tryz.prog 79 [.vw 0 g 0 ((wsG xs).length + (wsG ys).length) cap, .g (.sl (wsG xs)), .g (.sl (wsG ys))] ⟨[], [], [AR g ws]⟩ (.tuple []) ⟨[], [], [AR g (putL ws 0 (padD ((wsG xs).length + (wsG ys).length) (val xs * val ys)))]⟩ := by
  have hnx : (wsG xs).length = xs.length := wsG_length xs
  have hny : (wsG ys).length = ys.length := wsG_length ys
  have hadd : IntKind.i64.wrap (((wsG xs).length : Int) + ((wsG ys).length : Int)) = (((wsG xs).length + (wsG ys).length : Nat) : Int) := by rw [w64 (by omega)]; omega
  have hclr : putAt (wsG ws) 0 (List.replicate ((wsG xs).length + (wsG ys).length) (constG (.int .u64 0))) = wsG (putL ws 0 (List.replicate ((wsG xs).length + (wsG ys).length) 0)) := by
    unfold putAt putL wsG
    simp [wG, constG]
  refine PC_of_PW Tryz.func79 rfl rfl (rs := _) rfl (Nat.le_of_ble_eq_true (by kernel_rfl)) ?_
  (repeat (first | ((first | refine qA ?_ | refine qB ?_ | refine xN ?_ | refine xE ?_ | refine xT ?_); try show PW _ _ _ _ _ _) | refine ro1 tabOk rfl rfl ?_ | refine ro2 tabOk rfl rfl ?_ | refine ro3 tabOk rfl rfl ?_ | refine rd1 tabOk rfl rfl ?_ | refine rd2 tabOk rfl rfl ?_ | refine rd3 tabOk rfl rfl ?_ | ((first | apply oR rfl rfl | (apply dF rfl rfl rfl; intro _) | (apply dP rfl rfl rfl; intro _) | (apply dL rfl rfl rfl; intro _) | apply dC rfl rfl rfl rfl); (focus (first | exact PO_vlen rfl (EL rfl) rfl | exact vcut ((wsG xs).length + (wsG ys).length) rfl (EL rfl) (SZ rfl) rfl rfl rfl rfl hadd hcap | exact PO_asH (PO_vclear rfl (EL rfl) (ZR rfl) rfl (SZ rfl) rfl rfl (by rw [wsG_length ws]; omega)) (congrArg (fun l => (⟨[], [], [MO.arr g WT l]⟩ : PH)) hclr) | exact cJ | exact mG | exact bT | exact nD)); try exact kQ) | refine xS ?_ | refine xR ?_ | refine qxa rfl rfl mixed ?_ | refine qxb rfl rfl mixed ?_ | refine qxi rfl rfl rfl rfl rfl mixed ?_ | refine qxc rfl rfl mixed ?_ | refine qxd rfl rfl mixed ?_ | refine xB ?_ | refine xt rfl ?_ | refine xf rfl ?_))
  refine PW_loop (S := Nat × List Nat) (fun s => slots [(0, .vw 0 g 0 ((wsG xs).length + (wsG ys).length) cap), (1, .g (.sl (wsG xs))), (15, .g (.sl (wsG ys))), (16, .g (.int .i64 ((wsG ys).length : Nat))), (17, .g (.int .i64 s.1))]) (fun s => ⟨[], [], [AR g (putL ws 0 s.2)]⟩) (fun s => s.1 ≤ (wsG ys).length ∧ MulInv xs ys s.2 s.1) (fun s => (wsG ys).length - s.1) (0, List.replicate ((wsG xs).length + (wsG ys).length) 0) ⟨Nat.zero_le _, by have h := MulInv.start xs ys; rw [show xs.length + ys.length = (wsG xs).length + (wsG ys).length by omega] at h; exact h⟩
    (SlotsOk.le ?_) (HLe.of_eq ?_) (fun s hs => ?_)
  · exact ⟨.inl rfl, .inl rfl, .inl rfl, .inl rfl, .inl rfl, trivial⟩
  · rfl
  obtain ⟨i, zs⟩ := s
  obtain ⟨hi, hI⟩ := hs
  simp only at hi hI
  have hzl := hI.len
  (repeat (first | ((first | refine qA ?_ | refine qB ?_ | refine xN ?_ | refine xE ?_ | refine xT ?_); try show PW _ _ _ _ _ _) | refine ro1 tabOk rfl rfl ?_ | refine ro2 tabOk rfl rfl ?_ | refine ro3 tabOk rfl rfl ?_ | refine rd1 tabOk rfl rfl ?_ | refine rd2 tabOk rfl rfl ?_ | refine rd3 tabOk rfl rfl ?_ | ((first | apply oR rfl rfl | (apply dF rfl rfl rfl; intro _) | (apply dP rfl rfl rfl; intro _) | (apply dL rfl rfl rfl; intro _) | apply dC rfl rfl rfl rfl); (focus (first | exact cJ | exact mG | exact bT | exact nD)); try exact kQ) | refine xS ?_ | refine xR ?_ | refine qxa rfl rfl mixed ?_ | refine qxb rfl rfl mixed ?_ | refine qxi rfl rfl rfl rfl rfl mixed ?_ | refine qxc rfl rfl mixed ?_ | refine qxd rfl rfl mixed ?_ | refine xB ?_ | refine xt rfl ?_ | refine xf rfl ?_))
  (first | refine POps_split rfl rfl (fun h => ?_) (fun h => ?_) | refine POpsD_split rfl rfl (fun h => ?_) (fun h => ?_) | refine PW_cond rfl (fun h => ?_) (fun h => ?_))
  · have hlt : i < (wsG ys).length := by have := of_decide_eq_true h; omega
    have hyi : ys[i]? = some (ys[i]'(by omega)) := List.getElem?_eq_getElem (by omega)
    generalize ys[i]'(by omega) = d at hyi
    have hg : (wsG ys)[(i : Int).toNat]? = some (wG d) := wsG_get hyi
    have hd : d < WB := hy.at hyi
    clear h
    (repeat (first | ((first | refine qA ?_ | refine qB ?_ | refine xN ?_ | refine xE ?_ | refine xT ?_); try show PW _ _ _ _ _ _) | refine ro1 tabOk rfl rfl ?_ | refine ro2 tabOk rfl rfl ?_ | refine ro3 tabOk rfl rfl ?_ | refine rd1 tabOk rfl rfl ?_ | refine rd2 tabOk rfl rfl ?_ | refine rd3 tabOk rfl rfl ?_ | ((first | apply oR rfl rfl | (apply dF rfl rfl rfl; intro _) | (apply dP rfl rfl rfl; intro _) | (apply dL rfl rfl rfl; intro _) | apply dC rfl rfl rfl rfl); (focus (first | exact iA rfl (EL rfl) (SZ rfl) rfl rfl (Int.natCast_nonneg _) hg rfl | exact cJ | exact mG | exact bT | exact nD)); try exact kQ) | refine xS ?_ | refine xR ?_ | refine qxa rfl rfl mixed ?_ | refine qxb rfl rfl mixed ?_ | refine qxi rfl rfl rfl rfl rfl mixed ?_ | refine qxc rfl rfl mixed ?_ | refine qxd rfl rfl mixed ?_ | refine xB ?_ | refine xt rfl ?_ | refine xf rfl ?_))
    (first | refine POps_split rfl rfl (fun h => ?_) (fun h => ?_) | refine POpsD_split rfl rfl (fun h => ?_) (fun h => ?_) | refine PW_cond rfl (fun h => ?_) (fun h => ?_))
    · have hd0 : d ≠ 0 := fun e => by subst e; simp at h
      have hstep := hI.step hx hyi hd
      have hpl : ((zs.drop i).take xs.length).length = xs.length := by simp; omega
      have hul : (addMulW ((zs.drop i).take xs.length) xs d 0).length = xs.length := by rw [addMulW_length hpl, hpl]
      have hcall := addMulV_pc (g := g) (o := i) (n := (wsG xs).length) (cap := cap - i) (cap' := cap - i) (ws := putL ws 0 zs) (xs := (zs.drop i).take xs.length) (ys := xs) (m := d) (a := 0) (putL0_ok hws hI.ok) (by rw [hnx]; exact part_in (by omega)) hx hnx.symm (by unfold maxLen; omega) hd (by decide) (by rw [putL_zero]; simp; omega)
      have hsum : IntKind.i64.wrap ((i : Int) + ((wsG xs).length : Int)) = ((i + (wsG xs).length : Nat) : Int) := by rw [w64 (by omega)]; omega
      have hsum2 : IntKind.i64.wrap (((wsG xs).length : Int) + (i : Int)) = (((wsG xs).length + i : Nat) : Int) := by rw [w64 (by omega)]; omega
      have hset : putL (putL ws 0 zs) i (addMulW ((zs.drop i).take xs.length) xs d 0 ++ [addMulC ((zs.drop i).take xs.length) xs d 0]) = putL ws 0 (rowW zs xs i d) := putL_in (by rw [List.length_append, hul]; simp; omega)
      have hz : (wsG (putL (putL ws 0 zs) i (addMulW ((zs.drop i).take xs.length) xs d 0)))[0 + ((wsG xs).length + i)]? = some (wG ((putL (putL ws 0 zs) i (addMulW ((zs.drop i).take xs.length) xs d 0))[(wsG xs).length + i]'(by rw [putL_length (by rw [hul, putL_zero]; simp; omega), putL_zero]; simp; omega))) := wsG_get (by rw [Nat.zero_add]; exact List.getElem?_eq_getElem _)
      generalize (putL (putL ws 0 zs) i (addMulW ((zs.drop i).take xs.length) xs d 0))[(wsG xs).length + i]'(by rw [putL_length (by rw [hul, putL_zero]; simp; omega), putL_zero]; simp; omega) = q at hz
      clear h
      (repeat (first | ((first | refine qA ?_ | refine qB ?_ | refine xN ?_ | refine xE ?_ | refine xT ?_); try show PW _ _ _ _ _ _) | refine ro1 tabOk rfl rfl ?_ | refine ro2 tabOk rfl rfl ?_ | refine ro3 tabOk rfl rfl ?_ | refine rd1 tabOk rfl rfl ?_ | refine rd2 tabOk rfl rfl ?_ | refine rd3 tabOk rfl rfl ?_ | (apply dR rfl rfl; focus (first | exact Cond_mstore rfl (SZ rfl) rfl rfl rfl rfl (by decide) rfl hz (Nat.le_refl _))) | ((first | apply oR rfl rfl | (apply dF rfl rfl rfl; intro _) | (apply dP rfl rfl rfl; intro _) | (apply dL rfl rfl rfl; intro _) | apply dC rfl rfl rfl rfl); (focus (first | exact PO_vlen rfl (EL rfl) rfl | exact PO_as (vmid i (i + (wsG xs).length) rfl (EL rfl) (SZ rfl) rfl rfl rfl rfl hsum (by omega) (by omega) (by omega)) (show _ = PV.vw 0 g i ((wsG xs).length) (cap - i) by rw [Nat.zero_add, Nat.add_sub_cancel_left]) | exact ct [] rfl rfl tw_addMul (hcall) rfl rfl rfl rfl rfl rfl rfl rfl rfl rfl rfl | exact PO_vindex ((wsG xs).length + i) rfl (EL rfl) (SZ rfl) rfl rfl hsum2 (by omega) | exact cJ | exact mG | exact bT | exact nD)); try exact kQ) | refine xS ?_ | refine xR ?_ | refine qxa rfl rfl mixed ?_ | refine qxb rfl rfl mixed ?_ | refine qxi rfl rfl rfl rfl rfl mixed ?_ | refine qxc rfl rfl mixed ?_ | refine qxd rfl rfl mixed ?_ | refine xB ?_ | refine xt rfl ?_ | refine xf rfl ?_))
      exact ⟨(i + 1, rowW zs xs i d), ⟨hlt, hstep⟩, by simp only; omega, SlotsOk.le ⟨.inl rfl, .inl rfl, .inl rfl, .inl rfl, .inl (congrArg (fun k => PV.g (.int .i64 k)) (w64 (by simp only; omega))), trivial⟩,
        HLe.of_eq (by
          rw [← hset, ← set_putL hul (by rw [putL_zero]; simp; omega), show i + xs.length = 0 + ((wsG xs).length + i) by omega]
          exact congrArg (fun l => (⟨[], [], [MO.arr g WT l]⟩ : PH)) wsG_set)⟩
    · have hd0 : d = 0 := by have := h; simp at this; omega
      subst hd0
      clear h
      (repeat (first | ((first | refine qA ?_ | refine qB ?_ | refine xN ?_ | refine xE ?_ | refine xT ?_); try show PW _ _ _ _ _ _) | refine ro1 tabOk rfl rfl ?_ | refine ro2 tabOk rfl rfl ?_ | refine ro3 tabOk rfl rfl ?_ | refine rd1 tabOk rfl rfl ?_ | refine rd2 tabOk rfl rfl ?_ | refine rd3 tabOk rfl rfl ?_ | ((first | apply oR rfl rfl | (apply dF rfl rfl rfl; intro _) | (apply dP rfl rfl rfl; intro _) | (apply dL rfl rfl rfl; intro _) | apply dC rfl rfl rfl rfl); (focus (first | exact cJ | exact mG | exact bT | exact nD)); try exact kQ) | refine xS ?_ | refine xR ?_ | refine qxa rfl rfl mixed ?_ | refine qxb rfl rfl mixed ?_ | refine qxi rfl rfl rfl rfl rfl mixed ?_ | refine qxc rfl rfl mixed ?_ | refine qxd rfl rfl mixed ?_ | refine xB ?_ | refine xt rfl ?_ | refine xf rfl ?_))
      exact ⟨(i + 1, zs), ⟨hlt, hI.skip hyi⟩, by simp only; omega, SlotsOk.le ⟨.inl rfl, .inl rfl, .inl rfl, .inl rfl, .inl (congrArg (fun k => PV.g (.int .i64 k)) (w64 (by simp only; omega))), trivial⟩, HLe.of_eq rfl⟩
  · have hi' : i = (wsG ys).length := by have := of_decide_eq_false h; omega
    have hpad := hI.pad
    rw [hi', List.take_of_length_le (by omega), show xs.length + ys.length = (wsG xs).length + (wsG ys).length by omega] at hpad
    rw [← hpad]
    (repeat (first | ((first | refine qA ?_ | refine qB ?_ | refine xN ?_ | refine xE ?_ | refine xT ?_); try show PW _ _ _ _ _ _) | refine ro1 tabOk rfl rfl ?_ | refine ro2 tabOk rfl rfl ?_ | refine ro3 tabOk rfl rfl ?_ | refine rd1 tabOk rfl rfl ?_ | refine rd2 tabOk rfl rfl ?_ | refine rd3 tabOk rfl rfl ?_ | ((first | apply oR rfl rfl | (apply dF rfl rfl rfl; intro _) | (apply dP rfl rfl rfl; intro _) | (apply dL rfl rfl rfl; intro _) | apply dC rfl rfl rfl rfl); (focus (first | exact cJ | exact mG | exact bT | exact nD)); try exact kQ) | refine xS ?_ | refine xR ?_ | refine qxa rfl rfl mixed ?_ | refine qxb rfl rfl mixed ?_ | refine qxi rfl rfl rfl rfl rfl mixed ?_ | refine qxc rfl rfl mixed ?_ | refine qxd rfl rfl mixed ?_ | refine xB ?_ | refine xt rfl ?_ | refine xf rfl ?_))
    (first | refine Ret_box wN rfl rfl rfl rfl rfl rfl rfl rfl rfl ?_ ?_ ?_ rfl | refine Ret_box (wC vT wN) rfl rfl rfl rfl rfl rfl rfl rfl rfl ?_ ?_ ?_ rfl | refine Ret_box (wC (vA (AG rfl) (SZ rfl) rfl rfl (lB rfl)) wN) rfl rfl rfl rfl rfl rfl rfl rfl rfl ?_ ?_ ?_ rfl | refine Ret_box (wC vT (wC vT wN)) rfl rfl rfl rfl rfl rfl rfl rfl rfl ?_ ?_ ?_ rfl | refine Ret_box (wC (vA (AG rfl) (SZ rfl) rfl rfl (lB rfl)) (wC vT wN)) rfl rfl rfl rfl rfl rfl rfl rfl rfl ?_ ?_ ?_ rfl)
    all_goals rfl

set_option maxRecDepth 100000 in
set_option maxHeartbeats 4000000 in
/-- basicMul: all lines. -/
theorem basicMul_vpc {g cap g1 nx c1 : Nat} {ws ws1 xs : List Nat} (hv1 : (ws1.drop 0).take nx = xs) (hl1 : nx ≤ ws1.length) (hws : okW ws) (hx : okW xs) (hn : nx + nx ≤ ws.length) (hcap : nx + nx ≤ cap) (hm : nx + nx ≤ 100000) (hx1 : 1 ≤ nx) :
    PC Tryz.prog 79 [.vw 0 g 0 (nx + nx) cap, .vw 1 g1 0 nx c1, .vw 1 g1 0 nx c1] ⟨[], [], [AR g ws, AR g1 ws1]⟩ (.tuple []) ⟨[], [], [AR g (putL ws 0 (padD (nx + nx) (val xs * val xs))), AR g1 ws1]⟩ := by
  have hnx : nx = xs.length := by rw [← hv1]; simp; omega
  have hny : nx = xs.length := by rw [← hv1]; simp; omega
  have hadd : IntKind.i64.wrap ((nx : Int) + (nx : Int)) = ((nx + nx : Nat) : Int) := by rw [w64 (by omega)]; omega
  have hclr : putAt (wsG ws) 0 (List.replicate (nx + nx) (constG (.int .u64 0))) = wsG (putL ws 0 (List.replicate (nx + nx) 0)) := by
    unfold putAt putL wsG
    simp [wG, constG]
  refine PC_of_PW Tryz.func79 rfl rfl (rs := _) rfl (Nat.le_of_ble_eq_true (by kernel_rfl)) ?_
  (repeat (first | ((first | refine qA ?_ | refine qB ?_ | refine xN ?_ | refine xE ?_ | refine xT ?_); try show PW _ _ _ _ _ _) | refine ro1 tabOk rfl rfl ?_ | refine ro2 tabOk rfl rfl ?_ | refine ro3 tabOk rfl rfl ?_ | refine rd1 tabOk rfl rfl ?_ | refine rd2 tabOk rfl rfl ?_ | refine rd3 tabOk rfl rfl ?_ | ((first | apply oR rfl rfl | (apply dF rfl rfl rfl; intro _) | (apply dP rfl rfl rfl; intro _) | (apply dL rfl rfl rfl; intro _) | apply dC rfl rfl rfl rfl); (focus (first | exact PO_vlen rfl (EL rfl) rfl | exact vcut (nx + nx) rfl (EL rfl) (SZ rfl) rfl rfl rfl rfl hadd hcap | exact PO_asH (PO_vclear rfl (EL rfl) (ZR rfl) rfl (SZ rfl) rfl rfl (by rw [wsG_length ws]; omega)) (congrArg (fun l => (⟨[], [], [MO.arr g WT l, AR g1 ws1]⟩ : PH)) hclr) | exact cJ | exact mG | exact bT | exact nD)); try exact kQ) | refine xS ?_ | refine xR ?_ | refine qxa rfl rfl mixed ?_ | refine qxb rfl rfl mixed ?_ | refine qxi rfl rfl rfl rfl rfl mixed ?_ | refine qxc rfl rfl mixed ?_ | refine qxd rfl rfl mixed ?_ | refine xB ?_ | refine xt rfl ?_ | refine xf rfl ?_))
  refine PW_loop (S := Nat × List Nat) (fun s => slots [(0, .vw 0 g 0 (nx + nx) cap), (1, .vw 1 g1 0 nx c1), (15, .vw 1 g1 0 nx c1), (16, .g (.int .i64 (nx : Nat))), (17, .g (.int .i64 s.1))]) (fun s => ⟨[], [], [AR g (putL ws 0 s.2), AR g1 ws1]⟩) (fun s => s.1 ≤ nx ∧ MulInv xs xs s.2 s.1) (fun s => nx - s.1) (0, List.replicate (nx + nx) 0) ⟨Nat.zero_le _, by have h := MulInv.start xs xs; rw [show xs.length + xs.length = nx + nx by omega] at h; exact h⟩
    (SlotsOk.le ?_) (HLe.of_eq ?_) (fun s hs => ?_)
  · exact ⟨.inl rfl, .inl rfl, .inl rfl, .inl rfl, .inl rfl, trivial⟩
  · rfl
  obtain ⟨i, zs⟩ := s
  obtain ⟨hi, hI⟩ := hs
  simp only at hi hI
  have hzl := hI.len
  (repeat (first | ((first | refine qA ?_ | refine qB ?_ | refine xN ?_ | refine xE ?_ | refine xT ?_); try show PW _ _ _ _ _ _) | refine ro1 tabOk rfl rfl ?_ | refine ro2 tabOk rfl rfl ?_ | refine ro3 tabOk rfl rfl ?_ | refine rd1 tabOk rfl rfl ?_ | refine rd2 tabOk rfl rfl ?_ | refine rd3 tabOk rfl rfl ?_ | ((first | apply oR rfl rfl | (apply dF rfl rfl rfl; intro _) | (apply dP rfl rfl rfl; intro _) | (apply dL rfl rfl rfl; intro _) | apply dC rfl rfl rfl rfl); (focus (first | exact cJ | exact mG | exact bT | exact nD)); try exact kQ) | refine xS ?_ | refine xR ?_ | refine qxa rfl rfl mixed ?_ | refine qxb rfl rfl mixed ?_ | refine qxi rfl rfl rfl rfl rfl mixed ?_ | refine qxc rfl rfl mixed ?_ | refine qxd rfl rfl mixed ?_ | refine xB ?_ | refine xt rfl ?_ | refine xf rfl ?_))
  (first | refine POps_split rfl rfl (fun h => ?_) (fun h => ?_) | refine POpsD_split rfl rfl (fun h => ?_) (fun h => ?_) | refine PW_cond rfl (fun h => ?_) (fun h => ?_))
  · have hlt : i < nx := by have := of_decide_eq_true h; omega
    have hyi : xs[i]? = some (xs[i]'(by omega)) := List.getElem?_eq_getElem (by omega)
    generalize xs[i]'(by omega) = d at hyi
    have hg : (wsG ws1)[0 + i]? = some (wG d) := wsG_get (by rw [← hv1, List.getElem?_take, if_pos hlt, List.getElem?_drop] at hyi; exact hyi)
    have hd : d < WB := hx.at hyi
    clear h
    (repeat (first | ((first | refine qA ?_ | refine qB ?_ | refine xN ?_ | refine xE ?_ | refine xT ?_); try show PW _ _ _ _ _ _) | refine ro1 tabOk rfl rfl ?_ | refine ro2 tabOk rfl rfl ?_ | refine ro3 tabOk rfl rfl ?_ | refine rd1 tabOk rfl rfl ?_ | refine rd2 tabOk rfl rfl ?_ | refine rd3 tabOk rfl rfl ?_ | ((first | apply oR rfl rfl | (apply dF rfl rfl rfl; intro _) | (apply dP rfl rfl rfl; intro _) | (apply dL rfl rfl rfl; intro _) | apply dC rfl rfl rfl rfl); (focus (first | exact PO_vindex i rfl (EL rfl) (SZ rfl) rfl rfl rfl hlt | exact PO_load_mref_one rfl (AG rfl) rfl rfl hg rfl | exact cJ | exact mG | exact bT | exact nD)); try exact kQ) | refine xS ?_ | refine xR ?_ | refine qxa rfl rfl mixed ?_ | refine qxb rfl rfl mixed ?_ | refine qxi rfl rfl rfl rfl rfl mixed ?_ | refine qxc rfl rfl mixed ?_ | refine qxd rfl rfl mixed ?_ | refine xB ?_ | refine xt rfl ?_ | refine xf rfl ?_))
    (first | refine POps_split rfl rfl (fun h => ?_) (fun h => ?_) | refine POpsD_split rfl rfl (fun h => ?_) (fun h => ?_) | refine PW_cond rfl (fun h => ?_) (fun h => ?_))
    · have hd0 : d ≠ 0 := fun e => by subst e; simp at h
      have hstep := hI.step hx hyi hd
      have hpl : ((zs.drop i).take xs.length).length = xs.length := by simp; omega
      have hul : (addMulW ((zs.drop i).take xs.length) xs d 0).length = xs.length := by rw [addMulW_length hpl, hpl]
      have hcall := addMulV_vpc (g := g) (o := i) (n := nx) (cap := cap - i) (cap' := cap - i) (g1 := g1) (o1 := 0) (c1 := c1) (ws := putL ws 0 zs) (xs := (zs.drop i).take xs.length) (ys := xs) (ws1 := ws1) (m := d) (a := 0) hv1 (putL0_ok hws hI.ok) (by rw [hnx]; exact part_in (by omega)) hx hnx.symm (by unfold maxLen; omega) hd (by decide) (by rw [putL_zero]; simp; omega)
      have hsum : IntKind.i64.wrap ((i : Int) + (nx : Int)) = ((i + nx : Nat) : Int) := by rw [w64 (by omega)]; omega
      have hsum2 : IntKind.i64.wrap ((nx : Int) + (i : Int)) = ((nx + i : Nat) : Int) := by rw [w64 (by omega)]; omega
      have hset : putL (putL ws 0 zs) i (addMulW ((zs.drop i).take xs.length) xs d 0 ++ [addMulC ((zs.drop i).take xs.length) xs d 0]) = putL ws 0 (rowW zs xs i d) := putL_in (by rw [List.length_append, hul]; simp; omega)
      have hz : (wsG (putL (putL ws 0 zs) i (addMulW ((zs.drop i).take xs.length) xs d 0)))[0 + (nx + i)]? = some (wG ((putL (putL ws 0 zs) i (addMulW ((zs.drop i).take xs.length) xs d 0))[nx + i]'(by rw [putL_length (by rw [hul, putL_zero]; simp; omega), putL_zero]; simp; omega))) := wsG_get (by rw [Nat.zero_add]; exact List.getElem?_eq_getElem _)
      generalize (putL (putL ws 0 zs) i (addMulW ((zs.drop i).take xs.length) xs d 0))[nx + i]'(by rw [putL_length (by rw [hul, putL_zero]; simp; omega), putL_zero]; simp; omega) = q at hz
      clear h
      (repeat (first | ((first | refine qA ?_ | refine qB ?_ | refine xN ?_ | refine xE ?_ | refine xT ?_); try show PW _ _ _ _ _ _) | refine ro1 tabOk rfl rfl ?_ | refine ro2 tabOk rfl rfl ?_ | refine ro3 tabOk rfl rfl ?_ | refine rd1 tabOk rfl rfl ?_ | refine rd2 tabOk rfl rfl ?_ | refine rd3 tabOk rfl rfl ?_ | (apply dR rfl rfl; focus (first | exact Cond_mstore rfl (SZ rfl) rfl rfl rfl rfl (by decide) rfl hz (Nat.le_refl _))) | ((first | apply oR rfl rfl | (apply dF rfl rfl rfl; intro _) | (apply dP rfl rfl rfl; intro _) | (apply dL rfl rfl rfl; intro _) | apply dC rfl rfl rfl rfl); (focus (first | exact PO_vlen rfl (EL rfl) rfl | exact PO_as (vmid i (i + nx) rfl (EL rfl) (SZ rfl) rfl rfl rfl rfl hsum (by omega) (by omega) (by omega)) (show _ = PV.vw 0 g i (nx) (cap - i) by rw [Nat.zero_add, Nat.add_sub_cancel_left]) | exact ct [] rfl rfl tw_addMul (hcall) rfl rfl rfl rfl rfl rfl rfl rfl rfl rfl rfl | exact PO_vindex (nx + i) rfl (EL rfl) (SZ rfl) rfl rfl hsum2 (by omega) | exact cJ | exact mG | exact bT | exact nD)); try exact kQ) | refine xS ?_ | refine xR ?_ | refine qxa rfl rfl mixed ?_ | refine qxb rfl rfl mixed ?_ | refine qxi rfl rfl rfl rfl rfl mixed ?_ | refine qxc rfl rfl mixed ?_ | refine qxd rfl rfl mixed ?_ | refine xB ?_ | refine xt rfl ?_ | refine xf rfl ?_))
      exact ⟨(i + 1, rowW zs xs i d), ⟨hlt, hstep⟩, by simp only; omega, SlotsOk.le ⟨.inl rfl, .inl rfl, .inl rfl, .inl rfl, .inl (congrArg (fun k => PV.g (.int .i64 k)) (w64 (by simp only; omega))), trivial⟩,
        HLe.of_eq (by
          rw [← hset, ← set_putL hul (by rw [putL_zero]; simp; omega), show i + xs.length = 0 + (nx + i) by omega]
          exact congrArg (fun l => (⟨[], [], [MO.arr g WT l, AR g1 ws1]⟩ : PH)) wsG_set)⟩
    · have hd0 : d = 0 := by have := h; simp at this; omega
      subst hd0
      clear h
      (repeat (first | ((first | refine qA ?_ | refine qB ?_ | refine xN ?_ | refine xE ?_ | refine xT ?_); try show PW _ _ _ _ _ _) | refine ro1 tabOk rfl rfl ?_ | refine ro2 tabOk rfl rfl ?_ | refine ro3 tabOk rfl rfl ?_ | refine rd1 tabOk rfl rfl ?_ | refine rd2 tabOk rfl rfl ?_ | refine rd3 tabOk rfl rfl ?_ | ((first | apply oR rfl rfl | (apply dF rfl rfl rfl; intro _) | (apply dP rfl rfl rfl; intro _) | (apply dL rfl rfl rfl; intro _) | apply dC rfl rfl rfl rfl); (focus (first | exact cJ | exact mG | exact bT | exact nD)); try exact kQ) | refine xS ?_ | refine xR ?_ | refine qxa rfl rfl mixed ?_ | refine qxb rfl rfl mixed ?_ | refine qxi rfl rfl rfl rfl rfl mixed ?_ | refine qxc rfl rfl mixed ?_ | refine qxd rfl rfl mixed ?_ | refine xB ?_ | refine xt rfl ?_ | refine xf rfl ?_))
      exact ⟨(i + 1, zs), ⟨hlt, hI.skip hyi⟩, by simp only; omega, SlotsOk.le ⟨.inl rfl, .inl rfl, .inl rfl, .inl rfl, .inl (congrArg (fun k => PV.g (.int .i64 k)) (w64 (by simp only; omega))), trivial⟩, HLe.of_eq rfl⟩
  · have hi' : i = nx := by have := of_decide_eq_false h; omega
    have hpad := hI.pad
    rw [hi', List.take_of_length_le (by omega), show xs.length + xs.length = nx + nx by omega] at hpad
    rw [← hpad]
    (repeat (first | ((first | refine qA ?_ | refine qB ?_ | refine xN ?_ | refine xE ?_ | refine xT ?_); try show PW _ _ _ _ _ _) | refine ro1 tabOk rfl rfl ?_ | refine ro2 tabOk rfl rfl ?_ | refine ro3 tabOk rfl rfl ?_ | refine rd1 tabOk rfl rfl ?_ | refine rd2 tabOk rfl rfl ?_ | refine rd3 tabOk rfl rfl ?_ | ((first | apply oR rfl rfl | (apply dF rfl rfl rfl; intro _) | (apply dP rfl rfl rfl; intro _) | (apply dL rfl rfl rfl; intro _) | apply dC rfl rfl rfl rfl); (focus (first | exact cJ | exact mG | exact bT | exact nD)); try exact kQ) | refine xS ?_ | refine xR ?_ | refine qxa rfl rfl mixed ?_ | refine qxb rfl rfl mixed ?_ | refine qxi rfl rfl rfl rfl rfl mixed ?_ | refine qxc rfl rfl mixed ?_ | refine qxd rfl rfl mixed ?_ | refine xB ?_ | refine xt rfl ?_ | refine xf rfl ?_))
    (first | refine Ret_box wN rfl rfl rfl rfl rfl rfl rfl rfl rfl ?_ ?_ ?_ rfl | refine Ret_box (wC vT wN) rfl rfl rfl rfl rfl rfl rfl rfl rfl ?_ ?_ ?_ rfl | refine Ret_box (wC (vA (AG rfl) (SZ rfl) rfl rfl (lB rfl)) wN) rfl rfl rfl rfl rfl rfl rfl rfl rfl ?_ ?_ ?_ rfl | refine Ret_box (wC vT (wC vT wN)) rfl rfl rfl rfl rfl rfl rfl rfl rfl ?_ ?_ ?_ rfl | refine Ret_box (wC (vA (AG rfl) (SZ rfl) rfl rfl (lB rfl)) (wC vT wN)) rfl rfl rfl rfl rfl rfl rfl rfl rfl ?_ ?_ ?_ rfl)
    all_goals rfl
end Go.Proofs.YtdicineiaifahaaGreatDoor


namespace Go.Proofs.YtdicineiaifahaaGreatDoor
open Go Go.Pure
attribute [local irreducible] PW POps POpsD PO PC Cond

theorem prod_lt {xs ys : List Nat} (hx : okW xs) (hy : okW ys) : val xs * val ys < WB ^ (xs.length + ys.length) := by
  have h1 := val_lt hx
  have h2 := val_lt hy
  rw [Nat.pow_add]
  exact Nat.mul_lt_mul'' h1 h2
/-- What is written word by word is so many words of the product. -/
theorem mulAdd_pad {xs : List Nat} {y : Nat} (hx : okW xs) (hy : y < WB) : mulAddW xs y 0 ++ [mulAddC xs y 0] = padD (xs.length + 1) (val xs * y) := by
  have hok : okW (mulAddW xs y 0 ++ [mulAddC xs y 0]) := okW_append.2 ⟨mulAddW_ok _ _ _, okW_cons.2 ⟨mulAddC_lt hx hy (by decide), okW_nil⟩⟩
  have h := padD_val hok
  rw [List.length_append, mulAddW_length, val_append, mulAddW_length] at h
  have hv := mulAdd_val xs y 0
  simp only [val, Nat.mul_zero, Nat.add_zero, List.length_cons, List.length_nil] at h hv
  rw [hv] at h
  simpa using h.symm
theorem part0 {ws us : List Nat} {k : Nat} (h : us.length = k) : ((putL ws 0 us).drop 0).take k = us := by
  rw [List.drop_zero, putL_zero, List.take_append_of_le_length (by omega), List.take_of_length_le (by omega)]
theorem padD_two {d : Nat} (hd : d < WB) : padD 2 (d * d) = [d * d % WB, d * d / WB] := by
  have : d * d / WB < WB := by have := word_step hd hd (show 0 < WB by decide); simpa using this
  simp [padD, Nat.mod_eq_of_lt this]
theorem two_of {l : List Nat} (h : 2 ≤ l.length) : ∃ q0 q1 R, l = q0 :: q1 :: R := by
  cases l with
  | nil => simp at h
  | cons a r => cases r with
    | nil => simp at h
    | cons b r => exact ⟨a, b, r, rfl⟩
theorem putL_get0 {ws us : List Nat} {k : Nat} (hl : us.length ≤ k) (h : k < ws.length) : (putL ws 0 us)[k]? = some (ws[k]'h) := by
  rw [putL_get (by omega)]; exact List.getElem?_eq_getElem h

set_option maxRecDepth 100000 in
set_option maxHeartbeats 4000000 in
theorem mulWW_pc {x y : Nat} (hx : x < WB) (hy : y < WB) : PC Tryz.prog 76 [.g (wG x), .g (wG y)] ⟨[], [], []⟩ (.tuple [.g (wG (x * y / WB)), .g (wG (x * y % WB))]) ⟨[], [], []⟩ := by
  have h1 := bmul_pc hx hy
  refine PC_of_PW Tryz.func76 rfl rfl (rs := _) rfl (Nat.le_of_ble_eq_true (by kernel_rfl)) ?_
  (repeat (first | ((first | refine qA ?_ | refine qB ?_ | refine xN ?_ | refine xE ?_ | refine xT ?_); try show PW _ _ _ _ _ _) | refine ro1 tabOk rfl rfl ?_ | refine ro2 tabOk rfl rfl ?_ | refine ro3 tabOk rfl rfl ?_ | refine rd1 tabOk rfl rfl ?_ | refine rd2 tabOk rfl rfl ?_ | refine rd3 tabOk rfl rfl ?_ | ((first | apply oR rfl rfl | (apply dF rfl rfl rfl; intro _) | (apply dP rfl rfl rfl; intro _) | (apply dL rfl rfl rfl; intro _) | apply dC rfl rfl rfl rfl); (focus (first | exact cqP h1 | exact cJ | exact mG | exact bT | exact nD)); try exact kQ) | refine xS ?_ | refine xR ?_ | refine qxa rfl rfl mixed ?_ | refine qxb rfl rfl mixed ?_ | refine qxi rfl rfl rfl rfl rfl mixed ?_ | refine qxc rfl rfl mixed ?_ | refine qxd rfl rfl mixed ?_ | refine xB ?_ | refine xt rfl ?_ | refine xf rfl ?_))
  exact Ret2 (vC vT (vC vT vN)) rfl rfl rfl

set_option maxRecDepth 100000 in
set_option maxHeartbeats 4000000 in
/-- A number times a word, made anew. -/
theorem mulAddWW_g {xs : List Nat} {y : Nat} (hx : okW xs) (hy : y < WB) (hy0 : y ≠ 0) (h1 : 1 ≤ (wsG xs).length) (hm : (wsG xs).length ≤ 100000) :
    PC Tryz.prog 84 [.nils, .g (.sl (wsG xs)), .g (wG y), .g (wG 0)] ⟨[], [], []⟩ (.vw 0 0 0 (dig (val xs * y)).length ((wsG xs).length + 1 + 4)) ⟨[], [], [AR 0 (putL (List.replicate ((wsG xs).length + 1 + 4) 0) 0 (padD ((wsG xs).length + 1) (val xs * y)))]⟩ := by
  have hl : (wsG xs).length = xs.length := wsG_length xs
  have hadd : IntKind.i64.wrap (((wsG xs).length : Int) + 1) = (((wsG xs).length + 1 : Nat) : Int) := by rw [w64 (by omega)]; omega
  have hmk := make_nil (n := (wsG xs).length + 1) (by omega) (by omega)
  rw [show capN ((wsG xs).length + 1) = (wsG xs).length + 1 + 4 from by unfold capN; rw [if_neg (by omega)]] at hmk
  rw [← hadd] at hmk
  have hw0 : (wsG xs).length + 1 ≤ ((List.replicate ((wsG xs).length + 1 + 4) 0)).length := by rw [List.length_replicate]; omega
  have hv := mulAddV_pc (g := 0) (o := 0) (n := (wsG xs).length) (cap := (wsG xs).length + 1 + 4) (ws := List.replicate ((wsG xs).length + 1 + 4) 0) (xs := xs) (y := y) (r := 0) hx hl.symm (by unfold maxLen; omega) hy (by decide) (by omega)
  have hpl := padD_length ((wsG xs).length + 1) (val xs * y)
  have hlt : val xs * y < WB ^ ((wsG xs).length + 1) := by
    have := prod_lt hx (okW_cons.2 ⟨hy, okW_nil⟩)
    rw [hl]
    simpa [val] using this
  have hn := norm_pc (g := 0) (o := 0) (n := (wsG xs).length + 1) (cap := (wsG xs).length + 1 + 4) (ws := putL (List.replicate ((wsG xs).length + 1 + 4) 0) 0 (padD ((wsG xs).length + 1) (val xs * y))) (l := padD ((wsG xs).length + 1) (val xs * y)) (part0 hpl) (by rw [putL_length (by omega)]; omega) (by omega) (by unfold maxLen; omega)
  rw [nlen_padD hlt] at hn
  have hfin : (putL (List.replicate ((wsG xs).length + 1 + 4) 0) 0 (mulAddW xs y 0)).set (0 + (wsG xs).length) (mulAddC xs y 0) = putL (List.replicate ((wsG xs).length + 1 + 4) 0) 0 (padD ((wsG xs).length + 1) (val xs * y)) := by
    have := set_putL (ws := (List.replicate ((wsG xs).length + 1 + 4) 0)) (us := mulAddW xs y 0) (off := 0) (n := (wsG xs).length) (w := mulAddC xs y 0) (by rw [mulAddW_length xs y 0]; omega) (by omega)
    rw [this, mulAdd_pad hx hy, ← hl]
  have hz : (wsG (putL (List.replicate ((wsG xs).length + 1 + 4) 0) 0 (mulAddW xs y 0)))[0 + (wsG xs).length]? = some (wG (((List.replicate ((wsG xs).length + 1 + 4) 0))[(wsG xs).length]'(by omega))) := wsG_get (by rw [Nat.zero_add]; exact putL_get0 (ws := (List.replicate ((wsG xs).length + 1 + 4) 0)) (us := mulAddW xs y 0) (by rw [mulAddW_length xs y 0]; omega) _)
  generalize ((List.replicate ((wsG xs).length + 1 + 4) 0))[(wsG xs).length]'(by omega) = q at hz
  refine PC_of_PW Tryz.func84 rfl rfl (rs := _) rfl (Nat.le_of_ble_eq_true (by kernel_rfl)) ?_
  (repeat' (first | (first | ((first | refine qA ?_ | refine qB ?_ | refine xN ?_ | refine xE ?_ | refine xT ?_); try show PW _ _ _ _ _ _) | refine ro1 tabOk rfl rfl ?_ | refine ro2 tabOk rfl rfl ?_ | refine ro3 tabOk rfl rfl ?_ | refine rd1 tabOk rfl rfl ?_ | refine rd2 tabOk rfl rfl ?_ | refine rd3 tabOk rfl rfl ?_ | ((first | apply oR rfl rfl | (apply dF rfl rfl rfl; intro _) | (apply dP rfl rfl rfl; intro _) | (apply dL rfl rfl rfl; intro _) | apply dC rfl rfl rfl rfl); (focus (first | exact PO_vlen rfl (EL rfl) rfl | exact cJ | exact mG | exact bT | exact nD)); try exact kQ) | refine xU [4] rfl ?_ | refine xR ?_ | refine qxa rfl rfl mixed ?_ | refine qxb rfl rfl mixed ?_ | refine qxi rfl rfl rfl rfl rfl mixed ?_ | refine qxc rfl rfl mixed ?_ | refine qxd rfl rfl mixed ?_ | refine xB ?_ | refine xt rfl ?_ | refine xf rfl ?_) | (refine POps_split rfl rfl (fun h => ?_) (fun h => ?_) <;> fail_if_success (first | (have : true = true := h) | (have : false = false := h))) | (refine POpsD_split rfl rfl (fun h => ?_) (fun h => ?_) <;> fail_if_success (first | (have : true = true := h) | (have : false = false := h))) | refine PW_cond rfl (fun h => ?_) (fun h => ?_)))
  all_goals (try (exfalso; have := of_decide_eq_true h; omega))
  (repeat (first | ((first | refine qA ?_ | refine qB ?_ | refine xN ?_ | refine xE ?_ | refine xT ?_); try show PW _ _ _ _ _ _) | refine ro1 tabOk rfl rfl ?_ | refine ro2 tabOk rfl rfl ?_ | refine ro3 tabOk rfl rfl ?_ | refine rd1 tabOk rfl rfl ?_ | refine rd2 tabOk rfl rfl ?_ | refine rd3 tabOk rfl rfl ?_ | ((first | apply oR rfl rfl | (apply dF rfl rfl rfl; intro _) | (apply dP rfl rfl rfl; intro _) | (apply dL rfl rfl rfl; intro _) | apply dC rfl rfl rfl rfl); (focus (first | exact cd [true] rfl rfl (EN rfl) (hmk) rfl rfl rfl rfl rfl rfl rfl rfl rfl rfl rfl | exact vcut (wsG xs).length rfl (EL rfl) (SZ rfl) rfl rfl rfl rfl rfl (by omega) | exact ct [] rfl rfl tw_mulAdd (hv) rfl rfl rfl rfl rfl rfl rfl rfl rfl rfl rfl | exact PO_vindex (wsG xs).length rfl (EL rfl) (SZ rfl) rfl rfl rfl (by omega) | exact cd [] rfl rfl (EN rfl) (hn) rfl rfl rfl rfl rfl rfl rfl rfl rfl rfl rfl | exact PO_asH (PO_store_mref rfl (SZ rfl) rfl rfl rfl rfl (by decide) rfl hz (Nat.le_refl _)) (congrArg (fun l => (⟨[], [], [MO.arr 0 WT l]⟩ : PH)) (wsG_set.trans (congrArg wsG hfin))) | exact cJ | exact mG | exact bT | exact nD)); try exact kQ) | refine xS ?_ | refine xR ?_ | refine qxa rfl rfl mixed ?_ | refine qxb rfl rfl mixed ?_ | refine qxi rfl rfl rfl rfl rfl mixed ?_ | refine qxc rfl rfl mixed ?_ | refine qxd rfl rfl mixed ?_ | refine xB ?_ | refine xt rfl ?_ | refine xf rfl ?_))
  (first | refine Ret_box wN rfl rfl rfl rfl rfl rfl rfl rfl rfl ?_ ?_ ?_ rfl | refine Ret_box (wC vT wN) rfl rfl rfl rfl rfl rfl rfl rfl rfl ?_ ?_ ?_ rfl | refine Ret_box (wC (vA (AG rfl) (SZ rfl) rfl rfl (lB rfl)) wN) rfl rfl rfl rfl rfl rfl rfl rfl rfl ?_ ?_ ?_ rfl | refine Ret_box (wC vT (wC vT wN)) rfl rfl rfl rfl rfl rfl rfl rfl rfl ?_ ?_ ?_ rfl | refine Ret_box (wC (vA (AG rfl) (SZ rfl) rfl rfl (lB rfl)) (wC vT wN)) rfl rfl rfl rfl rfl rfl rfl rfl rfl ?_ ?_ ?_ rfl)
  all_goals rfl

set_option maxRecDepth 100000 in
set_option maxHeartbeats 4000000 in
/-- A number times a word, where there is room. -/
theorem mulAddWW_in {gz lz cz g nx c : Nat} {wz ws xs : List Nat} {y : Nat} (hv1 : (ws.drop 0).take nx = xs) (hl1 : nx ≤ ws.length) (hroom : nx + 1 ≤ cz) (hcz : cz ≤ 1000000) (hwz : cz ≤ wz.length) (hx : okW xs) (hy : y < WB) (hy0 : y ≠ 0) (h1 : 1 ≤ nx) (hm : nx ≤ 100000) :
    PC Tryz.prog 84 [.vw 0 gz 0 lz cz, .vw 1 g 0 nx c, .g (wG y), .g (wG 0)] ⟨[], [], [AR gz wz, AR g ws]⟩ (.vw 0 gz 0 (dig (val xs * y)).length (cz)) ⟨[], [], [AR gz (putL wz 0 (padD (nx + 1) (val xs * y))), AR g ws]⟩ := by
  have hl : nx = xs.length := by rw [← hv1]; simp; omega
  have hadd : IntKind.i64.wrap ((nx : Int) + 1) = ((nx + 1 : Nat) : Int) := by rw [w64 (by omega)]; omega
  have hmk := make_in (n := nx + 1) (g := gz) (o := 0) (len := lz) (cap := cz) (m := AR gz wz) hroom
  rw [← hadd] at hmk
  have hw0 : nx + 1 ≤ (wz).length := by omega
  have hv := mulAddV_vpc (g := gz) (o := 0) (n := nx) (cap := cz) (g1 := g) (o1 := 0) (c1 := c) (ws := wz) (xs := xs) (ws1 := ws) (y := y) (r := 0) hv1 hx hl.symm (by unfold maxLen; omega) hy (by decide) (by omega)
  have hpl := padD_length (nx + 1) (val xs * y)
  have hlt : val xs * y < WB ^ (nx + 1) := by
    have := prod_lt hx (okW_cons.2 ⟨hy, okW_nil⟩)
    rw [hl]
    simpa [val] using this
  have hn := norm_pc (g := gz) (o := 0) (n := nx + 1) (cap := cz) (ws := putL wz 0 (padD (nx + 1) (val xs * y))) (l := padD (nx + 1) (val xs * y)) (part0 hpl) (by rw [putL_length (by omega)]; omega) (by omega) (by unfold maxLen; omega)
  rw [nlen_padD hlt] at hn
  have hfin : (putL wz 0 (mulAddW xs y 0)).set (0 + nx) (mulAddC xs y 0) = putL wz 0 (padD (nx + 1) (val xs * y)) := by
    have := set_putL (ws := wz) (us := mulAddW xs y 0) (off := 0) (n := nx) (w := mulAddC xs y 0) (by rw [mulAddW_length xs y 0]; omega) (by omega)
    rw [this, mulAdd_pad hx hy, ← hl]
  have hz : (wsG (putL wz 0 (mulAddW xs y 0)))[0 + nx]? = some (wG ((wz)[nx]'(by omega))) := wsG_get (by rw [Nat.zero_add]; exact putL_get0 (ws := wz) (us := mulAddW xs y 0) (by rw [mulAddW_length xs y 0]; omega) _)
  generalize (wz)[nx]'(by omega) = q at hz
  refine PC_of_PW Tryz.func84 rfl rfl (rs := _) rfl (Nat.le_of_ble_eq_true (by kernel_rfl)) ?_
  (repeat' (first | (first | ((first | refine qA ?_ | refine qB ?_ | refine xN ?_ | refine xE ?_ | refine xT ?_); try show PW _ _ _ _ _ _) | refine ro1 tabOk rfl rfl ?_ | refine ro2 tabOk rfl rfl ?_ | refine ro3 tabOk rfl rfl ?_ | refine rd1 tabOk rfl rfl ?_ | refine rd2 tabOk rfl rfl ?_ | refine rd3 tabOk rfl rfl ?_ | ((first | apply oR rfl rfl | (apply dF rfl rfl rfl; intro _) | (apply dP rfl rfl rfl; intro _) | (apply dL rfl rfl rfl; intro _) | apply dC rfl rfl rfl rfl); (focus (first | exact PO_vlen rfl (EL rfl) rfl | exact cJ | exact mG | exact bT | exact nD)); try exact kQ) | refine xU [4] rfl ?_ | refine xR ?_ | refine qxa rfl rfl mixed ?_ | refine qxb rfl rfl mixed ?_ | refine qxi rfl rfl rfl rfl rfl mixed ?_ | refine qxc rfl rfl mixed ?_ | refine qxd rfl rfl mixed ?_ | refine xB ?_ | refine xt rfl ?_ | refine xf rfl ?_) | (refine POps_split rfl rfl (fun h => ?_) (fun h => ?_) <;> fail_if_success (first | (have : true = true := h) | (have : false = false := h))) | (refine POpsD_split rfl rfl (fun h => ?_) (fun h => ?_) <;> fail_if_success (first | (have : true = true := h) | (have : false = false := h))) | refine PW_cond rfl (fun h => ?_) (fun h => ?_)))
  all_goals (try (exfalso; have := of_decide_eq_true h; omega))
  (repeat (first | ((first | refine qA ?_ | refine qB ?_ | refine xN ?_ | refine xE ?_ | refine xT ?_); try show PW _ _ _ _ _ _) | refine ro1 tabOk rfl rfl ?_ | refine ro2 tabOk rfl rfl ?_ | refine ro3 tabOk rfl rfl ?_ | refine rd1 tabOk rfl rfl ?_ | refine rd2 tabOk rfl rfl ?_ | refine rd3 tabOk rfl rfl ?_ | ((first | apply oR rfl rfl | (apply dF rfl rfl rfl; intro _) | (apply dP rfl rfl rfl; intro _) | (apply dL rfl rfl rfl; intro _) | apply dC rfl rfl rfl rfl); (focus (first | exact cd [true] rfl rfl (EN rfl) (hmk) rfl rfl rfl rfl rfl rfl rfl rfl rfl rfl rfl | exact vcut nx rfl (EL rfl) (SZ rfl) rfl rfl rfl rfl rfl (by omega) | exact ct [] rfl rfl tw_mulAdd (hv) rfl rfl rfl rfl rfl rfl rfl rfl rfl rfl rfl | exact PO_vindex nx rfl (EL rfl) (SZ rfl) rfl rfl rfl (by omega) | exact cd [] rfl rfl (EN rfl) (hn) rfl rfl rfl rfl rfl rfl rfl rfl rfl rfl rfl | exact PO_asH (PO_store_mref rfl (SZ rfl) rfl rfl rfl rfl (by decide) rfl hz (Nat.le_refl _)) (congrArg (fun l => (⟨[], [], [MO.arr gz WT l, AR g ws]⟩ : PH)) (wsG_set.trans (congrArg wsG hfin))) | exact cJ | exact mG | exact bT | exact nD)); try exact kQ) | refine xS ?_ | refine xR ?_ | refine qxa rfl rfl mixed ?_ | refine qxb rfl rfl mixed ?_ | refine qxi rfl rfl rfl rfl rfl mixed ?_ | refine qxc rfl rfl mixed ?_ | refine qxd rfl rfl mixed ?_ | refine xB ?_ | refine xt rfl ?_ | refine xf rfl ?_))
  (first | refine Ret_box wN rfl rfl rfl rfl rfl rfl rfl rfl rfl ?_ ?_ ?_ rfl | refine Ret_box (wC vT wN) rfl rfl rfl rfl rfl rfl rfl rfl rfl ?_ ?_ ?_ rfl | refine Ret_box (wC (vA (AG rfl) (SZ rfl) rfl rfl (lB rfl)) wN) rfl rfl rfl rfl rfl rfl rfl rfl rfl ?_ ?_ ?_ rfl | refine Ret_box (wC vT (wC vT wN)) rfl rfl rfl rfl rfl rfl rfl rfl rfl ?_ ?_ ?_ rfl | refine Ret_box (wC (vA (AG rfl) (SZ rfl) rfl rfl (lB rfl)) (wC vT wN)) rfl rfl rfl rfl rfl rfl rfl rfl rfl ?_ ?_ ?_ rfl)
  all_goals rfl

set_option maxRecDepth 100000 in
set_option maxHeartbeats 4000000 in
/-- A number times a word, where there is no room. -/
theorem mulAddWW_out {gz lz cz g nx c : Nat} {wz ws xs : List Nat} {y : Nat} (hv1 : (ws.drop 0).take nx = xs) (hl1 : nx ≤ ws.length) (hroom : cz < nx + 1) (hx : okW xs) (hy : y < WB) (hy0 : y ≠ 0) (h1 : 1 ≤ nx) (hm : nx ≤ 100000) :
    PC Tryz.prog 84 [.vw 0 gz 0 lz cz, .vw 1 g 0 nx c, .g (wG y), .g (wG 0)] ⟨[], [], [AR gz wz, AR g ws]⟩ (.vw 2 0 0 (dig (val xs * y)).length (nx + 1 + 4)) ⟨[], [], [AR gz wz, AR g ws, AR 0 (putL (List.replicate (nx + 1 + 4) 0) 0 (padD (nx + 1) (val xs * y)))]⟩ := by
  have hl : nx = xs.length := by rw [← hv1]; simp; omega
  have hadd : IntKind.i64.wrap ((nx : Int) + 1) = ((nx + 1 : Nat) : Int) := by rw [w64 (by omega)]; omega
  have hmk := make_out (n := nx + 1) (g := gz) (o := 0) (len := lz) (cap := cz) (m := AR gz wz) (by omega) hroom (by omega)
  rw [← hadd] at hmk
  have hw0 : nx + 1 ≤ ((List.replicate (nx + 1 + 4) 0)).length := by rw [List.length_replicate]; omega
  have hv := mulAddV_vpc (g := 0) (o := 0) (n := nx) (cap := nx + 1 + 4) (g1 := g) (o1 := 0) (c1 := c) (ws := List.replicate (nx + 1 + 4) 0) (xs := xs) (ws1 := ws) (y := y) (r := 0) hv1 hx hl.symm (by unfold maxLen; omega) hy (by decide) (by omega)
  have hpl := padD_length (nx + 1) (val xs * y)
  have hlt : val xs * y < WB ^ (nx + 1) := by
    have := prod_lt hx (okW_cons.2 ⟨hy, okW_nil⟩)
    rw [hl]
    simpa [val] using this
  have hn := norm_pc (g := 0) (o := 0) (n := nx + 1) (cap := nx + 1 + 4) (ws := putL (List.replicate (nx + 1 + 4) 0) 0 (padD (nx + 1) (val xs * y))) (l := padD (nx + 1) (val xs * y)) (part0 hpl) (by rw [putL_length (by omega)]; omega) (by omega) (by unfold maxLen; omega)
  rw [nlen_padD hlt] at hn
  have hfin : (putL (List.replicate (nx + 1 + 4) 0) 0 (mulAddW xs y 0)).set (0 + nx) (mulAddC xs y 0) = putL (List.replicate (nx + 1 + 4) 0) 0 (padD (nx + 1) (val xs * y)) := by
    have := set_putL (ws := (List.replicate (nx + 1 + 4) 0)) (us := mulAddW xs y 0) (off := 0) (n := nx) (w := mulAddC xs y 0) (by rw [mulAddW_length xs y 0]; omega) (by omega)
    rw [this, mulAdd_pad hx hy, ← hl]
  have hz : (wsG (putL (List.replicate (nx + 1 + 4) 0) 0 (mulAddW xs y 0)))[0 + nx]? = some (wG (((List.replicate (nx + 1 + 4) 0))[nx]'(by omega))) := wsG_get (by rw [Nat.zero_add]; exact putL_get0 (ws := (List.replicate (nx + 1 + 4) 0)) (us := mulAddW xs y 0) (by rw [mulAddW_length xs y 0]; omega) _)
  generalize ((List.replicate (nx + 1 + 4) 0))[nx]'(by omega) = q at hz
  refine PC_of_PW Tryz.func84 rfl rfl (rs := _) rfl (Nat.le_of_ble_eq_true (by kernel_rfl)) ?_
  (repeat' (first | (first | ((first | refine qA ?_ | refine qB ?_ | refine xN ?_ | refine xE ?_ | refine xT ?_); try show PW _ _ _ _ _ _) | refine ro1 tabOk rfl rfl ?_ | refine ro2 tabOk rfl rfl ?_ | refine ro3 tabOk rfl rfl ?_ | refine rd1 tabOk rfl rfl ?_ | refine rd2 tabOk rfl rfl ?_ | refine rd3 tabOk rfl rfl ?_ | ((first | apply oR rfl rfl | (apply dF rfl rfl rfl; intro _) | (apply dP rfl rfl rfl; intro _) | (apply dL rfl rfl rfl; intro _) | apply dC rfl rfl rfl rfl); (focus (first | exact PO_vlen rfl (EL rfl) rfl | exact cJ | exact mG | exact bT | exact nD)); try exact kQ) | refine xU [4] rfl ?_ | refine xR ?_ | refine qxa rfl rfl mixed ?_ | refine qxb rfl rfl mixed ?_ | refine qxi rfl rfl rfl rfl rfl mixed ?_ | refine qxc rfl rfl mixed ?_ | refine qxd rfl rfl mixed ?_ | refine xB ?_ | refine xt rfl ?_ | refine xf rfl ?_) | (refine POps_split rfl rfl (fun h => ?_) (fun h => ?_) <;> fail_if_success (first | (have : true = true := h) | (have : false = false := h))) | (refine POpsD_split rfl rfl (fun h => ?_) (fun h => ?_) <;> fail_if_success (first | (have : true = true := h) | (have : false = false := h))) | refine PW_cond rfl (fun h => ?_) (fun h => ?_)))
  all_goals (try (exfalso; have := of_decide_eq_true h; omega))
  (repeat (first | ((first | refine qA ?_ | refine qB ?_ | refine xN ?_ | refine xE ?_ | refine xT ?_); try show PW _ _ _ _ _ _) | refine ro1 tabOk rfl rfl ?_ | refine ro2 tabOk rfl rfl ?_ | refine ro3 tabOk rfl rfl ?_ | refine rd1 tabOk rfl rfl ?_ | refine rd2 tabOk rfl rfl ?_ | refine rd3 tabOk rfl rfl ?_ | ((first | apply oR rfl rfl | (apply dF rfl rfl rfl; intro _) | (apply dP rfl rfl rfl; intro _) | (apply dL rfl rfl rfl; intro _) | apply dC rfl rfl rfl rfl); (focus (first | exact cd [true] rfl rfl (EN rfl) (hmk) rfl rfl rfl rfl rfl rfl rfl rfl rfl rfl rfl | exact vcut nx rfl (EL rfl) (SZ rfl) rfl rfl rfl rfl rfl (by omega) | exact ct [] rfl rfl tw_mulAdd (hv) rfl rfl rfl rfl rfl rfl rfl rfl rfl rfl rfl | exact PO_vindex nx rfl (EL rfl) (SZ rfl) rfl rfl rfl (by omega) | exact cd [] rfl rfl (EN rfl) (hn) rfl rfl rfl rfl rfl rfl rfl rfl rfl rfl rfl | exact PO_asH (PO_store_mref rfl (SZ rfl) rfl rfl rfl rfl (by decide) rfl hz (Nat.le_refl _)) (congrArg (fun l => (⟨[], [], [AR gz wz, AR g ws, MO.arr 0 WT l]⟩ : PH)) (wsG_set.trans (congrArg wsG hfin))) | exact cJ | exact mG | exact bT | exact nD)); try exact kQ) | refine xS ?_ | refine xR ?_ | refine qxa rfl rfl mixed ?_ | refine qxb rfl rfl mixed ?_ | refine qxi rfl rfl rfl rfl rfl mixed ?_ | refine qxc rfl rfl mixed ?_ | refine qxd rfl rfl mixed ?_ | refine xB ?_ | refine xt rfl ?_ | refine xf rfl ?_))
  (first | refine Ret_box wN rfl rfl rfl rfl rfl rfl rfl rfl rfl ?_ ?_ ?_ rfl | refine Ret_box (wC vT wN) rfl rfl rfl rfl rfl rfl rfl rfl rfl ?_ ?_ ?_ rfl | refine Ret_box (wC (vA (AG rfl) (SZ rfl) rfl rfl (lB rfl)) wN) rfl rfl rfl rfl rfl rfl rfl rfl rfl ?_ ?_ ?_ rfl | refine Ret_box (wC vT (wC vT wN)) rfl rfl rfl rfl rfl rfl rfl rfl rfl ?_ ?_ ?_ rfl | refine Ret_box (wC (vA (AG rfl) (SZ rfl) rfl rfl (lB rfl)) (wC vT wN)) rfl rfl rfl rfl rfl rfl rfl rfl rfl ?_ ?_ ?_ rfl)
  all_goals rfl
end Go.Proofs.YtdicineiaifahaaGreatDoor


namespace Go.Proofs.YtdicineiaifahaaGreatDoor
open Go Go.Pure
attribute [local irreducible] PW POps POpsD PO PC Cond

set_option maxRecDepth 100000 in
set_option maxHeartbeats 4000000 in
/-- A square, made anew. -/
theorem sqr_nil {g nx c : Nat} {ws xs : List Nat} {stk : PV} (hv1 : (ws.drop 0).take nx = xs) (hl1 : nx ≤ ws.length) (hcx : nx ≤ c) (hcx1 : c ≤ ws.length) (hcx2 : c ≤ 1000000) (hx : okW xs) (h1 : 1 ≤ nx) (hm : nx < 12) :
    PC Tryz.prog 66 [.nils, .any, .vw 0 g 0 nx c] ⟨[], [], [AR g ws]⟩ (.vw 1 0 0 (dig (val xs * val xs)).length (nx + nx + 4)) ⟨[], [], [AR g ws, AR 0 (putL (List.replicate (nx + nx + 4) 0) 0 (padD (nx + nx) (val xs * val xs)))]⟩ := by
  have hl : nx = xs.length := by rw [← hv1]; simp; omega
  have hmul : IntKind.i64.wrap ((2 : Int) * (nx : Int)) = ((nx + nx : Nat) : Int) := by rw [w64 (by omega)]; omega
  have hmk := make_nil (n := nx + nx) (by omega) (by omega)
  rw [show capN (nx + nx) = nx + nx + 4 from by unfold capN; rw [if_neg (by omega)]] at hmk
  have hw0 : nx + nx ≤ ((List.replicate (nx + nx + 4) 0)).length := by rw [List.length_replicate]; omega
  have hpl := padD_length (nx + nx) (val xs * val xs)
  have hlt : val xs * val xs < WB ^ (nx + nx) := by
    have := prod_lt hx hx
    rwa [← hl] at this
  have hn := norm_pc (g := 0) (o := 0) (n := nx + nx) (cap := nx + nx + 4) (ws := putL (List.replicate (nx + nx + 4) 0) 0 (padD (nx + nx) (val xs * val xs))) (l := padD (nx + nx) (val xs * val xs)) (part0 hpl) (by rw [putL_length (by omega)]; omega) (by omega) (by unfold maxLen; omega)
  rw [nlen_padD hlt] at hn
  obtain ⟨q0, q1, R, hR⟩ := two_of (l := (List.replicate (nx + nx + 4) 0)) (by omega)
  by_cases hone : nx = 1
  · subst hone
    obtain ⟨d, hd⟩ : ∃ d, xs = [d] := by
      match xs, hl with
      | [d], _ => exact ⟨d, rfl⟩
    subst hd
    have hdw : d < WB := hx d (by simp)
    have hww := mulWW_pc hdw hdw
    have hg : (wsG ws)[0 + 0]? = some (wG d) := wsG_get (by
      have : ((ws.drop 0).take 1)[0]? = some d := by rw [hv1]; rfl
      rw [List.getElem?_take, if_pos (by omega), List.getElem?_drop] at this
      exact this)
    rw [show val [d] = d by simp [val], padD_two hdw] at hn ⊢
    have hput : putL (q0 :: q1 :: R) 0 [d * d % WB, d * d / WB] = d * d % WB :: d * d / WB :: R := by simp [putL]
    rw [hR] at hmk hn ⊢
    rw [hput] at hn ⊢
    refine PC_of_PW Tryz.func66 rfl rfl (rs := _) rfl (Nat.le_of_ble_eq_true (by kernel_rfl)) ?_
    (repeat (first | ((first | refine qA ?_ | refine qB ?_ | refine xN ?_ | refine xE ?_ | refine xT ?_); try show PW _ _ _ _ _ _) | refine ro1 tabOk rfl rfl ?_ | refine ro2 tabOk rfl rfl ?_ | refine ro3 tabOk rfl rfl ?_ | refine rd1 tabOk rfl rfl ?_ | refine rd2 tabOk rfl rfl ?_ | refine rd3 tabOk rfl rfl ?_ | ((first | apply oR rfl rfl | (apply dF rfl rfl rfl; intro _) | (apply dP rfl rfl rfl; intro _) | (apply dL rfl rfl rfl; intro _) | apply dC rfl rfl rfl rfl); (focus (first | exact PO_vlen rfl (EL rfl) rfl | exact PO_vindex 0 rfl (EL rfl) (SZ rfl) rfl rfl rfl (by decide) | exact PO_vindex 1 rfl (EL rfl) (SZ rfl) rfl rfl rfl (by decide) | exact PO_load_mref_one rfl (AG rfl) rfl rfl hg rfl | exact cd [true] rfl rfl (EN rfl) (hmk) rfl rfl rfl rfl rfl rfl rfl rfl rfl rfl rfl | exact cqP hww | exact PO_store_mref rfl (SZ rfl) rfl rfl rfl rfl (by decide) rfl rfl (Nat.le_refl _) | exact cd [] rfl rfl (EN rfl) (hn) rfl rfl rfl rfl rfl rfl rfl rfl rfl rfl rfl | exact cJ | exact mG | exact bT | exact nD)); try exact kQ) | refine xS ?_ | refine xR ?_ | refine qxa rfl rfl mixed ?_ | refine qxb rfl rfl mixed ?_ | refine qxi rfl rfl rfl rfl rfl mixed ?_ | refine qxc rfl rfl mixed ?_ | refine qxd rfl rfl mixed ?_ | refine xB ?_ | refine xt rfl ?_ | refine xf rfl ?_))
    (first | refine Ret_box wN rfl rfl rfl rfl rfl rfl rfl rfl rfl ?_ ?_ ?_ rfl | refine Ret_box (wC vT wN) rfl rfl rfl rfl rfl rfl rfl rfl rfl ?_ ?_ ?_ rfl | refine Ret_box (wC (vA (AG rfl) (SZ rfl) rfl rfl (lB rfl)) wN) rfl rfl rfl rfl rfl rfl rfl rfl rfl ?_ ?_ ?_ rfl | refine Ret_box (wC vT (wC vT wN)) rfl rfl rfl rfl rfl rfl rfl rfl rfl ?_ ?_ ?_ rfl | refine Ret_box (wC (vA (AG rfl) (SZ rfl) rfl rfl (lB rfl)) (wC vT wN)) rfl rfl rfl rfl rfl rfl rfl rfl rfl ?_ ?_ ?_ rfl)
    all_goals rfl
  · have hal := alias_nilv (m := AR g ws) (g := g) (o := 0) (n := nx) (c := c)
    have hb := basicMul_vpc (g := 0) (cap := nx + nx + 4) (g1 := g) (nx := nx) (c1 := c) (ws := (List.replicate (nx + nx + 4) 0)) (ws1 := ws) (xs := xs) hv1 hl1 (okW_rep _) hx hw0 (by omega) (by omega) h1
    rw [← hmul] at hmk
    refine PC_of_PW Tryz.func66 rfl rfl (rs := _) rfl (Nat.le_of_ble_eq_true (by kernel_rfl)) ?_
    (repeat' (first | (first | ((first | refine qA ?_ | refine qB ?_ | refine xN ?_ | refine xE ?_ | refine xT ?_); try show PW _ _ _ _ _ _) | refine ro1 tabOk rfl rfl ?_ | refine ro2 tabOk rfl rfl ?_ | refine ro3 tabOk rfl rfl ?_ | refine rd1 tabOk rfl rfl ?_ | refine rd2 tabOk rfl rfl ?_ | refine rd3 tabOk rfl rfl ?_ | ((first | apply oR rfl rfl | (apply dF rfl rfl rfl; intro _) | (apply dP rfl rfl rfl; intro _) | (apply dL rfl rfl rfl; intro _) | apply dC rfl rfl rfl rfl); (focus (first | exact PO_vlen rfl (EL rfl) rfl | exact cJ | exact mG | exact bT | exact nD)); try exact kQ) | refine xU [9] rfl ?_ | refine xR ?_ | refine qxa rfl rfl mixed ?_ | refine qxb rfl rfl mixed ?_ | refine qxi rfl rfl rfl rfl rfl mixed ?_ | refine qxc rfl rfl mixed ?_ | refine qxd rfl rfl mixed ?_ | refine xB ?_ | refine xt rfl ?_ | refine xf rfl ?_) | (refine POps_split rfl rfl (fun h => ?_) (fun h => ?_) <;> fail_if_success (first | (have : true = true := h) | (have : false = false := h))) | (refine POpsD_split rfl rfl (fun h => ?_) (fun h => ?_) <;> fail_if_success (first | (have : true = true := h) | (have : false = false := h))) | refine PW_cond rfl (fun h => ?_) (fun h => ?_)))
    all_goals (try (exfalso; have := of_decide_eq_true h; omega))
    try clear h
    (repeat' (first | (first | ((first | refine qA ?_ | refine qB ?_ | refine xN ?_ | refine xE ?_ | refine xT ?_); try show PW _ _ _ _ _ _) | refine ro1 tabOk rfl rfl ?_ | refine ro2 tabOk rfl rfl ?_ | refine ro3 tabOk rfl rfl ?_ | refine rd1 tabOk rfl rfl ?_ | refine rd2 tabOk rfl rfl ?_ | refine rd3 tabOk rfl rfl ?_ | ((first | apply oR rfl rfl | (apply dF rfl rfl rfl; intro _) | (apply dP rfl rfl rfl; intro _) | (apply dL rfl rfl rfl; intro _) | apply dC rfl rfl rfl rfl); (focus (first | exact PO_vlen rfl (EL rfl) rfl | exact cd [true] rfl rfl (EN rfl) (hal) rfl rfl rfl rfl rfl rfl rfl rfl rfl rfl rfl | exact cd [true] rfl rfl (EN rfl) (hmk) rfl rfl rfl rfl rfl rfl rfl rfl rfl rfl rfl | exact PO_loadg rfl (AG rfl) rfl rfl | exact cd [] rfl rfl (EN rfl) (hb) rfl rfl rfl rfl rfl rfl rfl rfl rfl rfl rfl | exact cd [] rfl rfl (EN rfl) (hn) rfl rfl rfl rfl rfl rfl rfl rfl rfl rfl rfl | exact cJ | exact mG | exact bT | exact nD)); try exact kQ) | refine xU [15] rfl ?_ | refine xR ?_ | refine qxa rfl rfl mixed ?_ | refine qxb rfl rfl mixed ?_ | refine qxi rfl rfl rfl rfl rfl mixed ?_ | refine qxc rfl rfl mixed ?_ | refine qxd rfl rfl mixed ?_ | refine xB ?_ | refine xt rfl ?_ | refine xf rfl ?_) | (refine POps_split rfl rfl (fun h => ?_) (fun h => ?_) <;> fail_if_success (first | (have : true = true := h) | (have : false = false := h))) | (refine POpsD_split rfl rfl (fun h => ?_) (fun h => ?_) <;> fail_if_success (first | (have : true = true := h) | (have : false = false := h))) | refine PW_cond rfl (fun h => ?_) (fun h => ?_)))
    all_goals (try (exfalso; have := of_decide_eq_false h; omega))
    (first | refine Ret_box wN rfl rfl rfl rfl rfl rfl rfl rfl rfl ?_ ?_ ?_ rfl | refine Ret_box (wC vT wN) rfl rfl rfl rfl rfl rfl rfl rfl rfl ?_ ?_ ?_ rfl | refine Ret_box (wC (vA (AG rfl) (SZ rfl) rfl rfl (lB rfl)) wN) rfl rfl rfl rfl rfl rfl rfl rfl rfl ?_ ?_ ?_ rfl | refine Ret_box (wC vT (wC vT wN)) rfl rfl rfl rfl rfl rfl rfl rfl rfl ?_ ?_ ?_ rfl | refine Ret_box (wC (vA (AG rfl) (SZ rfl) rfl rfl (lB rfl)) (wC vT wN)) rfl rfl rfl rfl rfl rfl rfl rfl rfl ?_ ?_ ?_ rfl)
    all_goals rfl

set_option maxRecDepth 100000 in
set_option maxHeartbeats 4000000 in
/-- A square, where there is room. -/
theorem sqr_in {gz lz cz g nx c : Nat} {wz ws xs : List Nat} {stk : PV} (hroom : nx + nx ≤ cz) (hcz : cz ≤ 1000000) (hwz : cz ≤ wz.length) (hwo : okW wz) (hv1 : (ws.drop 0).take nx = xs) (hl1 : nx ≤ ws.length) (hcx : nx ≤ c) (hcx1 : c ≤ ws.length) (hcx2 : c ≤ 1000000) (hx : okW xs) (h1 : 1 ≤ nx) (hm : nx < 12) :
    PC Tryz.prog 66 [.vw 0 gz 0 lz cz, .any, .vw 1 g 0 nx c] ⟨[], [], [AR gz wz, AR g ws]⟩ (.vw 0 gz 0 (dig (val xs * val xs)).length (cz)) ⟨[], [], [AR gz (putL wz 0 (padD (nx + nx) (val xs * val xs))), AR g ws]⟩ := by
  have hl : nx = xs.length := by rw [← hv1]; simp; omega
  have hmul : IntKind.i64.wrap ((2 : Int) * (nx : Int)) = ((nx + nx : Nat) : Int) := by rw [w64 (by omega)]; omega
  have hmk := make_in (n := nx + nx) (g := gz) (o := 0) (len := lz) (cap := cz) (m := AR gz wz) hroom
  skip
  have hw0 : nx + nx ≤ (wz).length := by omega
  have hpl := padD_length (nx + nx) (val xs * val xs)
  have hlt : val xs * val xs < WB ^ (nx + nx) := by
    have := prod_lt hx hx
    rwa [← hl] at this
  have hn := norm_pc (g := gz) (o := 0) (n := nx + nx) (cap := cz) (ws := putL wz 0 (padD (nx + nx) (val xs * val xs))) (l := padD (nx + nx) (val xs * val xs)) (part0 hpl) (by rw [putL_length (by omega)]; omega) (by omega) (by unfold maxLen; omega)
  rw [nlen_padD hlt] at hn
  obtain ⟨q0, q1, R, hR⟩ := two_of (l := wz) (by omega)
  by_cases hone : nx = 1
  · subst hone
    obtain ⟨d, hd⟩ : ∃ d, xs = [d] := by
      match xs, hl with
      | [d], _ => exact ⟨d, rfl⟩
    subst hd
    have hdw : d < WB := hx d (by simp)
    have hww := mulWW_pc hdw hdw
    have hg : (wsG ws)[0 + 0]? = some (wG d) := wsG_get (by
      have : ((ws.drop 0).take 1)[0]? = some d := by rw [hv1]; rfl
      rw [List.getElem?_take, if_pos (by omega), List.getElem?_drop] at this
      exact this)
    rw [show val [d] = d by simp [val], padD_two hdw] at hn ⊢
    have hput : putL (q0 :: q1 :: R) 0 [d * d % WB, d * d / WB] = d * d % WB :: d * d / WB :: R := by simp [putL]
    rw [hR] at hmk hn ⊢
    rw [hput] at hn ⊢
    refine PC_of_PW Tryz.func66 rfl rfl (rs := _) rfl (Nat.le_of_ble_eq_true (by kernel_rfl)) ?_
    (repeat (first | ((first | refine qA ?_ | refine qB ?_ | refine xN ?_ | refine xE ?_ | refine xT ?_); try show PW _ _ _ _ _ _) | refine ro1 tabOk rfl rfl ?_ | refine ro2 tabOk rfl rfl ?_ | refine ro3 tabOk rfl rfl ?_ | refine rd1 tabOk rfl rfl ?_ | refine rd2 tabOk rfl rfl ?_ | refine rd3 tabOk rfl rfl ?_ | ((first | apply oR rfl rfl | (apply dF rfl rfl rfl; intro _) | (apply dP rfl rfl rfl; intro _) | (apply dL rfl rfl rfl; intro _) | apply dC rfl rfl rfl rfl); (focus (first | exact PO_vlen rfl (EL rfl) rfl | exact PO_vindex 0 rfl (EL rfl) (SZ rfl) rfl rfl rfl (by decide) | exact PO_vindex 1 rfl (EL rfl) (SZ rfl) rfl rfl rfl (by decide) | exact PO_load_mref_one rfl (AG rfl) rfl rfl hg rfl | exact cd [true] rfl rfl (EN rfl) (hmk) rfl rfl rfl rfl rfl rfl rfl rfl rfl rfl rfl | exact cqP hww | exact PO_store_mref rfl (SZ rfl) rfl rfl rfl rfl (by decide) rfl rfl (Nat.le_refl _) | exact cd [] rfl rfl (EN rfl) (hn) rfl rfl rfl rfl rfl rfl rfl rfl rfl rfl rfl | exact cJ | exact mG | exact bT | exact nD)); try exact kQ) | refine xS ?_ | refine xR ?_ | refine qxa rfl rfl mixed ?_ | refine qxb rfl rfl mixed ?_ | refine qxi rfl rfl rfl rfl rfl mixed ?_ | refine qxc rfl rfl mixed ?_ | refine qxd rfl rfl mixed ?_ | refine xB ?_ | refine xt rfl ?_ | refine xf rfl ?_))
    (first | refine Ret_box wN rfl rfl rfl rfl rfl rfl rfl rfl rfl ?_ ?_ ?_ rfl | refine Ret_box (wC vT wN) rfl rfl rfl rfl rfl rfl rfl rfl rfl ?_ ?_ ?_ rfl | refine Ret_box (wC (vA (AG rfl) (SZ rfl) rfl rfl (lB rfl)) wN) rfl rfl rfl rfl rfl rfl rfl rfl rfl ?_ ?_ ?_ rfl | refine Ret_box (wC vT (wC vT wN)) rfl rfl rfl rfl rfl rfl rfl rfl rfl ?_ ?_ ?_ rfl | refine Ret_box (wC (vA (AG rfl) (SZ rfl) rfl rfl (lB rfl)) (wC vT wN)) rfl rfl rfl rfl rfl rfl rfl rfl rfl ?_ ?_ ?_ rfl)
    all_goals rfl
  · have hal := alias_two (g1 := gz) (n1 := lz) (c1 := cz) (g2 := g) (n2 := nx) (c2 := c) (ws1 := wz) (ws2 := ws) (by omega) (by omega) hwz hcx1 hcz hcx2
    have hb := basicMul_vpc (g := gz) (cap := cz) (g1 := g) (nx := nx) (c1 := c) (ws := wz) (ws1 := ws) (xs := xs) hv1 hl1 hwo hx hw0 (by omega) (by omega) h1
    rw [← hmul] at hmk
    refine PC_of_PW Tryz.func66 rfl rfl (rs := _) rfl (Nat.le_of_ble_eq_true (by kernel_rfl)) ?_
    (repeat' (first | (first | ((first | refine qA ?_ | refine qB ?_ | refine xN ?_ | refine xE ?_ | refine xT ?_); try show PW _ _ _ _ _ _) | refine ro1 tabOk rfl rfl ?_ | refine ro2 tabOk rfl rfl ?_ | refine ro3 tabOk rfl rfl ?_ | refine rd1 tabOk rfl rfl ?_ | refine rd2 tabOk rfl rfl ?_ | refine rd3 tabOk rfl rfl ?_ | ((first | apply oR rfl rfl | (apply dF rfl rfl rfl; intro _) | (apply dP rfl rfl rfl; intro _) | (apply dL rfl rfl rfl; intro _) | apply dC rfl rfl rfl rfl); (focus (first | exact PO_vlen rfl (EL rfl) rfl | exact cJ | exact mG | exact bT | exact nD)); try exact kQ) | refine xU [9] rfl ?_ | refine xR ?_ | refine qxa rfl rfl mixed ?_ | refine qxb rfl rfl mixed ?_ | refine qxi rfl rfl rfl rfl rfl mixed ?_ | refine qxc rfl rfl mixed ?_ | refine qxd rfl rfl mixed ?_ | refine xB ?_ | refine xt rfl ?_ | refine xf rfl ?_) | (refine POps_split rfl rfl (fun h => ?_) (fun h => ?_) <;> fail_if_success (first | (have : true = true := h) | (have : false = false := h))) | (refine POpsD_split rfl rfl (fun h => ?_) (fun h => ?_) <;> fail_if_success (first | (have : true = true := h) | (have : false = false := h))) | refine PW_cond rfl (fun h => ?_) (fun h => ?_)))
    all_goals (try (exfalso; have := of_decide_eq_true h; omega))
    try clear h
    (repeat' (first | (first | ((first | refine qA ?_ | refine qB ?_ | refine xN ?_ | refine xE ?_ | refine xT ?_); try show PW _ _ _ _ _ _) | refine ro1 tabOk rfl rfl ?_ | refine ro2 tabOk rfl rfl ?_ | refine ro3 tabOk rfl rfl ?_ | refine rd1 tabOk rfl rfl ?_ | refine rd2 tabOk rfl rfl ?_ | refine rd3 tabOk rfl rfl ?_ | ((first | apply oR rfl rfl | (apply dF rfl rfl rfl; intro _) | (apply dP rfl rfl rfl; intro _) | (apply dL rfl rfl rfl; intro _) | apply dC rfl rfl rfl rfl); (focus (first | exact PO_vlen rfl (EL rfl) rfl | exact cd [] rfl rfl (EN rfl) (hal) rfl rfl rfl rfl rfl rfl rfl rfl rfl rfl rfl | exact cd [true] rfl rfl (EN rfl) (hmk) rfl rfl rfl rfl rfl rfl rfl rfl rfl rfl rfl | exact PO_loadg rfl (AG rfl) rfl rfl | exact cd [] rfl rfl (EN rfl) (hb) rfl rfl rfl rfl rfl rfl rfl rfl rfl rfl rfl | exact cd [] rfl rfl (EN rfl) (hn) rfl rfl rfl rfl rfl rfl rfl rfl rfl rfl rfl | exact cJ | exact mG | exact bT | exact nD)); try exact kQ) | refine xU [15] rfl ?_ | refine xR ?_ | refine qxa rfl rfl mixed ?_ | refine qxb rfl rfl mixed ?_ | refine qxi rfl rfl rfl rfl rfl mixed ?_ | refine qxc rfl rfl mixed ?_ | refine qxd rfl rfl mixed ?_ | refine xB ?_ | refine xt rfl ?_ | refine xf rfl ?_) | (refine POps_split rfl rfl (fun h => ?_) (fun h => ?_) <;> fail_if_success (first | (have : true = true := h) | (have : false = false := h))) | (refine POpsD_split rfl rfl (fun h => ?_) (fun h => ?_) <;> fail_if_success (first | (have : true = true := h) | (have : false = false := h))) | refine PW_cond rfl (fun h => ?_) (fun h => ?_)))
    all_goals (try (exfalso; have := of_decide_eq_false h; omega))
    (first | refine Ret_box wN rfl rfl rfl rfl rfl rfl rfl rfl rfl ?_ ?_ ?_ rfl | refine Ret_box (wC vT wN) rfl rfl rfl rfl rfl rfl rfl rfl rfl ?_ ?_ ?_ rfl | refine Ret_box (wC (vA (AG rfl) (SZ rfl) rfl rfl (lB rfl)) wN) rfl rfl rfl rfl rfl rfl rfl rfl rfl ?_ ?_ ?_ rfl | refine Ret_box (wC vT (wC vT wN)) rfl rfl rfl rfl rfl rfl rfl rfl rfl ?_ ?_ ?_ rfl | refine Ret_box (wC (vA (AG rfl) (SZ rfl) rfl rfl (lB rfl)) (wC vT wN)) rfl rfl rfl rfl rfl rfl rfl rfl rfl ?_ ?_ ?_ rfl)
    all_goals rfl

set_option maxRecDepth 100000 in
set_option maxHeartbeats 4000000 in
/-- A square, where there is no room. -/
theorem sqr_out {gz lz cz g nx c : Nat} {wz ws xs : List Nat} {stk : PV} (hroom : cz < nx + nx) (hcz1 : 1 ≤ cz) (hcz : cz ≤ 1000000) (hwz : cz ≤ wz.length) (hv1 : (ws.drop 0).take nx = xs) (hl1 : nx ≤ ws.length) (hcx : nx ≤ c) (hcx1 : c ≤ ws.length) (hcx2 : c ≤ 1000000) (hx : okW xs) (h1 : 1 ≤ nx) (hm : nx < 12) :
    PC Tryz.prog 66 [.vw 0 gz 0 lz cz, .any, .vw 1 g 0 nx c] ⟨[], [], [AR gz wz, AR g ws]⟩ (.vw 2 0 0 (dig (val xs * val xs)).length (nx + nx + 4)) ⟨[], [], [AR gz wz, AR g ws, AR 0 (putL (List.replicate (nx + nx + 4) 0) 0 (padD (nx + nx) (val xs * val xs)))]⟩ := by
  have hl : nx = xs.length := by rw [← hv1]; simp; omega
  have hmul : IntKind.i64.wrap ((2 : Int) * (nx : Int)) = ((nx + nx : Nat) : Int) := by rw [w64 (by omega)]; omega
  have hmk := make_out (n := nx + nx) (g := gz) (o := 0) (len := lz) (cap := cz) (m := AR gz wz) (by omega) hroom (by omega)
  skip
  have hw0 : nx + nx ≤ ((List.replicate (nx + nx + 4) 0)).length := by rw [List.length_replicate]; omega
  have hpl := padD_length (nx + nx) (val xs * val xs)
  have hlt : val xs * val xs < WB ^ (nx + nx) := by
    have := prod_lt hx hx
    rwa [← hl] at this
  have hn := norm_pc (g := 0) (o := 0) (n := nx + nx) (cap := nx + nx + 4) (ws := putL (List.replicate (nx + nx + 4) 0) 0 (padD (nx + nx) (val xs * val xs))) (l := padD (nx + nx) (val xs * val xs)) (part0 hpl) (by rw [putL_length (by omega)]; omega) (by omega) (by unfold maxLen; omega)
  rw [nlen_padD hlt] at hn
  obtain ⟨q0, q1, R, hR⟩ := two_of (l := (List.replicate (nx + nx + 4) 0)) (by omega)
  by_cases hone : nx = 1
  · subst hone
    obtain ⟨d, hd⟩ : ∃ d, xs = [d] := by
      match xs, hl with
      | [d], _ => exact ⟨d, rfl⟩
    subst hd
    have hdw : d < WB := hx d (by simp)
    have hww := mulWW_pc hdw hdw
    have hg : (wsG ws)[0 + 0]? = some (wG d) := wsG_get (by
      have : ((ws.drop 0).take 1)[0]? = some d := by rw [hv1]; rfl
      rw [List.getElem?_take, if_pos (by omega), List.getElem?_drop] at this
      exact this)
    rw [show val [d] = d by simp [val], padD_two hdw] at hn ⊢
    have hput : putL (q0 :: q1 :: R) 0 [d * d % WB, d * d / WB] = d * d % WB :: d * d / WB :: R := by simp [putL]
    rw [hR] at hmk hn ⊢
    rw [hput] at hn ⊢
    refine PC_of_PW Tryz.func66 rfl rfl (rs := _) rfl (Nat.le_of_ble_eq_true (by kernel_rfl)) ?_
    (repeat (first | ((first | refine qA ?_ | refine qB ?_ | refine xN ?_ | refine xE ?_ | refine xT ?_); try show PW _ _ _ _ _ _) | refine ro1 tabOk rfl rfl ?_ | refine ro2 tabOk rfl rfl ?_ | refine ro3 tabOk rfl rfl ?_ | refine rd1 tabOk rfl rfl ?_ | refine rd2 tabOk rfl rfl ?_ | refine rd3 tabOk rfl rfl ?_ | ((first | apply oR rfl rfl | (apply dF rfl rfl rfl; intro _) | (apply dP rfl rfl rfl; intro _) | (apply dL rfl rfl rfl; intro _) | apply dC rfl rfl rfl rfl); (focus (first | exact PO_vlen rfl (EL rfl) rfl | exact PO_vindex 0 rfl (EL rfl) (SZ rfl) rfl rfl rfl (by decide) | exact PO_vindex 1 rfl (EL rfl) (SZ rfl) rfl rfl rfl (by decide) | exact PO_load_mref_one rfl (AG rfl) rfl rfl hg rfl | exact cd [true] rfl rfl (EN rfl) (hmk) rfl rfl rfl rfl rfl rfl rfl rfl rfl rfl rfl | exact cqP hww | exact PO_store_mref rfl (SZ rfl) rfl rfl rfl rfl (by decide) rfl rfl (Nat.le_refl _) | exact cd [] rfl rfl (EN rfl) (hn) rfl rfl rfl rfl rfl rfl rfl rfl rfl rfl rfl | exact cJ | exact mG | exact bT | exact nD)); try exact kQ) | refine xS ?_ | refine xR ?_ | refine qxa rfl rfl mixed ?_ | refine qxb rfl rfl mixed ?_ | refine qxi rfl rfl rfl rfl rfl mixed ?_ | refine qxc rfl rfl mixed ?_ | refine qxd rfl rfl mixed ?_ | refine xB ?_ | refine xt rfl ?_ | refine xf rfl ?_))
    (first | refine Ret_box wN rfl rfl rfl rfl rfl rfl rfl rfl rfl ?_ ?_ ?_ rfl | refine Ret_box (wC vT wN) rfl rfl rfl rfl rfl rfl rfl rfl rfl ?_ ?_ ?_ rfl | refine Ret_box (wC (vA (AG rfl) (SZ rfl) rfl rfl (lB rfl)) wN) rfl rfl rfl rfl rfl rfl rfl rfl rfl ?_ ?_ ?_ rfl | refine Ret_box (wC vT (wC vT wN)) rfl rfl rfl rfl rfl rfl rfl rfl rfl ?_ ?_ ?_ rfl | refine Ret_box (wC (vA (AG rfl) (SZ rfl) rfl rfl (lB rfl)) (wC vT wN)) rfl rfl rfl rfl rfl rfl rfl rfl rfl ?_ ?_ ?_ rfl)
    all_goals rfl
  · have hal := alias_two (g1 := gz) (n1 := lz) (c1 := cz) (g2 := g) (n2 := nx) (c2 := c) (ws1 := wz) (ws2 := ws) hcz1 (by omega) hwz hcx1 hcz hcx2
    have hb := basicMul_vpc (g := 0) (cap := nx + nx + 4) (g1 := g) (nx := nx) (c1 := c) (ws := (List.replicate (nx + nx + 4) 0)) (ws1 := ws) (xs := xs) hv1 hl1 (okW_rep _) hx hw0 (by omega) (by omega) h1
    rw [← hmul] at hmk
    refine PC_of_PW Tryz.func66 rfl rfl (rs := _) rfl (Nat.le_of_ble_eq_true (by kernel_rfl)) ?_
    (repeat' (first | (first | ((first | refine qA ?_ | refine qB ?_ | refine xN ?_ | refine xE ?_ | refine xT ?_); try show PW _ _ _ _ _ _) | refine ro1 tabOk rfl rfl ?_ | refine ro2 tabOk rfl rfl ?_ | refine ro3 tabOk rfl rfl ?_ | refine rd1 tabOk rfl rfl ?_ | refine rd2 tabOk rfl rfl ?_ | refine rd3 tabOk rfl rfl ?_ | ((first | apply oR rfl rfl | (apply dF rfl rfl rfl; intro _) | (apply dP rfl rfl rfl; intro _) | (apply dL rfl rfl rfl; intro _) | apply dC rfl rfl rfl rfl); (focus (first | exact PO_vlen rfl (EL rfl) rfl | exact cJ | exact mG | exact bT | exact nD)); try exact kQ) | refine xU [9] rfl ?_ | refine xR ?_ | refine qxa rfl rfl mixed ?_ | refine qxb rfl rfl mixed ?_ | refine qxi rfl rfl rfl rfl rfl mixed ?_ | refine qxc rfl rfl mixed ?_ | refine qxd rfl rfl mixed ?_ | refine xB ?_ | refine xt rfl ?_ | refine xf rfl ?_) | (refine POps_split rfl rfl (fun h => ?_) (fun h => ?_) <;> fail_if_success (first | (have : true = true := h) | (have : false = false := h))) | (refine POpsD_split rfl rfl (fun h => ?_) (fun h => ?_) <;> fail_if_success (first | (have : true = true := h) | (have : false = false := h))) | refine PW_cond rfl (fun h => ?_) (fun h => ?_)))
    all_goals (try (exfalso; have := of_decide_eq_true h; omega))
    try clear h
    (repeat' (first | (first | ((first | refine qA ?_ | refine qB ?_ | refine xN ?_ | refine xE ?_ | refine xT ?_); try show PW _ _ _ _ _ _) | refine ro1 tabOk rfl rfl ?_ | refine ro2 tabOk rfl rfl ?_ | refine ro3 tabOk rfl rfl ?_ | refine rd1 tabOk rfl rfl ?_ | refine rd2 tabOk rfl rfl ?_ | refine rd3 tabOk rfl rfl ?_ | ((first | apply oR rfl rfl | (apply dF rfl rfl rfl; intro _) | (apply dP rfl rfl rfl; intro _) | (apply dL rfl rfl rfl; intro _) | apply dC rfl rfl rfl rfl); (focus (first | exact PO_vlen rfl (EL rfl) rfl | exact cd [] rfl rfl (EN rfl) (hal) rfl rfl rfl rfl rfl rfl rfl rfl rfl rfl rfl | exact cd [true] rfl rfl (EN rfl) (hmk) rfl rfl rfl rfl rfl rfl rfl rfl rfl rfl rfl | exact PO_loadg rfl (AG rfl) rfl rfl | exact cd [] rfl rfl (EN rfl) (hb) rfl rfl rfl rfl rfl rfl rfl rfl rfl rfl rfl | exact cd [] rfl rfl (EN rfl) (hn) rfl rfl rfl rfl rfl rfl rfl rfl rfl rfl rfl | exact cJ | exact mG | exact bT | exact nD)); try exact kQ) | refine xU [15] rfl ?_ | refine xR ?_ | refine qxa rfl rfl mixed ?_ | refine qxb rfl rfl mixed ?_ | refine qxi rfl rfl rfl rfl rfl mixed ?_ | refine qxc rfl rfl mixed ?_ | refine qxd rfl rfl mixed ?_ | refine xB ?_ | refine xt rfl ?_ | refine xf rfl ?_) | (refine POps_split rfl rfl (fun h => ?_) (fun h => ?_) <;> fail_if_success (first | (have : true = true := h) | (have : false = false := h))) | (refine POpsD_split rfl rfl (fun h => ?_) (fun h => ?_) <;> fail_if_success (first | (have : true = true := h) | (have : false = false := h))) | refine PW_cond rfl (fun h => ?_) (fun h => ?_)))
    all_goals (try (exfalso; have := of_decide_eq_false h; omega))
    (first | refine Ret_box wN rfl rfl rfl rfl rfl rfl rfl rfl rfl ?_ ?_ ?_ rfl | refine Ret_box (wC vT wN) rfl rfl rfl rfl rfl rfl rfl rfl rfl ?_ ?_ ?_ rfl | refine Ret_box (wC (vA (AG rfl) (SZ rfl) rfl rfl (lB rfl)) wN) rfl rfl rfl rfl rfl rfl rfl rfl rfl ?_ ?_ ?_ rfl | refine Ret_box (wC vT (wC vT wN)) rfl rfl rfl rfl rfl rfl rfl rfl rfl ?_ ?_ ?_ rfl | refine Ret_box (wC (vA (AG rfl) (SZ rfl) rfl rfl (lB rfl)) (wC vT wN)) rfl rfl rfl rfl rfl rfl rfl rfl rfl ?_ ?_ ?_ rfl)
    all_goals rfl
end Go.Proofs.YtdicineiaifahaaGreatDoor


namespace Go.Proofs.YtdicineiaifahaaGreatDoor
open Go Go.Pure
attribute [local irreducible] PW POps POpsD PO PC Cond

set_option maxRecDepth 100000 in
set_option maxHeartbeats 4000000 in
/-- A number times one word, where there is room. -/
theorem mul_in {gz lz cz g nx c y : Nat} {wz ws xs : List Nat} (hv1 : (ws.drop 0).take nx = xs) (hl1 : nx ≤ ws.length) (hroom : nx + 1 ≤ cz) (hcz : cz ≤ 1000000) (hwz : cz ≤ wz.length) (hx : okW xs) (hy : y < WB) (hy0 : y ≠ 0) (h1 : 1 ≤ nx) (hm : nx ≤ 100000) :
    PC Tryz.prog 67 [.vw 0 gz 0 lz cz, .any, .vw 1 g 0 nx c, .g (.sl (wsG [y]))] ⟨[], [], [AR gz wz, AR g ws]⟩ (.vw 0 gz 0 (dig (val xs * y)).length cz) ⟨[], [], [AR gz (putL wz 0 (padD (nx + 1) (val xs * y))), AR g ws]⟩ := by
  have hc := mulAddWW_in (gz := gz) (lz := lz) (cz := cz) (g := g) (nx := nx) (c := c) (wz := wz) (ws := ws) (xs := xs) (y := y) hv1 hl1 hroom hcz hwz hx hy hy0 h1 hm
  refine PC_of_PW Tryz.func67 rfl rfl (rs := _) rfl (Nat.le_of_ble_eq_true (by kernel_rfl)) ?_
  (repeat' (first | (first | ((first | refine qA ?_ | refine qB ?_ | refine xN ?_ | refine xE ?_ | refine xT ?_); try show PW _ _ _ _ _ _) | refine ro1 tabOk rfl rfl ?_ | refine ro2 tabOk rfl rfl ?_ | refine ro3 tabOk rfl rfl ?_ | refine rd1 tabOk rfl rfl ?_ | refine rd2 tabOk rfl rfl ?_ | refine rd3 tabOk rfl rfl ?_ | ((first | apply oR rfl rfl | (apply dF rfl rfl rfl; intro _) | (apply dP rfl rfl rfl; intro _) | (apply dL rfl rfl rfl; intro _) | apply dC rfl rfl rfl rfl); (focus (first | exact PO_vlen rfl (EL rfl) rfl | exact iA (g := wG y) rfl (EL rfl) (SZ rfl) rfl rfl (by decide) rfl rfl | exact cd [] rfl rfl (EN rfl) (hc) rfl rfl rfl rfl rfl rfl rfl rfl rfl rfl rfl | exact cJ | exact mG | exact bT | exact nD)); try exact kQ) | refine xU [9] rfl ?_ | refine xR ?_ | refine qxa rfl rfl mixed ?_ | refine qxb rfl rfl mixed ?_ | refine qxi rfl rfl rfl rfl rfl mixed ?_ | refine qxc rfl rfl mixed ?_ | refine qxd rfl rfl mixed ?_ | refine xB ?_ | refine xt rfl ?_ | refine xf rfl ?_) | (refine POps_split rfl rfl (fun h => ?_) (fun h => ?_) <;> fail_if_success (first | (have : true = true := h) | (have : false = false := h))) | (refine POpsD_split rfl rfl (fun h => ?_) (fun h => ?_) <;> fail_if_success (first | (have : true = true := h) | (have : false = false := h))) | refine PW_cond rfl (fun h => ?_) (fun h => ?_)))
  all_goals (try (exfalso; have hh := of_decide_eq_true h; first | omega | (simp only [wsG_length, List.length_cons, List.length_nil] at hh; omega)))
  all_goals (try (exfalso; have hh := of_decide_eq_false h; first | omega | (simp only [wsG_length, List.length_cons, List.length_nil] at hh; omega)))
  (first | refine Ret_box wN rfl rfl rfl rfl rfl rfl rfl rfl rfl ?_ ?_ ?_ rfl | refine Ret_box (wC vT wN) rfl rfl rfl rfl rfl rfl rfl rfl rfl ?_ ?_ ?_ rfl | refine Ret_box (wC (vA (AG rfl) (SZ rfl) rfl rfl (lB rfl)) wN) rfl rfl rfl rfl rfl rfl rfl rfl rfl ?_ ?_ ?_ rfl | refine Ret_box (wC vT (wC vT wN)) rfl rfl rfl rfl rfl rfl rfl rfl rfl ?_ ?_ ?_ rfl | refine Ret_box (wC (vA (AG rfl) (SZ rfl) rfl rfl (lB rfl)) (wC vT wN)) rfl rfl rfl rfl rfl rfl rfl rfl rfl ?_ ?_ ?_ rfl)
  all_goals rfl

set_option maxRecDepth 100000 in
set_option maxHeartbeats 4000000 in
/-- A number times one word, where there is no room. -/
theorem mul_out {gz lz cz g nx c y : Nat} {wz ws xs : List Nat} (hv1 : (ws.drop 0).take nx = xs) (hl1 : nx ≤ ws.length) (hroom : cz < nx + 1) (hx : okW xs) (hy : y < WB) (hy0 : y ≠ 0) (h1 : 1 ≤ nx) (hm : nx ≤ 100000) :
    PC Tryz.prog 67 [.vw 0 gz 0 lz cz, .any, .vw 1 g 0 nx c, .g (.sl (wsG [y]))] ⟨[], [], [AR gz wz, AR g ws]⟩ (.vw 2 0 0 (dig (val xs * y)).length (nx + 1 + 4)) ⟨[], [], [AR gz wz, AR g ws, AR 0 (putL (List.replicate (nx + 1 + 4) 0) 0 (padD (nx + 1) (val xs * y)))]⟩ := by
  have hc := mulAddWW_out (gz := gz) (lz := lz) (cz := cz) (g := g) (nx := nx) (c := c) (wz := wz) (ws := ws) (xs := xs) (y := y) hv1 hl1 hroom hx hy hy0 h1 hm
  refine PC_of_PW Tryz.func67 rfl rfl (rs := _) rfl (Nat.le_of_ble_eq_true (by kernel_rfl)) ?_
  (repeat' (first | (first | ((first | refine qA ?_ | refine qB ?_ | refine xN ?_ | refine xE ?_ | refine xT ?_); try show PW _ _ _ _ _ _) | refine ro1 tabOk rfl rfl ?_ | refine ro2 tabOk rfl rfl ?_ | refine ro3 tabOk rfl rfl ?_ | refine rd1 tabOk rfl rfl ?_ | refine rd2 tabOk rfl rfl ?_ | refine rd3 tabOk rfl rfl ?_ | ((first | apply oR rfl rfl | (apply dF rfl rfl rfl; intro _) | (apply dP rfl rfl rfl; intro _) | (apply dL rfl rfl rfl; intro _) | apply dC rfl rfl rfl rfl); (focus (first | exact PO_vlen rfl (EL rfl) rfl | exact iA (g := wG y) rfl (EL rfl) (SZ rfl) rfl rfl (by decide) rfl rfl | exact cd [] rfl rfl (EN rfl) (hc) rfl rfl rfl rfl rfl rfl rfl rfl rfl rfl rfl | exact cJ | exact mG | exact bT | exact nD)); try exact kQ) | refine xU [9] rfl ?_ | refine xR ?_ | refine qxa rfl rfl mixed ?_ | refine qxb rfl rfl mixed ?_ | refine qxi rfl rfl rfl rfl rfl mixed ?_ | refine qxc rfl rfl mixed ?_ | refine qxd rfl rfl mixed ?_ | refine xB ?_ | refine xt rfl ?_ | refine xf rfl ?_) | (refine POps_split rfl rfl (fun h => ?_) (fun h => ?_) <;> fail_if_success (first | (have : true = true := h) | (have : false = false := h))) | (refine POpsD_split rfl rfl (fun h => ?_) (fun h => ?_) <;> fail_if_success (first | (have : true = true := h) | (have : false = false := h))) | refine PW_cond rfl (fun h => ?_) (fun h => ?_)))
  all_goals (try (exfalso; have hh := of_decide_eq_true h; first | omega | (simp only [wsG_length, List.length_cons, List.length_nil] at hh; omega)))
  all_goals (try (exfalso; have hh := of_decide_eq_false h; first | omega | (simp only [wsG_length, List.length_cons, List.length_nil] at hh; omega)))
  (first | refine Ret_box wN rfl rfl rfl rfl rfl rfl rfl rfl rfl ?_ ?_ ?_ rfl | refine Ret_box (wC vT wN) rfl rfl rfl rfl rfl rfl rfl rfl rfl ?_ ?_ ?_ rfl | refine Ret_box (wC (vA (AG rfl) (SZ rfl) rfl rfl (lB rfl)) wN) rfl rfl rfl rfl rfl rfl rfl rfl rfl ?_ ?_ ?_ rfl | refine Ret_box (wC vT (wC vT wN)) rfl rfl rfl rfl rfl rfl rfl rfl rfl ?_ ?_ ?_ rfl | refine Ret_box (wC (vA (AG rfl) (SZ rfl) rfl rfl (lB rfl)) (wC vT wN)) rfl rfl rfl rfl rfl rfl rfl rfl rfl ?_ ?_ ?_ rfl)
  all_goals rfl

theorem dig_wlen (X : Nat) : (wsG (dig X)).length = (dig X).length := wsG_length _
theorem dig_len_pos {X : Nat} (h : X ≠ 0) : 1 ≤ (wsG (dig X)).length := by
  rw [dig_wlen]
  cases hd : dig X with
  | nil => exact absurd (dig_nil hd) h
  | cons a l => simp
theorem dig_one_of {X : Nat} (h : (wsG (dig X)).length = 1) : X < WB ∧ dig X = [X] := by
  rw [dig_wlen] at h
  obtain ⟨d, hd⟩ : ∃ d, dig X = [d] := by
    match hx : dig X, h with
    | [d], _ => exact ⟨d, rfl⟩
  have := val_dig X
  rw [hd] at this
  simp [val] at this
  subst this
  exact ⟨by have := okW_dig d; rw [hd] at this; exact this d (by simp), hd⟩

set_option maxRecDepth 100000 in
set_option maxHeartbeats 8000000 in
/-- A product, made anew: the longer one first. -/
theorem mul_ge {X Y : Nat} (hX : X ≠ 0) (hY : Y ≠ 0) (hge : (wsG (dig Y)).length ≤ (wsG (dig X)).length) (hm : (wsG (dig X)).length ≤ 30) :
    PC Tryz.prog 67 [.nils, .any, .g (.sl (wsG (dig X))), .g (.sl (wsG (dig Y)))] ⟨[], [], []⟩ (.vw 0 0 0 (dig (X * Y)).length ((wsG (dig X)).length + (wsG (dig Y)).length + 4)) ⟨[], [], [AR 0 (putL (List.replicate ((wsG (dig X)).length + (wsG (dig Y)).length + 4) 0) 0 (padD ((wsG (dig X)).length + (wsG (dig Y)).length) (X * Y)))]⟩ := by
  have hX1 := dig_len_pos hX
  have hY1 := dig_len_pos hY
  by_cases hone : (wsG (dig Y)).length = 1
  · obtain ⟨hyw, hyd⟩ := dig_one_of hone
    have hc := mulAddWW_g (xs := dig X) (y := Y) (okW_dig X) hyw hY hX1 (by omega)
    rw [val_dig] at hc
    rw [hone, hyd]
    rw [hyd] at hge hY1 hone
    generalize dig X = xs at *
    generalize dig (X * Y) = zs at *
    refine PC_of_PW Tryz.func67 rfl rfl (rs := _) rfl (Nat.le_of_ble_eq_true (by kernel_rfl)) ?_
    (repeat' (first | (first | ((first | refine qA ?_ | refine qB ?_ | refine xN ?_ | refine xE ?_ | refine xT ?_); try show PW _ _ _ _ _ _) | refine ro1 tabOk rfl rfl ?_ | refine ro2 tabOk rfl rfl ?_ | refine ro3 tabOk rfl rfl ?_ | refine rd1 tabOk rfl rfl ?_ | refine rd2 tabOk rfl rfl ?_ | refine rd3 tabOk rfl rfl ?_ | ((first | apply oR rfl rfl | (apply dF rfl rfl rfl; intro _) | (apply dP rfl rfl rfl; intro _) | (apply dL rfl rfl rfl; intro _) | apply dC rfl rfl rfl rfl); (focus (first | exact iA (g := wG Y) rfl (EL rfl) (SZ rfl) rfl rfl (by decide) rfl rfl | exact cd [true] rfl rfl (EN rfl) (hc) rfl rfl rfl rfl rfl rfl rfl rfl rfl rfl rfl | exact cJ | exact mG | exact bT | exact nD)); try exact kQ) | refine xU [9] rfl ?_ | refine xR ?_ | refine qxa rfl rfl mixed ?_ | refine qxb rfl rfl mixed ?_ | refine qxi rfl rfl rfl rfl rfl mixed ?_ | refine qxc rfl rfl mixed ?_ | refine qxd rfl rfl mixed ?_ | refine xB ?_ | refine xt rfl ?_ | refine xf rfl ?_) | (refine POps_split rfl rfl (fun h => ?_) (fun h => ?_) <;> fail_if_success (first | (have : true = true := h) | (have : false = false := h))) | (refine POpsD_split rfl rfl (fun h => ?_) (fun h => ?_) <;> fail_if_success (first | (have : true = true := h) | (have : false = false := h))) | refine PW_cond rfl (fun h => ?_) (fun h => ?_)))
    all_goals (try (exfalso; have hh := of_decide_eq_true h; first | omega | (simp only [wsG_length, List.length_cons, List.length_nil] at hh; omega)))
    all_goals (try (exfalso; have hh := of_decide_eq_false h; first | omega | (simp only [wsG_length, List.length_cons, List.length_nil] at hh; omega)))
    (first | refine Ret_box wN rfl rfl rfl rfl rfl rfl rfl rfl rfl ?_ ?_ ?_ rfl | refine Ret_box (wC vT wN) rfl rfl rfl rfl rfl rfl rfl rfl rfl ?_ ?_ ?_ rfl | refine Ret_box (wC (vA (AG rfl) (SZ rfl) rfl rfl (lB rfl)) wN) rfl rfl rfl rfl rfl rfl rfl rfl rfl ?_ ?_ ?_ rfl | refine Ret_box (wC vT (wC vT wN)) rfl rfl rfl rfl rfl rfl rfl rfl rfl ?_ ?_ ?_ rfl | refine Ret_box (wC (vA (AG rfl) (SZ rfl) rfl rfl (lB rfl)) (wC vT wN)) rfl rfl rfl rfl rfl rfl rfl rfl rfl ?_ ?_ ?_ rfl)
    all_goals rfl
  · have hXo := okW_dig X
    have hYo := okW_dig Y
    have hXl := dig_wlen X
    have hYl := dig_wlen Y
    have hvX := val_dig X
    have hvY := val_dig Y
    have hprod := prod_lt hXo hYo
    rw [hvX, hvY, ← hXl, ← hYl] at hprod
    have hb := basicMul_pc (g := 0) (cap := (wsG (dig X)).length + (wsG (dig Y)).length + 4) (ws := List.replicate ((wsG (dig X)).length + (wsG (dig Y)).length + 4) 0) (xs := dig X) (ys := dig Y) (okW_rep _) hXo hYo (by rw [List.length_replicate]; omega) (by omega) (by omega) hX1
    rw [hvX, hvY] at hb
    have hpl := padD_length ((wsG (dig X)).length + (wsG (dig Y)).length) (X * Y)
    have hn := norm_pc (g := 0) (o := 0) (n := (wsG (dig X)).length + (wsG (dig Y)).length) (cap := (wsG (dig X)).length + (wsG (dig Y)).length + 4) (ws := putL (List.replicate ((wsG (dig X)).length + (wsG (dig Y)).length + 4) 0) 0 (padD ((wsG (dig X)).length + (wsG (dig Y)).length) (X * Y))) (l := padD ((wsG (dig X)).length + (wsG (dig Y)).length) (X * Y)) (part0 hpl) (by rw [putL_length (by rw [List.length_replicate]; omega), List.length_replicate]; omega) (by omega) (by unfold maxLen; omega)
    rw [nlen_padD hprod] at hn
    have hmk := make_nil (n := (wsG (dig X)).length + (wsG (dig Y)).length) (by omega) (by omega)
    rw [show capN ((wsG (dig X)).length + (wsG (dig Y)).length) = (wsG (dig X)).length + (wsG (dig Y)).length + 4 from by unfold capN; rw [if_neg (by omega)]] at hmk
    have hadd : IntKind.i64.wrap (((wsG (dig X)).length : Int) + ((wsG (dig Y)).length : Int)) = (((wsG (dig X)).length + (wsG (dig Y)).length : Nat) : Int) := by rw [w64 (by omega)]; omega
    rw [← hadd] at hmk
    have hal1 := alias_nil (p := .g (.sl (wsG (dig X))))
    have hal2 := alias_nil (p := .g (.sl (wsG (dig Y))))
    generalize dig X = xs at *
    generalize dig Y = ys at *
    generalize dig (X * Y) = zs at *
    refine PC_of_PW Tryz.func67 rfl rfl (rs := _) rfl (Nat.le_of_ble_eq_true (by kernel_rfl)) ?_
    (repeat' (first | (first | ((first | refine qA ?_ | refine qB ?_ | refine xN ?_ | refine xE ?_ | refine xT ?_); try show PW _ _ _ _ _ _) | refine ro1 tabOk rfl rfl ?_ | refine ro2 tabOk rfl rfl ?_ | refine ro3 tabOk rfl rfl ?_ | refine rd1 tabOk rfl rfl ?_ | refine rd2 tabOk rfl rfl ?_ | refine rd3 tabOk rfl rfl ?_ | ((first | apply oR rfl rfl | (apply dF rfl rfl rfl; intro _) | (apply dP rfl rfl rfl; intro _) | (apply dL rfl rfl rfl; intro _) | apply dC rfl rfl rfl rfl); (focus (first | exact cJ | exact mG | exact bT | exact nD)); try exact kQ) | refine xU [9] rfl ?_ | refine xR ?_ | refine qxa rfl rfl mixed ?_ | refine qxb rfl rfl mixed ?_ | refine qxi rfl rfl rfl rfl rfl mixed ?_ | refine qxc rfl rfl mixed ?_ | refine qxd rfl rfl mixed ?_ | refine xB ?_ | refine xt rfl ?_ | refine xf rfl ?_) | (refine POps_split rfl rfl (fun h => ?_) (fun h => ?_) <;> fail_if_success (first | (have : true = true := h) | (have : false = false := h))) | (refine POpsD_split rfl rfl (fun h => ?_) (fun h => ?_) <;> fail_if_success (first | (have : true = true := h) | (have : false = false := h))) | refine PW_cond rfl (fun h => ?_) (fun h => ?_)))
    all_goals (try (exfalso; have hh := of_decide_eq_true h; first | omega | (simp only [wsG_length, List.length_cons, List.length_nil] at hh; omega)))
    try clear h
    (repeat' (first | (first | ((first | refine qA ?_ | refine qB ?_ | refine xN ?_ | refine xE ?_ | refine xT ?_); try show PW _ _ _ _ _ _) | refine ro1 tabOk rfl rfl ?_ | refine ro2 tabOk rfl rfl ?_ | refine ro3 tabOk rfl rfl ?_ | refine rd1 tabOk rfl rfl ?_ | refine rd2 tabOk rfl rfl ?_ | refine rd3 tabOk rfl rfl ?_ | ((first | apply oR rfl rfl | (apply dF rfl rfl rfl; intro _) | (apply dP rfl rfl rfl; intro _) | (apply dL rfl rfl rfl; intro _) | apply dC rfl rfl rfl rfl); (focus (first | exact cb [true] rfl rfl (EN rfl) (hal1) rfl rfl rfl rfl rfl rfl rfl rfl rfl rfl rfl | exact cb [true] rfl rfl (EN rfl) (hal2) rfl rfl rfl rfl rfl rfl rfl rfl rfl rfl rfl | exact cd [true] rfl rfl (EN rfl) (hmk) rfl rfl rfl rfl rfl rfl rfl rfl rfl rfl rfl | exact PO_loadg rfl (AG rfl) rfl rfl | exact cd [] rfl rfl (EN rfl) (hb) rfl rfl rfl rfl rfl rfl rfl rfl rfl rfl rfl | exact cd [] rfl rfl (EN rfl) (hn) rfl rfl rfl rfl rfl rfl rfl rfl rfl rfl rfl | exact cJ | exact mG | exact bT | exact nD)); try exact kQ) | refine xU [15] rfl ?_ | refine xR ?_ | refine qxa rfl rfl mixed ?_ | refine qxb rfl rfl mixed ?_ | refine qxi rfl rfl rfl rfl rfl mixed ?_ | refine qxc rfl rfl mixed ?_ | refine qxd rfl rfl mixed ?_ | refine xB ?_ | refine xt rfl ?_ | refine xf rfl ?_) | (refine POps_split rfl rfl (fun h => ?_) (fun h => ?_) <;> fail_if_success (first | (have : true = true := h) | (have : false = false := h))) | (refine POpsD_split rfl rfl (fun h => ?_) (fun h => ?_) <;> fail_if_success (first | (have : true = true := h) | (have : false = false := h))) | refine PW_cond rfl (fun h => ?_) (fun h => ?_)))
    all_goals (try (exfalso; have hh := of_decide_eq_false h; first | omega | (simp only [wsG_length, List.length_cons, List.length_nil] at hh; omega)))
    (first | refine Ret_box wN rfl rfl rfl rfl rfl rfl rfl rfl rfl ?_ ?_ ?_ rfl | refine Ret_box (wC vT wN) rfl rfl rfl rfl rfl rfl rfl rfl rfl ?_ ?_ ?_ rfl | refine Ret_box (wC (vA (AG rfl) (SZ rfl) rfl rfl (lB rfl)) wN) rfl rfl rfl rfl rfl rfl rfl rfl rfl ?_ ?_ ?_ rfl | refine Ret_box (wC vT (wC vT wN)) rfl rfl rfl rfl rfl rfl rfl rfl rfl ?_ ?_ ?_ rfl | refine Ret_box (wC (vA (AG rfl) (SZ rfl) rfl rfl (lB rfl)) (wC vT wN)) rfl rfl rfl rfl rfl rfl rfl rfl rfl ?_ ?_ ?_ rfl)
    all_goals rfl

/-- What a product leaves: its words, its room. -/
def prodW (X Y : Nat) : List Nat := putL (List.replicate ((wsG (dig X)).length + (wsG (dig Y)).length + 4) 0) 0 (padD ((wsG (dig X)).length + (wsG (dig Y)).length) (X * Y))
theorem prodW_comm (X Y : Nat) : prodW X Y = prodW Y X := by
  unfold prodW
  rw [Nat.add_comm (wsG (dig X)).length, Nat.mul_comm X]
theorem prodW_take (X Y : Nat) : (prodW X Y).take (dig (X * Y)).length = dig (X * Y) := by
  unfold prodW
  have hp := prod_lt (okW_dig X) (okW_dig Y)
  rw [val_dig, val_dig, ← dig_wlen X, ← dig_wlen Y] at hp
  have hpl := padD_length ((wsG (dig X)).length + (wsG (dig Y)).length) (X * Y)
  have hl := dig_length_le hp
  rw [putL_zero, List.take_append_of_le_length (by omega)]
  exact take_padD hp
set_option maxRecDepth 100000 in
set_option maxHeartbeats 8000000 in
theorem mul_g {X Y : Nat} (hX : X ≠ 0) (hY : Y ≠ 0) (hm : (wsG (dig X)).length ≤ 30) (hm2 : (wsG (dig Y)).length ≤ 30) :
    PC Tryz.prog 67 [.nils, .any, .g (.sl (wsG (dig X))), .g (.sl (wsG (dig Y)))] ⟨[], [], []⟩ (.vw 0 0 0 (dig (X * Y)).length ((wsG (dig X)).length + (wsG (dig Y)).length + 4)) ⟨[], [], [AR 0 (prodW X Y)]⟩ := by
  by_cases hge : (wsG (dig Y)).length ≤ (wsG (dig X)).length
  · exact mul_ge hX hY hge hm
  · have hc := mul_ge hY hX (by omega) hm2
    rw [show putL (List.replicate ((wsG (dig Y)).length + (wsG (dig X)).length + 4) 0) 0 (padD ((wsG (dig Y)).length + (wsG (dig X)).length) (Y * X)) = prodW X Y from prodW_comm Y X, Nat.mul_comm Y X, Nat.add_comm (wsG (dig Y)).length] at hc
    generalize prodW X Y = pw at *
    generalize dig X = xs at *
    generalize dig Y = ys at *
    generalize dig (X * Y) = zs at *
    refine PC_of_PW Tryz.func67 rfl rfl (rs := _) rfl (Nat.le_of_ble_eq_true (by kernel_rfl)) ?_
    (repeat (first | ((first | refine qA ?_ | refine qB ?_ | refine xN ?_ | refine xE ?_ | refine xT ?_); try show PW _ _ _ _ _ _) | refine ro1 tabOk rfl rfl ?_ | refine ro2 tabOk rfl rfl ?_ | refine ro3 tabOk rfl rfl ?_ | refine rd1 tabOk rfl rfl ?_ | refine rd2 tabOk rfl rfl ?_ | refine rd3 tabOk rfl rfl ?_ | ((first | apply oR rfl rfl | (apply dF rfl rfl rfl; intro _) | (apply dP rfl rfl rfl; intro _) | (apply dL rfl rfl rfl; intro _) | apply dC rfl rfl rfl rfl); (focus (first | exact cJ | exact mG | exact bT | exact nD)); try exact kQ) | refine xS ?_ | refine xR ?_ | refine qxa rfl rfl mixed ?_ | refine qxb rfl rfl mixed ?_ | refine qxi rfl rfl rfl rfl rfl mixed ?_ | refine qxc rfl rfl mixed ?_ | refine qxd rfl rfl mixed ?_ | refine xB ?_ | refine xt rfl ?_ | refine xf rfl ?_))
    (first | refine POps_split rfl rfl (fun h => ?_) (fun h => ?_) | refine POpsD_split rfl rfl (fun h => ?_) (fun h => ?_) | refine PW_cond rfl (fun h => ?_) (fun h => ?_))
    · (repeat (first | ((first | refine qA ?_ | refine qB ?_ | refine xN ?_ | refine xE ?_ | refine xT ?_); try show PW _ _ _ _ _ _) | refine ro1 tabOk rfl rfl ?_ | refine ro2 tabOk rfl rfl ?_ | refine ro3 tabOk rfl rfl ?_ | refine rd1 tabOk rfl rfl ?_ | refine rd2 tabOk rfl rfl ?_ | refine rd3 tabOk rfl rfl ?_ | ((first | apply oR rfl rfl | (apply dF rfl rfl rfl; intro _) | (apply dP rfl rfl rfl; intro _) | (apply dL rfl rfl rfl; intro _) | apply dC rfl rfl rfl rfl); (focus (first | exact cd [true] rfl rfl (EN rfl) (hc) rfl rfl rfl rfl rfl rfl rfl rfl rfl rfl rfl | exact cJ | exact mG | exact bT | exact nD)); try exact kQ) | refine xS ?_ | refine xR ?_ | refine qxa rfl rfl mixed ?_ | refine qxb rfl rfl mixed ?_ | refine qxi rfl rfl rfl rfl rfl mixed ?_ | refine qxc rfl rfl mixed ?_ | refine qxd rfl rfl mixed ?_ | refine xB ?_ | refine xt rfl ?_ | refine xf rfl ?_))
      (first | refine Ret_box wN rfl rfl rfl rfl rfl rfl rfl rfl rfl ?_ ?_ ?_ rfl | refine Ret_box (wC vT wN) rfl rfl rfl rfl rfl rfl rfl rfl rfl ?_ ?_ ?_ rfl | refine Ret_box (wC (vA (AG rfl) (SZ rfl) rfl rfl (lB rfl)) wN) rfl rfl rfl rfl rfl rfl rfl rfl rfl ?_ ?_ ?_ rfl | refine Ret_box (wC vT (wC vT wN)) rfl rfl rfl rfl rfl rfl rfl rfl rfl ?_ ?_ ?_ rfl | refine Ret_box (wC (vA (AG rfl) (SZ rfl) rfl rfl (lB rfl)) (wC vT wN)) rfl rfl rfl rfl rfl rfl rfl rfl rfl ?_ ?_ ?_ rfl)
      all_goals rfl
    · exfalso; have hh := of_decide_eq_false h; omega
set_option maxRecDepth 100000 in
set_option maxHeartbeats 8000000 in
theorem mul_z {X Y : Nat} (h0 : X = 0 ∨ Y = 0) : PC Tryz.prog 67 [.nils, .any, .g (.sl (wsG (dig X))), .g (.sl (wsG (dig Y)))] ⟨[], [], []⟩ .nils ⟨[], [], []⟩ := by
  have key : ∀ ys xs : List Nat, (wsG xs).length = 0 ∨ (wsG ys).length = 0 → (wsG ys).length ≤ (wsG xs).length → PC Tryz.prog 67 [.nils, .any, .g (.sl (wsG xs)), .g (.sl (wsG ys))] ⟨[], [], []⟩ .nils ⟨[], [], []⟩ := by
    intro ys xs h0 hle
    refine PC_of_PW Tryz.func67 rfl rfl (rs := _) rfl (Nat.le_of_ble_eq_true (by kernel_rfl)) ?_
    (repeat' (first | (first | ((first | refine qA ?_ | refine qB ?_ | refine xN ?_ | refine xE ?_ | refine xT ?_); try show PW _ _ _ _ _ _) | refine ro1 tabOk rfl rfl ?_ | refine ro2 tabOk rfl rfl ?_ | refine ro3 tabOk rfl rfl ?_ | refine rd1 tabOk rfl rfl ?_ | refine rd2 tabOk rfl rfl ?_ | refine rd3 tabOk rfl rfl ?_ | ((first | apply oR rfl rfl | (apply dF rfl rfl rfl; intro _) | (apply dP rfl rfl rfl; intro _) | (apply dL rfl rfl rfl; intro _) | apply dC rfl rfl rfl rfl); (focus (first | exact PO_nslice rfl (EL rfl) (SZ rfl) rfl rfl rfl rfl rfl | exact cJ | exact mG | exact bT | exact nD)); try exact kQ) | refine xU [7] rfl ?_ | refine xR ?_ | refine qxa rfl rfl mixed ?_ | refine qxb rfl rfl mixed ?_ | refine qxi rfl rfl rfl rfl rfl mixed ?_ | refine qxc rfl rfl mixed ?_ | refine qxd rfl rfl mixed ?_ | refine xB ?_ | refine xt rfl ?_ | refine xf rfl ?_) | (refine POps_split rfl rfl (fun h => ?_) (fun h => ?_) <;> fail_if_success (first | (have : true = true := h) | (have : false = false := h))) | (refine POpsD_split rfl rfl (fun h => ?_) (fun h => ?_) <;> fail_if_success (first | (have : true = true := h) | (have : false = false := h))) | refine PW_cond rfl (fun h => ?_) (fun h => ?_)))
    all_goals (try (exfalso; have hh := of_decide_eq_true h; omega))
    all_goals (first | ((first | refine Ret_box wN rfl rfl rfl rfl rfl rfl rfl rfl rfl ?_ ?_ ?_ rfl | refine Ret_box (wC vT wN) rfl rfl rfl rfl rfl rfl rfl rfl rfl ?_ ?_ ?_ rfl | refine Ret_box (wC (vA (AG rfl) (SZ rfl) rfl rfl (lB rfl)) wN) rfl rfl rfl rfl rfl rfl rfl rfl rfl ?_ ?_ ?_ rfl | refine Ret_box (wC vT (wC vT wN)) rfl rfl rfl rfl rfl rfl rfl rfl rfl ?_ ?_ ?_ rfl | refine Ret_box (wC (vA (AG rfl) (SZ rfl) rfl rfl (lB rfl)) (wC vT wN)) rfl rfl rfl rfl rfl rfl rfl rfl rfl ?_ ?_ ?_ rfl); all_goals rfl) | (exfalso; simp only [beq_eq_false_iff_ne, ne_eq, decide_eq_false_iff_not] at *; omega))
  have hx : (wsG (dig X)).length = 0 ∨ (wsG (dig Y)).length = 0 := by
    rcases h0 with h0 | h0 <;> subst h0
    · left; rw [dig_zero]; rfl
    · right; rw [dig_zero]; rfl
  by_cases hge : (wsG (dig Y)).length ≤ (wsG (dig X)).length
  · exact key (dig Y) (dig X) hx hge
  · have hc := key (dig X) (dig Y) (by omega) (by omega)
    generalize dig X = xs at *
    generalize dig Y = ys at *
    refine PC_of_PW Tryz.func67 rfl rfl (rs := _) rfl (Nat.le_of_ble_eq_true (by kernel_rfl)) ?_
    (repeat (first | ((first | refine qA ?_ | refine qB ?_ | refine xN ?_ | refine xE ?_ | refine xT ?_); try show PW _ _ _ _ _ _) | refine ro1 tabOk rfl rfl ?_ | refine ro2 tabOk rfl rfl ?_ | refine ro3 tabOk rfl rfl ?_ | refine rd1 tabOk rfl rfl ?_ | refine rd2 tabOk rfl rfl ?_ | refine rd3 tabOk rfl rfl ?_ | ((first | apply oR rfl rfl | (apply dF rfl rfl rfl; intro _) | (apply dP rfl rfl rfl; intro _) | (apply dL rfl rfl rfl; intro _) | apply dC rfl rfl rfl rfl); (focus (first | exact cJ | exact mG | exact bT | exact nD)); try exact kQ) | refine xS ?_ | refine xR ?_ | refine qxa rfl rfl mixed ?_ | refine qxb rfl rfl mixed ?_ | refine qxi rfl rfl rfl rfl rfl mixed ?_ | refine qxc rfl rfl mixed ?_ | refine qxd rfl rfl mixed ?_ | refine xB ?_ | refine xt rfl ?_ | refine xf rfl ?_))
    (first | refine POps_split rfl rfl (fun h => ?_) (fun h => ?_) | refine POpsD_split rfl rfl (fun h => ?_) (fun h => ?_) | refine PW_cond rfl (fun h => ?_) (fun h => ?_))
    · (repeat (first | ((first | refine qA ?_ | refine qB ?_ | refine xN ?_ | refine xE ?_ | refine xT ?_); try show PW _ _ _ _ _ _) | refine ro1 tabOk rfl rfl ?_ | refine ro2 tabOk rfl rfl ?_ | refine ro3 tabOk rfl rfl ?_ | refine rd1 tabOk rfl rfl ?_ | refine rd2 tabOk rfl rfl ?_ | refine rd3 tabOk rfl rfl ?_ | ((first | apply oR rfl rfl | (apply dF rfl rfl rfl; intro _) | (apply dP rfl rfl rfl; intro _) | (apply dL rfl rfl rfl; intro _) | apply dC rfl rfl rfl rfl); (focus (first | exact cb [true, true] rfl rfl (EN rfl) (hc) rfl rfl rfl rfl rfl rfl rfl rfl rfl rfl rfl | exact cJ | exact mG | exact bT | exact nD)); try exact kQ) | refine xS ?_ | refine xR ?_ | refine qxa rfl rfl mixed ?_ | refine qxb rfl rfl mixed ?_ | refine qxi rfl rfl rfl rfl rfl mixed ?_ | refine qxc rfl rfl mixed ?_ | refine qxd rfl rfl mixed ?_ | refine xB ?_ | refine xt rfl ?_ | refine xf rfl ?_))
      (first | refine Ret_box wN rfl rfl rfl rfl rfl rfl rfl rfl rfl ?_ ?_ ?_ rfl | refine Ret_box (wC vT wN) rfl rfl rfl rfl rfl rfl rfl rfl rfl ?_ ?_ ?_ rfl | refine Ret_box (wC (vA (AG rfl) (SZ rfl) rfl rfl (lB rfl)) wN) rfl rfl rfl rfl rfl rfl rfl rfl rfl ?_ ?_ ?_ rfl | refine Ret_box (wC vT (wC vT wN)) rfl rfl rfl rfl rfl rfl rfl rfl rfl ?_ ?_ ?_ rfl | refine Ret_box (wC (vA (AG rfl) (SZ rfl) rfl rfl (lB rfl)) (wC vT wN)) rfl rfl rfl rfl rfl rfl rfl rfl rfl ?_ ?_ ?_ rfl)
      all_goals rfl
    · exfalso; have hh := of_decide_eq_false h; omega
end Go.Proofs.YtdicineiaifahaaGreatDoor


namespace Go.Proofs.YtdicineiaifahaaGreatDoor
open Go Go.Pure
attribute [local irreducible] PW POps POpsD PO PC Cond

/-- A whole number's box. -/
def intP (z : Int) : List PV := [.g (.bool (decide (z < 0))), .g (.sl (wsG (dig z.natAbs)))]

theorem u64_neg {z : Int} (h1 : z < 0) (h2 : -9223372036854775808 ≤ z) : IntKind.u64.wrap (0 - IntKind.u64.wrap z) = (z.natAbs : Int) := by
  have h3 : IntKind.u64.wrap z = 18446744073709551616 + z := by
    simp only [IntKind.wrap, IntKind.signed, IntKind.bits, Bool.false_and, Bool.false_eq_true, if_false]
    omega
  rw [h3]
  simp only [IntKind.wrap, IntKind.signed, IntKind.bits, Bool.false_and, Bool.false_eq_true, if_false]
  omega
theorem u64_pos {z : Int} (h1 : 0 < z) (h2 : z < 9223372036854775808) : IntKind.u64.wrap z = (z.natAbs : Int) := by
  simp only [IntKind.wrap, IntKind.signed, IntKind.bits, Bool.false_and, Bool.false_eq_true, if_false]
  omega

set_option maxRecDepth 100000 in
set_option maxHeartbeats 4000000 in
theorem newInt_pc {z : Int} (h1 : -9223372036854775808 ≤ z) (h2 : z < 9223372036854775808) : PC Tryz.prog 40 [.g (.int .i64 z)] ⟨[], [], []⟩ (.ptr 0 0) ⟨[intP z], [], []⟩ := by
  rcases Int.lt_trichotomy z 0 with hz | hz | hz
  · have hd : wsG (dig z.natAbs) = [.int .u64 (z.natAbs : Int)] := by rw [dig_one (by omega) (by unfold WB; omega)]; rfl
    have hw := u64_neg hz h1
    have hb : decide (z < 0) = true := decide_eq_true hz
    unfold intP
    rw [hd, ← hw]
    refine PC_of_PW Tryz.func40 rfl rfl (rs := _) rfl (Nat.le_of_ble_eq_true (by kernel_rfl)) ?_
    (repeat' (first | (first | ((first | refine qA ?_ | refine qB ?_ | refine xN ?_ | refine xE ?_ | refine xT ?_); try show PW _ _ _ _ _ _) | refine ro1 tabOk rfl rfl ?_ | refine ro2 tabOk rfl rfl ?_ | refine ro3 tabOk rfl rfl ?_ | refine rd1 tabOk rfl rfl ?_ | refine rd2 tabOk rfl rfl ?_ | refine rd3 tabOk rfl rfl ?_ | ((first | apply oR rfl rfl | (apply dF rfl rfl rfl; intro _) | (apply dP rfl rfl rfl; intro _) | (apply dL rfl rfl rfl; intro _) | apply dC rfl rfl rfl rfl); (focus (first | exact cJ | exact mG | exact bT | exact nD)); try exact kQ) | refine xS ?_ | refine xR ?_ | refine qxa rfl rfl mixed ?_ | refine qxb rfl rfl mixed ?_ | refine qxi rfl rfl rfl rfl rfl mixed ?_ | refine qxc rfl rfl mixed ?_ | refine qxd rfl rfl mixed ?_ | refine xB ?_ | refine xt rfl ?_ | refine xf rfl ?_) | (refine POps_split rfl rfl (fun h => ?_) (fun h => ?_) <;> fail_if_success (first | (have : true = true := h) | (have : false = false := h))) | (refine POpsD_split rfl rfl (fun h => ?_) (fun h => ?_) <;> fail_if_success (first | (have : true = true := h) | (have : false = false := h))) | refine PW_cond rfl (fun h => ?_) (fun h => ?_)))
    all_goals (try (rename_i hf; exact absurd (hb.symm.trans hf) (by decide)))
    all_goals (try (exfalso; have hh := of_decide_eq_false h; omega))
    all_goals (try (exfalso; have hh := beq_iff_eq.1 h; omega))
    all_goals (try (first | refine Ret_boxp (vC vT vN) rfl rfl rfl rfl rfl rfl rfl rfl rfl ?_ ?_ ?_ rfl | refine Ret_boxp (vC (vA (AG rfl) (SZ rfl) rfl rfl (lB rfl)) vN) rfl rfl rfl rfl rfl rfl rfl rfl rfl ?_ ?_ ?_ rfl | refine Ret_boxp (vC vT (vC vT vN)) rfl rfl rfl rfl rfl rfl rfl rfl rfl ?_ ?_ ?_ rfl | refine Ret_boxp (vC (vA (AG rfl) (SZ rfl) rfl rfl (lB rfl)) (vC vT vN)) rfl rfl rfl rfl rfl rfl rfl rfl rfl ?_ ?_ ?_ rfl))
    all_goals (try rfl)
  · subst hz
    have hd0 : dig (0 : Int).natAbs = [] := dig_zero
    refine PC.post (H1 := ⟨[[.g (.bool false), .nils]], [], []⟩) ?_ (show HLe _ _ ⟨[intP 0], [], []⟩ from by unfold intP; rw [hd0]; exact HLe.packbx)
    refine PC_of_PW Tryz.func40 rfl rfl (rs := _) rfl (Nat.le_of_ble_eq_true (by kernel_rfl)) ?_
    (repeat' (first | (first | ((first | refine qA ?_ | refine qB ?_ | refine xN ?_ | refine xE ?_ | refine xT ?_); try show PW _ _ _ _ _ _) | refine ro1 tabOk rfl rfl ?_ | refine ro2 tabOk rfl rfl ?_ | refine ro3 tabOk rfl rfl ?_ | refine rd1 tabOk rfl rfl ?_ | refine rd2 tabOk rfl rfl ?_ | refine rd3 tabOk rfl rfl ?_ | ((first | apply oR rfl rfl | (apply dF rfl rfl rfl; intro _) | (apply dP rfl rfl rfl; intro _) | (apply dL rfl rfl rfl; intro _) | apply dC rfl rfl rfl rfl); (focus (first | exact cJ | exact mG | exact bT | exact nD)); try exact kQ) | refine xS ?_ | refine xR ?_ | refine qxa rfl rfl mixed ?_ | refine qxb rfl rfl mixed ?_ | refine qxi rfl rfl rfl rfl rfl mixed ?_ | refine qxc rfl rfl mixed ?_ | refine qxd rfl rfl mixed ?_ | refine xB ?_ | refine xt rfl ?_ | refine xf rfl ?_) | (refine POps_split rfl rfl (fun h => ?_) (fun h => ?_) <;> fail_if_success (first | (have : true = true := h) | (have : false = false := h))) | (refine POpsD_split rfl rfl (fun h => ?_) (fun h => ?_) <;> fail_if_success (first | (have : true = true := h) | (have : false = false := h))) | refine PW_cond rfl (fun h => ?_) (fun h => ?_)))
    all_goals (try (first | refine Ret_boxp (vC vT vN) rfl rfl rfl rfl rfl rfl rfl rfl rfl ?_ ?_ ?_ rfl | refine Ret_boxp (vC (vA (AG rfl) (SZ rfl) rfl rfl (lB rfl)) vN) rfl rfl rfl rfl rfl rfl rfl rfl rfl ?_ ?_ ?_ rfl | refine Ret_boxp (vC vT (vC vT vN)) rfl rfl rfl rfl rfl rfl rfl rfl rfl ?_ ?_ ?_ rfl | refine Ret_boxp (vC (vA (AG rfl) (SZ rfl) rfl rfl (lB rfl)) (vC vT vN)) rfl rfl rfl rfl rfl rfl rfl rfl rfl ?_ ?_ ?_ rfl))
    all_goals (try rfl)
  · have hd : wsG (dig z.natAbs) = [.int .u64 (z.natAbs : Int)] := by rw [dig_one (by omega) (by unfold WB; omega)]; rfl
    have hw := u64_pos hz h2
    have hb : decide (z < 0) = false := decide_eq_false (by omega)
    unfold intP
    rw [hd, ← hw]
    refine PC_of_PW Tryz.func40 rfl rfl (rs := _) rfl (Nat.le_of_ble_eq_true (by kernel_rfl)) ?_
    (repeat' (first | (first | ((first | refine qA ?_ | refine qB ?_ | refine xN ?_ | refine xE ?_ | refine xT ?_); try show PW _ _ _ _ _ _) | refine ro1 tabOk rfl rfl ?_ | refine ro2 tabOk rfl rfl ?_ | refine ro3 tabOk rfl rfl ?_ | refine rd1 tabOk rfl rfl ?_ | refine rd2 tabOk rfl rfl ?_ | refine rd3 tabOk rfl rfl ?_ | ((first | apply oR rfl rfl | (apply dF rfl rfl rfl; intro _) | (apply dP rfl rfl rfl; intro _) | (apply dL rfl rfl rfl; intro _) | apply dC rfl rfl rfl rfl); (focus (first | exact cJ | exact mG | exact bT | exact nD)); try exact kQ) | refine xS ?_ | refine xR ?_ | refine qxa rfl rfl mixed ?_ | refine qxb rfl rfl mixed ?_ | refine qxi rfl rfl rfl rfl rfl mixed ?_ | refine qxc rfl rfl mixed ?_ | refine qxd rfl rfl mixed ?_ | refine xB ?_ | refine xt rfl ?_ | refine xf rfl ?_) | (refine POps_split rfl rfl (fun h => ?_) (fun h => ?_) <;> fail_if_success (first | (have : true = true := h) | (have : false = false := h))) | (refine POpsD_split rfl rfl (fun h => ?_) (fun h => ?_) <;> fail_if_success (first | (have : true = true := h) | (have : false = false := h))) | refine PW_cond rfl (fun h => ?_) (fun h => ?_)))
    all_goals (try (rename_i hf; exact absurd (hb.symm.trans hf) (by decide)))
    all_goals (try (exfalso; have hh := of_decide_eq_true h; omega))
    all_goals (try (exfalso; have hh := beq_iff_eq.1 h; omega))
    all_goals (try (first | refine Ret_boxp (vC vT vN) rfl rfl rfl rfl rfl rfl rfl rfl rfl ?_ ?_ ?_ rfl | refine Ret_boxp (vC (vA (AG rfl) (SZ rfl) rfl rfl (lB rfl)) vN) rfl rfl rfl rfl rfl rfl rfl rfl rfl ?_ ?_ ?_ rfl | refine Ret_boxp (vC vT (vC vT vN)) rfl rfl rfl rfl rfl rfl rfl rfl rfl ?_ ?_ ?_ rfl | refine Ret_boxp (vC (vA (AG rfl) (SZ rfl) rfl rfl (lB rfl)) (vC vT vN)) rfl rfl rfl rfl rfl rfl rfl rfl rfl ?_ ?_ ?_ rfl))
    all_goals (try rfl)

/-- Which of two is less. -/
def cmpZ (a b : Int) : Int := if a < b then -1 else if b < a then 1 else 0

theorem val_lt_at : ∀ {xs ys : List Nat} {i a b : Nat}, okW xs → okW ys → xs.length = ys.length → xs[i]? = some a → ys[i]? = some b → xs.drop (i + 1) = ys.drop (i + 1) → a < b → val xs < val ys
  | [], _, _, _, _, _, _, _, h, _, _, _ => by simp at h
  | _ :: _, [], _, _, _, _, _, _, _, h, _, _ => by simp at h
  | x :: xs, y :: ys, 0, a, b, hx, hy, hl, ha, hb, hd, h => by
    simp only [List.getElem?_cons_zero, Option.some.injEq] at ha hb
    subst ha hb
    simp only [List.drop_succ_cons, List.drop_zero] at hd
    subst hd
    simp only [val_cons]
    omega
  | x :: xs, y :: ys, i + 1, a, b, hx, hy, hl, ha, hb, hd, h => by
    obtain ⟨hx1, hx2⟩ := okW_cons.1 hx
    obtain ⟨hy1, hy2⟩ := okW_cons.1 hy
    have ih := val_lt_at (i := i) (a := a) (b := b) hx2 hy2 (by simpa using hl) (by simpa using ha) (by simpa using hb) (by simpa using hd) h
    simp only [val_cons]
    have := Nat.mul_le_mul_left WB (Nat.succ_le_of_lt ih)
    rw [Nat.mul_succ] at this
    omega
theorem dig_len_lt {X Y : Nat} (h : (dig X).length < (dig Y).length) : X < Y := by
  have h1 := val_lt (okW_dig X)
  rw [val_dig] at h1
  by_cases hc : Y < WB ^ (dig X).length
  · have := dig_length_le hc; omega
  · omega

set_option maxRecDepth 100000 in
set_option maxHeartbeats 4000000 in
theorem cmp_pc {X Y : Nat} (hX : (dig X).length ≤ 100000) (hY : (dig Y).length ≤ 100000) : PC Tryz.prog 48 [.g (.sl (wsG (dig X))), .g (.sl (wsG (dig Y)))] ⟨[], [], []⟩ (.g (.int .i64 (cmpZ X Y))) ⟨[], [], []⟩ := by
  have hvX := val_dig X
  have hvY := val_dig Y
  have hoX := okW_dig X
  have hoY := okW_dig Y
  have hlt1 := @dig_len_lt X Y
  have hlt2 := @dig_len_lt Y X
  have hi1 := @dig_inj X Y
  have hlX : (wsG (dig X)).length = (dig X).length := wsG_length _
  have hlY : (wsG (dig Y)).length = (dig Y).length := wsG_length _
  generalize dig X = xs at *
  generalize dig Y = ys at *
  by_cases hlen : xs.length = ys.length
  · by_cases h0 : xs.length = 0
    · have hx0 : xs = [] := List.eq_nil_of_length_eq_zero h0
      have hy0 : ys = [] := List.eq_nil_of_length_eq_zero (by omega)
      subst hx0 hy0
      have : X = Y := hi1 rfl
      subst this
      refine PC_of_PW Tryz.func48 rfl rfl (rs := _) rfl (Nat.le_of_ble_eq_true (by kernel_rfl)) ?_
      (repeat' (first | (first | ((first | refine qA ?_ | refine qB ?_ | refine xN ?_ | refine xE ?_ | refine xT ?_); try show PW _ _ _ _ _ _) | refine ro1 tabOk rfl rfl ?_ | refine ro2 tabOk rfl rfl ?_ | refine ro3 tabOk rfl rfl ?_ | refine rd1 tabOk rfl rfl ?_ | refine rd2 tabOk rfl rfl ?_ | refine rd3 tabOk rfl rfl ?_ | ((first | apply oR rfl rfl | (apply dF rfl rfl rfl; intro _) | (apply dP rfl rfl rfl; intro _) | (apply dL rfl rfl rfl; intro _) | apply dC rfl rfl rfl rfl); (focus (first | exact cJ | exact mG | exact bT | exact nD)); try exact kQ) | refine xS ?_ | refine xR ?_ | refine qxa rfl rfl mixed ?_ | refine qxb rfl rfl mixed ?_ | refine qxi rfl rfl rfl rfl rfl mixed ?_ | refine qxc rfl rfl mixed ?_ | refine qxd rfl rfl mixed ?_ | refine xB ?_ | refine xt rfl ?_ | refine xf rfl ?_) | (refine POps_split rfl rfl (fun h => ?_) (fun h => ?_) <;> fail_if_success (first | (have : true = true := h) | (have : false = false := h))) | (refine POpsD_split rfl rfl (fun h => ?_) (fun h => ?_) <;> fail_if_success (first | (have : true = true := h) | (have : false = false := h))) | refine PW_cond rfl (fun h => ?_) (fun h => ?_)))
      all_goals ((first | refine Ret_int (vC vT vN) rfl ?_ | refine Ret_bool (vC vT vN) rfl ?_ | refine Ret_g (vC vT vN) rfl ?_ | refine Ret_int (vC (vA (AG rfl) (SZ rfl) rfl rfl (lB rfl)) vN) rfl ?_ | refine Ret_bool (vC (vA (AG rfl) (SZ rfl) rfl rfl (lB rfl)) vN) rfl ?_ | refine Ret_g (vC (vA (AG rfl) (SZ rfl) rfl rfl (lB rfl)) vN) rfl ?_))
      all_goals (simp [cmpZ])
    · have hsub : IntKind.i64.wrap (((wsG xs).length : Int) - 1) = ((xs.length - 1 : Nat) : Int) := by rw [w64 (by omega)]; omega
      have hne : ((wsG xs).length : Int) = ((wsG ys).length : Int) := by omega
      have kill : ((((wsG xs).length : Int) != ((wsG ys).length : Int)) = true) → False := fun h => by simp [hne] at h
      have kill2 : ((((wsG xs).length : Int) == 0) = true) → False := fun h => by have hh := beq_iff_eq.1 h; omega
      refine PC_of_PW Tryz.func48 rfl rfl (rs := _) rfl (Nat.le_of_ble_eq_true (by kernel_rfl)) ?_
      (repeat' (first | (first | ((first | refine qA ?_ | refine qB ?_ | refine xN ?_ | refine xE ?_ | refine xT ?_); try show PW _ _ _ _ _ _) | refine ro1 tabOk rfl rfl ?_ | refine ro2 tabOk rfl rfl ?_ | refine ro3 tabOk rfl rfl ?_ | refine rd1 tabOk rfl rfl ?_ | refine rd2 tabOk rfl rfl ?_ | refine rd3 tabOk rfl rfl ?_ | ((first | apply oR rfl rfl | (apply dF rfl rfl rfl; intro _) | (apply dP rfl rfl rfl; intro _) | (apply dL rfl rfl rfl; intro _) | apply dC rfl rfl rfl rfl); (focus (first | exact cJ | exact mG | exact bT | exact nD)); try exact kQ) | refine xU [8] rfl ?_ | refine xR ?_ | refine qxa rfl rfl mixed ?_ | refine qxb rfl rfl mixed ?_ | refine qxi rfl rfl rfl rfl rfl mixed ?_ | refine qxc rfl rfl mixed ?_ | refine qxd rfl rfl mixed ?_ | refine xB ?_ | refine xt rfl ?_ | refine xf rfl ?_) | (refine POps_split rfl rfl (fun h => ?_) (fun h => ?_) <;> fail_if_success (first | (have : true = true := h) | (have : false = false := h))) | (refine POpsD_split rfl rfl (fun h => ?_) (fun h => ?_) <;> fail_if_success (first | (have : true = true := h) | (have : false = false := h))) | refine PW_cond rfl (fun h => ?_) (fun h => ?_)))
      all_goals (try (exact (kill (by assumption)).elim))
      all_goals (try (exact (kill2 (by assumption)).elim))
      clear h
      (repeat (first | ((first | refine qA ?_ | refine qB ?_ | refine xN ?_ | refine xE ?_ | refine xT ?_); try show PW _ _ _ _ _ _) | refine ro1 tabOk rfl rfl ?_ | refine ro2 tabOk rfl rfl ?_ | refine ro3 tabOk rfl rfl ?_ | refine rd1 tabOk rfl rfl ?_ | refine rd2 tabOk rfl rfl ?_ | refine rd3 tabOk rfl rfl ?_ | ((first | apply oR rfl rfl | (apply dF rfl rfl rfl; intro _) | (apply dP rfl rfl rfl; intro _) | (apply dL rfl rfl rfl; intro _) | apply dC rfl rfl rfl rfl); (focus (first | exact cJ | exact mG | exact bT | exact nD)); try exact kQ) | refine xS ?_ | refine xR ?_ | refine qxa rfl rfl mixed ?_ | refine qxb rfl rfl mixed ?_ | refine qxi rfl rfl rfl rfl rfl mixed ?_ | refine qxc rfl rfl mixed ?_ | refine qxd rfl rfl mixed ?_ | refine xB ?_ | refine xt rfl ?_ | refine xf rfl ?_))
      refine PW_loop (S := Nat) (fun i => slots [(0, .g (.sl (wsG xs))), (1, .g (.sl (wsG ys))), (4, .g (.int .i64 0)), (7, .g (.int .i64 i))]) (fun i => ⟨[], [], []⟩) (fun i => i < xs.length ∧ xs.drop (i + 1) = ys.drop (i + 1)) (fun i => i) (xs.length - 1) ⟨by omega, by rw [List.drop_of_length_le (by omega), List.drop_of_length_le (by omega)]⟩
        (SlotsOk.le ?_) (HLe.of_eq ?_) (fun i hi => ?_)
      · exact ⟨.inl rfl, .inl rfl, .inl rfl, .inl (congrArg (fun k => PV.g (.int .i64 k)) hsub), trivial⟩
      · rfl
      obtain ⟨hi, hz⟩ := hi
      have hxi : xs[i]? = some (xs[i]'(by omega)) := List.getElem?_eq_getElem (by omega)
      have hyi : ys[i]? = some (ys[i]'(by omega)) := List.getElem?_eq_getElem (by omega)
      generalize xs[i]'(by omega) = a at hxi
      generalize ys[i]'(by omega) = b at hyi
      have hga : (wsG xs)[i]? = some (wG a) := wsG_get hxi
      have hgb : (wsG ys)[i]? = some (wG b) := wsG_get hyi
      have hfin : ∀ r : Int, (a < b → r = -1) → (b < a → r = 1) → (a = b → i = 0 → r = 0) → (a = b → i = 0) → r = cmpZ X Y := by
        intro r e1 e2 e3 e4
        unfold cmpZ
        rcases Nat.lt_trichotomy a b with hab | hab | hab
        · have := val_lt_at hoX hoY hlen hxi hyi hz hab
          rw [hvX, hvY] at this
          rw [e1 hab, if_pos (by omega)]
        · have hi0 := e4 hab
          subst hi0
          subst hab
          have : xs = ys := by
            cases xs with
            | nil => simp at h0
            | cons u us => cases ys with
              | nil => simp at hlen
              | cons v vs =>
                simp only [List.getElem?_cons_zero, Option.some.injEq] at hxi hyi
                simp only [Nat.zero_add, List.drop_succ_cons, List.drop_zero] at hz
                rw [hxi, hyi, hz]
          have := hi1 this
          rw [e3 rfl rfl, if_neg (by omega), if_neg (by omega)]
        · have := val_lt_at hoY hoX hlen.symm hyi hxi hz.symm hab
          rw [hvX, hvY] at this
          rw [e2 hab, if_neg (by omega), if_pos (by omega)]
      cases i with
      | zero =>
        (repeat' (first | (first | ((first | refine qA ?_ | refine qB ?_ | refine xN ?_ | refine xE ?_ | refine xT ?_); try show PW _ _ _ _ _ _) | refine ro1 tabOk rfl rfl ?_ | refine ro2 tabOk rfl rfl ?_ | refine ro3 tabOk rfl rfl ?_ | refine rd1 tabOk rfl rfl ?_ | refine rd2 tabOk rfl rfl ?_ | refine rd3 tabOk rfl rfl ?_ | ((first | apply oR rfl rfl | (apply dF rfl rfl rfl; intro _) | (apply dP rfl rfl rfl; intro _) | (apply dL rfl rfl rfl; intro _) | apply dC rfl rfl rfl rfl); (focus (first | exact iA (g := wG a) rfl (EL rfl) (SZ rfl) rfl rfl (by decide) hga rfl | exact iA (g := wG b) rfl (EL rfl) (SZ rfl) rfl rfl (by decide) hgb rfl | exact cJ | exact mG | exact bT | exact nD)); try exact kQ) | refine xS ?_ | refine xR ?_ | refine qxa rfl rfl mixed ?_ | refine qxb rfl rfl mixed ?_ | refine qxi rfl rfl rfl rfl rfl mixed ?_ | refine qxc rfl rfl mixed ?_ | refine qxd rfl rfl mixed ?_ | refine xB ?_ | refine xt rfl ?_ | refine xf rfl ?_) | (refine POps_split rfl rfl (fun h => ?_) (fun h => ?_) <;> fail_if_success (first | (have : true = true := h) | (have : false = false := h))) | (refine POpsD_split rfl rfl (fun h => ?_) (fun h => ?_) <;> fail_if_success (first | (have : true = true := h) | (have : false = false := h))) | refine PW_cond rfl (fun h => ?_) (fun h => ?_)))
        all_goals ((first | refine Ret_int (vC vT vN) rfl ?_ | refine Ret_bool (vC vT vN) rfl ?_ | refine Ret_g (vC vT vN) rfl ?_ | refine Ret_int (vC (vA (AG rfl) (SZ rfl) rfl rfl (lB rfl)) vN) rfl ?_ | refine Ret_bool (vC (vA (AG rfl) (SZ rfl) rfl rfl (lB rfl)) vN) rfl ?_ | refine Ret_g (vC (vA (AG rfl) (SZ rfl) rfl rfl (lB rfl)) vN) rfl ?_))
        all_goals (refine hfin _ (fun e => ?_) (fun e => ?_) (fun e _ => ?_) (fun _ => rfl))
        all_goals (first | rfl | (exfalso; have hh := of_decide_eq_true h; omega) | (exfalso; have hh := of_decide_eq_false h; omega) | (exfalso; rename_i h1; have hh := of_decide_eq_true h; have hh1 := of_decide_eq_false h1; omega) | (exfalso; rename_i h1; have hh := of_decide_eq_false h; have hh1 := of_decide_eq_false h1; omega))
      | succ i =>
        (repeat' (first | (first | ((first | refine qA ?_ | refine qB ?_ | refine xN ?_ | refine xE ?_ | refine xT ?_); try show PW _ _ _ _ _ _) | refine ro1 tabOk rfl rfl ?_ | refine ro2 tabOk rfl rfl ?_ | refine ro3 tabOk rfl rfl ?_ | refine rd1 tabOk rfl rfl ?_ | refine rd2 tabOk rfl rfl ?_ | refine rd3 tabOk rfl rfl ?_ | ((first | apply oR rfl rfl | (apply dF rfl rfl rfl; intro _) | (apply dP rfl rfl rfl; intro _) | (apply dL rfl rfl rfl; intro _) | apply dC rfl rfl rfl rfl); (focus (first | exact iA (g := wG a) rfl (EL rfl) (SZ rfl) rfl rfl (Int.natCast_nonneg _) hga rfl | exact iA (g := wG b) rfl (EL rfl) (SZ rfl) rfl rfl (Int.natCast_nonneg _) hgb rfl | exact cJ | exact mG | exact bT | exact nD)); try exact kQ) | refine xU [10] rfl ?_ | refine xR ?_ | refine qxa rfl rfl mixed ?_ | refine qxb rfl rfl mixed ?_ | refine qxi rfl rfl rfl rfl rfl mixed ?_ | refine qxc rfl rfl mixed ?_ | refine qxd rfl rfl mixed ?_ | refine xB ?_ | refine xt rfl ?_ | refine xf rfl ?_) | (refine POps_split rfl rfl (fun h => ?_) (fun h => ?_) <;> fail_if_success (first | (have : true = true := h) | (have : false = false := h))) | (refine POpsD_split rfl rfl (fun h => ?_) (fun h => ?_) <;> fail_if_success (first | (have : true = true := h) | (have : false = false := h))) | refine PW_cond rfl (fun h => ?_) (fun h => ?_)))
        · have hab : a = b := by have hh := beq_iff_eq.1 h; omega
          have hs : IntKind.i64.wrap (((i + 1 : Nat) : Int) - 1) = (i : Int) := by rw [w64 (by omega)]; omega
          have e1 : xs.drop (i + 1) = a :: xs.drop (i + 1 + 1) := by rw [← List.getElem_cons_drop (by omega)]; rw [List.getElem?_eq_getElem (by omega)] at hxi; rw [Option.some.inj hxi]
          have e2 : ys.drop (i + 1) = b :: ys.drop (i + 1 + 1) := by rw [← List.getElem_cons_drop (by omega)]; rw [List.getElem?_eq_getElem (by omega)] at hyi; rw [Option.some.inj hyi]
          clear h
          (repeat (first | ((first | refine qA ?_ | refine qB ?_ | refine xN ?_ | refine xE ?_ | refine xT ?_); try show PW _ _ _ _ _ _) | refine ro1 tabOk rfl rfl ?_ | refine ro2 tabOk rfl rfl ?_ | refine ro3 tabOk rfl rfl ?_ | refine rd1 tabOk rfl rfl ?_ | refine rd2 tabOk rfl rfl ?_ | refine rd3 tabOk rfl rfl ?_ | ((first | apply oR rfl rfl | (apply dF rfl rfl rfl; intro _) | (apply dP rfl rfl rfl; intro _) | (apply dL rfl rfl rfl; intro _) | apply dC rfl rfl rfl rfl); (focus (first | exact cJ | exact mG | exact bT | exact nD)); try exact kQ) | refine xS ?_ | refine xR ?_ | refine qxa rfl rfl mixed ?_ | refine qxb rfl rfl mixed ?_ | refine qxi rfl rfl rfl rfl rfl mixed ?_ | refine qxc rfl rfl mixed ?_ | refine qxd rfl rfl mixed ?_ | refine xB ?_ | refine xt rfl ?_ | refine xf rfl ?_))
          refine ⟨i, ⟨by omega, by rw [e1, e2, hab, hz]⟩, by omega, SlotsOk.le ?_, HLe.of_eq ?_⟩
          · exact ⟨.inl rfl, .inl rfl, .inl rfl, .inl (congrArg (fun k => PV.g (.int .i64 k)) hs), trivial⟩
          · rfl
        all_goals (try (exfalso; have hh := of_decide_eq_false (by assumption : decide (((i + 1 : Nat) : Int) > 0) = false); omega))
        all_goals (have hab : a ≠ b := fun e => by have hf : ((a : Int) == (b : Int)) = false := by assumption
                                                   subst e
                                                   simp at hf)
        all_goals ((first | refine Ret_int (vC vT vN) rfl ?_ | refine Ret_bool (vC vT vN) rfl ?_ | refine Ret_g (vC vT vN) rfl ?_ | refine Ret_int (vC (vA (AG rfl) (SZ rfl) rfl rfl (lB rfl)) vN) rfl ?_ | refine Ret_bool (vC (vA (AG rfl) (SZ rfl) rfl rfl (lB rfl)) vN) rfl ?_ | refine Ret_g (vC (vA (AG rfl) (SZ rfl) rfl rfl (lB rfl)) vN) rfl ?_))
        all_goals (refine hfin _ (fun e => ?_) (fun e => ?_) (fun e _ => absurd e hab) (fun e => absurd e hab))
        all_goals (first | rfl | (exfalso; have hh := of_decide_eq_true h; omega) | (exfalso; have hh := of_decide_eq_false h; omega) | (exfalso; rename_i h1; have hh := of_decide_eq_true h; have hh1 := of_decide_eq_false h1; omega) | (exfalso; rename_i h1; have hh := of_decide_eq_false h; have hh1 := of_decide_eq_false h1; omega))
  · have hne : ((wsG xs).length : Int) ≠ ((wsG ys).length : Int) := by omega
    have kill : ((((wsG xs).length : Int) != ((wsG ys).length : Int)) = false) → False := fun h => by simp at h; omega
    refine PC_of_PW Tryz.func48 rfl rfl (rs := _) rfl (Nat.le_of_ble_eq_true (by kernel_rfl)) ?_
    (repeat' (first | (first | ((first | refine qA ?_ | refine qB ?_ | refine xN ?_ | refine xE ?_ | refine xT ?_); try show PW _ _ _ _ _ _) | refine ro1 tabOk rfl rfl ?_ | refine ro2 tabOk rfl rfl ?_ | refine ro3 tabOk rfl rfl ?_ | refine rd1 tabOk rfl rfl ?_ | refine rd2 tabOk rfl rfl ?_ | refine rd3 tabOk rfl rfl ?_ | ((first | apply oR rfl rfl | (apply dF rfl rfl rfl; intro _) | (apply dP rfl rfl rfl; intro _) | (apply dL rfl rfl rfl; intro _) | apply dC rfl rfl rfl rfl); (focus (first | exact cJ | exact mG | exact bT | exact nD)); try exact kQ) | refine xU [8] rfl ?_ | refine xR ?_ | refine qxa rfl rfl mixed ?_ | refine qxb rfl rfl mixed ?_ | refine qxi rfl rfl rfl rfl rfl mixed ?_ | refine qxc rfl rfl mixed ?_ | refine qxd rfl rfl mixed ?_ | refine xB ?_ | refine xt rfl ?_ | refine xf rfl ?_) | (refine POps_split rfl rfl (fun h => ?_) (fun h => ?_) <;> fail_if_success (first | (have : true = true := h) | (have : false = false := h))) | (refine POpsD_split rfl rfl (fun h => ?_) (fun h => ?_) <;> fail_if_success (first | (have : true = true := h) | (have : false = false := h))) | refine PW_cond rfl (fun h => ?_) (fun h => ?_)))
    all_goals (try (exact (kill (by assumption)).elim))
    all_goals ((first | refine Ret_int (vC vT vN) rfl ?_ | refine Ret_bool (vC vT vN) rfl ?_ | refine Ret_g (vC vT vN) rfl ?_ | refine Ret_int (vC (vA (AG rfl) (SZ rfl) rfl rfl (lB rfl)) vN) rfl ?_ | refine Ret_bool (vC (vA (AG rfl) (SZ rfl) rfl rfl (lB rfl)) vN) rfl ?_ | refine Ret_g (vC (vA (AG rfl) (SZ rfl) rfl rfl (lB rfl)) vN) rfl ?_))
    · have hh := of_decide_eq_true h
      have := hlt1 (by omega)
      unfold cmpZ
      rw [if_pos (by omega)]
    · have hh := of_decide_eq_true h
      have := hlt2 (by omega)
      unfold cmpZ
      rw [if_neg (by omega), if_pos (by omega)]
    · exfalso
      have hh := of_decide_eq_false h
      rename_i h1
      have hh1 := of_decide_eq_false h1
      omega

set_option maxRecDepth 100000 in
theorem getStack_pc : PC Tryz.prog 80 [] ⟨[], [], []⟩ (.ptr 0 0) ⟨[[.nilp]], [], []⟩ := by
  refine PC_of_PW Tryz.func80 rfl rfl (rs := _) rfl (Nat.le_of_ble_eq_true (by kernel_rfl)) ?_
  (repeat (first | ((first | refine qA ?_ | refine qB ?_ | refine xN ?_ | refine xE ?_ | refine xT ?_); try show PW _ _ _ _ _ _) | refine ro1 tabOk rfl rfl ?_ | refine ro2 tabOk rfl rfl ?_ | refine ro3 tabOk rfl rfl ?_ | refine rd1 tabOk rfl rfl ?_ | refine rd2 tabOk rfl rfl ?_ | refine rd3 tabOk rfl rfl ?_ | ((first | apply oR rfl rfl | (apply dF rfl rfl rfl; intro _) | (apply dP rfl rfl rfl; intro _) | (apply dL rfl rfl rfl; intro _) | apply dC rfl rfl rfl rfl); (focus (first | exact cJ | exact mG | exact bT | exact nD)); try exact kQ) | refine xS ?_ | refine xR ?_ | refine qxa rfl rfl mixed ?_ | refine qxb rfl rfl mixed ?_ | refine qxi rfl rfl rfl rfl rfl mixed ?_ | refine qxc rfl rfl mixed ?_ | refine qxd rfl rfl mixed ?_ | refine xB ?_ | refine xt rfl ?_ | refine xf rfl ?_))
  (first | refine Ret_box wN rfl rfl rfl rfl rfl rfl rfl rfl rfl ?_ ?_ ?_ rfl | refine Ret_box (wC vT wN) rfl rfl rfl rfl rfl rfl rfl rfl rfl ?_ ?_ ?_ rfl | refine Ret_box (wC (vA (AG rfl) (SZ rfl) rfl rfl (lB rfl)) wN) rfl rfl rfl rfl rfl rfl rfl rfl rfl ?_ ?_ ?_ rfl | refine Ret_box (wC vT (wC vT wN)) rfl rfl rfl rfl rfl rfl rfl rfl rfl ?_ ?_ ?_ rfl | refine Ret_box (wC (vA (AG rfl) (SZ rfl) rfl rfl (lB rfl)) (wC vT wN)) rfl rfl rfl rfl rfl rfl rfl rfl rfl ?_ ?_ ?_ rfl)
  all_goals rfl
set_option maxRecDepth 100000 in
theorem free_pcd {k g : Nat} {ws : List Nat} : PCd Tryz.prog 81 [.ptr 0 0] ⟨[[.nilp]], [], [.gone k, AR g ws]⟩ ⟨[[.nilp]], [], [.gone k, AR g ws]⟩ := by
  refine PCd_of_PW Tryz.func81 rfl rfl (rs := _) (v := .tuple []) rfl (Nat.le_of_ble_eq_true (by kernel_rfl)) ?_
  (repeat' (first | (first | ((first | refine qA ?_ | refine qB ?_ | refine xN ?_ | refine xE ?_ | refine xT ?_); try show PW _ _ _ _ _ _) | refine ro1 tabOk rfl rfl ?_ | refine ro2 tabOk rfl rfl ?_ | refine ro3 tabOk rfl rfl ?_ | refine rd1 tabOk rfl rfl ?_ | refine rd2 tabOk rfl rfl ?_ | refine rd3 tabOk rfl rfl ?_ | ((first | apply oR rfl rfl | (apply dF rfl rfl rfl; intro _) | (apply dP rfl rfl rfl; intro _) | (apply dL rfl rfl rfl; intro _) | apply dC rfl rfl rfl rfl); (focus (first | exact PO_pnnil rfl Tryz.underlying134 rfl rfl | exact cJ | exact mG | exact bT | exact nD)); try exact kQ) | refine xS ?_ | refine xR ?_ | refine qxa rfl rfl mixed ?_ | refine qxb rfl rfl mixed ?_ | refine qxi rfl rfl rfl rfl rfl mixed ?_ | refine qxc rfl rfl mixed ?_ | refine qxd rfl rfl mixed ?_ | refine xB ?_ | refine xt rfl ?_ | refine xf rfl ?_) | (refine POps_split rfl rfl (fun h => ?_) (fun h => ?_) <;> fail_if_success (first | (have : true = true := h) | (have : false = false := h))) | (refine POpsD_split rfl rfl (fun h => ?_) (fun h => ?_) <;> fail_if_success (first | (have : true = true := h) | (have : false = false := h))) | refine PW_cond rfl (fun h => ?_) (fun h => ?_)))
  all_goals ((first | refine Ret_box wN rfl rfl rfl rfl rfl rfl rfl rfl rfl ?_ ?_ ?_ rfl | refine Ret_box (wC vT wN) rfl rfl rfl rfl rfl rfl rfl rfl rfl ?_ ?_ ?_ rfl | refine Ret_box (wC (vA (AG rfl) (SZ rfl) rfl rfl (lB rfl)) wN) rfl rfl rfl rfl rfl rfl rfl rfl rfl ?_ ?_ ?_ rfl | refine Ret_box (wC vT (wC vT wN)) rfl rfl rfl rfl rfl rfl rfl rfl rfl ?_ ?_ ?_ rfl | refine Ret_box (wC (vA (AG rfl) (SZ rfl) rfl rfl (lB rfl)) (wC vT wN)) rfl rfl rfl rfl rfl rfl rfl rfl rfl ?_ ?_ ?_ rfl); all_goals rfl)

theorem cmpZ_pos {x y : Int} (hx : 0 ≤ x) (hy : 0 ≤ y) : cmpZ x.natAbs y.natAbs = cmpZ x y := by
  rw [Int.natAbs_of_nonneg hx, Int.natAbs_of_nonneg hy]
theorem cmpZ_neg {x y : Int} (hx : x < 0) (hy : y < 0) : IntKind.i64.wrap (0 - cmpZ x.natAbs y.natAbs) = cmpZ x y := by
  have h1 : (x.natAbs : Int) = -x := by omega
  have h2 : (y.natAbs : Int) = -y := by omega
  rw [h1, h2]
  unfold cmpZ
  rcases Int.lt_trichotomy x y with h | h | h
  · rw [if_neg (by omega), if_pos (by omega), if_pos h]; decide
  · rw [if_neg (by omega), if_neg (by omega), if_neg (by omega), if_neg (by omega)]; decide
  · rw [if_pos (by omega), if_neg (by omega), if_pos h]; decide
theorem cmpZ_np {x y : Int} (hx : x < 0) (hy : 0 ≤ y) : cmpZ x y = -1 := by unfold cmpZ; rw [if_pos (by omega)]
theorem cmpZ_pn {x y : Int} (hx : 0 ≤ x) (hy : y < 0) : cmpZ x y = 1 := by unfold cmpZ; rw [if_neg (by omega), if_pos (by omega)]

set_option maxRecDepth 100000 in
set_option maxHeartbeats 4000000 in
/-- Which of two whole numbers is less. -/
theorem intCmp_pc {x y : Int} (hX : (dig x.natAbs).length ≤ 100000) (hY : (dig y.natAbs).length ≤ 100000) : PC Tryz.prog 33 [.ptr 0 0, .ptr 1 0] ⟨[intP x, intP y], [], []⟩ (.g (.int .i64 (cmpZ x y))) ⟨[intP x, intP y], [], []⟩ := by
  have hc := cmp_pc hX hY
  unfold intP
  generalize dig x.natAbs = xs at *
  generalize dig y.natAbs = ys at *
  refine PC_of_PW Tryz.func33 rfl rfl (rs := _) rfl (Nat.le_of_ble_eq_true (by kernel_rfl)) ?_
  (repeat' (first | (first | ((first | refine qA ?_ | refine qB ?_ | refine xN ?_ | refine xE ?_ | refine xT ?_); try show PW _ _ _ _ _ _) | refine ro1 tabOk rfl rfl ?_ | refine ro2 tabOk rfl rfl ?_ | refine ro3 tabOk rfl rfl ?_ | refine rd1 tabOk rfl rfl ?_ | refine rd2 tabOk rfl rfl ?_ | refine rd3 tabOk rfl rfl ?_ | ((first | apply oR rfl rfl | (apply dF rfl rfl rfl; intro _) | (apply dP rfl rfl rfl; intro _) | (apply dL rfl rfl rfl; intro _) | apply dC rfl rfl rfl rfl); (focus (first | exact cqP hc | exact PO_pcmp rfl Tryz.underlying53 (SZ rfl) (.inl rfl) rfl rfl rfl rfl | exact cJ | exact mG | exact bT | exact nD)); try exact kQ) | refine xS ?_ | refine xR ?_ | refine qxa rfl rfl mixed ?_ | refine qxb rfl rfl mixed ?_ | refine qxi rfl rfl rfl rfl rfl mixed ?_ | refine qxc rfl rfl mixed ?_ | refine qxd rfl rfl mixed ?_ | refine xB ?_ | refine xt rfl ?_ | refine xf rfl ?_) | (refine POps_split rfl rfl (fun h => ?_) (fun h => ?_) <;> fail_if_success (first | (have : true = true := h) | (have : false = false := h))) | (refine POpsD_split rfl rfl (fun h => ?_) (fun h => ?_) <;> fail_if_success (first | (have : true = true := h) | (have : false = false := h))) | refine PW_cond rfl (fun h => ?_) (fun h => ?_)))
  all_goals ((first | refine Ret_box wN rfl rfl rfl rfl rfl rfl rfl rfl rfl ?_ ?_ ?_ rfl | refine Ret_box (wC vT wN) rfl rfl rfl rfl rfl rfl rfl rfl rfl ?_ ?_ ?_ rfl | refine Ret_box (wC (vA (AG rfl) (SZ rfl) rfl rfl (lB rfl)) wN) rfl rfl rfl rfl rfl rfl rfl rfl rfl ?_ ?_ ?_ rfl | refine Ret_box (wC vT (wC vT wN)) rfl rfl rfl rfl rfl rfl rfl rfl rfl ?_ ?_ ?_ rfl | refine Ret_box (wC (vA (AG rfl) (SZ rfl) rfl rfl (lB rfl)) (wC vT wN)) rfl rfl rfl rfl rfl rfl rfl rfl rfl ?_ ?_ ?_ rfl))
  all_goals (try rfl)
  all_goals (rename_i h1)
  · have hx := of_decide_eq_true h
    have hy : y < 0 := by rw [h] at h1; simpa using h1
    exact congrArg (fun k => PV.g (.int .i64 k)) (cmpZ_neg hx hy)
  · have hx := of_decide_eq_false h
    have hy : 0 ≤ y := by rw [h] at h1; simpa using h1
    exact congrArg (fun k => PV.g (.int .i64 k)) (cmpZ_pos (by omega) hy)
  · have hx := of_decide_eq_true h
    have hy : 0 ≤ y := by rw [h] at h1; simpa using h1
    exact congrArg (fun k => PV.g (.int .i64 k)) (cmpZ_np hx hy).symm
  · have hx := of_decide_eq_false h
    have hy : y < 0 := by rw [h] at h1; simpa using h1
    exact congrArg (fun k => PV.g (.int .i64 k)) (cmpZ_pn (by omega) hy).symm
end Go.Proofs.YtdicineiaifahaaGreatDoor


namespace Go.Proofs.YtdicineiaifahaaGreatDoor
open Go Go.Pure
attribute [local irreducible] PW POps POpsD PO PC Cond

/-- An array that begins with a number's words. -/
structure ZOk (ws : List Nat) (c X : Nat) : Prop where
  ok : okW ws
  tk : ws.take (dig X).length = dig X
  le : (dig X).length ≤ c
  cw : c ≤ ws.length
  cm : c ≤ 1000
  c1 : 1 ≤ c
theorem ZOk.part {ws : List Nat} {c X : Nat} (h : ZOk ws c X) : (ws.drop 0).take (dig X).length = dig X := by rw [List.drop_zero, h.tk]

/-- An array to be written. -/
structure ROk (ws : List Nat) (c : Nat) : Prop where
  ok : okW ws
  cw : c ≤ ws.length
  cm : c ≤ 1000
  c1 : 1 ≤ c
theorem ZOk.room {ws : List Nat} {c X : Nat} (h : ZOk ws c X) : ROk ws c := ⟨h.ok, h.cw, h.cm, h.c1⟩

theorem ZOk.padded {ws : List Nat} {c k X : Nat} (h : ROk ws c) (hX : X < WB ^ k) (hk : k ≤ c) : ZOk (putL ws 0 (padD k X)) c X := by
  have hl := padD_length k X
  have hd := dig_length_le hX
  have hcw := h.cw
  exact { ok := putL_ok 0 h.ok (padD_ok k X), tk := by rw [putL_zero, List.take_append_of_le_length (by omega)]; exact take_padD hX, le := by omega, cw := by rw [putL_length (by omega)]; omega, cm := h.cm, c1 := h.c1 }
theorem ROk.rep {k : Nat} (h : 1 ≤ k) (hm : k ≤ 1000) : ROk (List.replicate k 0) k := ⟨okW_rep k, by simp, hm, h⟩

theorem sqr_any {gz lz cz g c X : Nat} {wz ws : List Nat} (hz : ROk wz cz) (hx : ZOk ws c X) (hX : X ≠ 0) (hm : (dig X).length < 12) :
    ∃ g' wz' cz', ZOk wz' cz' (X * X) ∧ PC Tryz.prog 66 [.vw 0 gz 0 lz cz, .any, .vw 1 g 0 (dig X).length c] ⟨[], [], [AR gz wz, AR g ws]⟩ (.vw 0 g' 0 (dig (X * X)).length cz') ⟨[], [], [AR g' wz', AR g ws]⟩ := by
  have h1 : 1 ≤ (dig X).length := by have := dig_len_pos hX; rwa [dig_wlen] at this
  have hlt : X * X < WB ^ ((dig X).length + (dig X).length) := by
    have := prod_lt (okW_dig X) (okW_dig X)
    rwa [val_dig] at this
  have hcw := hz.cw
  have hcm := hz.cm
  have hle := hx.le
  have hxw := hx.cw
  have hxm := hx.cm
  by_cases hr : (dig X).length + (dig X).length ≤ cz
  · have hc := sqr_in (stk := .any) (gz := gz) (lz := lz) (g := g) hr (by omega) hcw hz.ok hx.part (by omega) hle hxw (by omega) (okW_dig X) h1 hm
    rw [val_dig] at hc
    exact ⟨_, _, _, ZOk.padded hz hlt hr, hc⟩
  · have hc := sqr_out (stk := .any) (gz := gz) (lz := lz) (g := g) (wz := wz) (by omega) hz.c1 (by omega) hcw hx.part (by omega) hle hxw (by omega) (okW_dig X) h1 hm
    rw [val_dig] at hc
    exact ⟨_, _, _, ZOk.padded (ROk.rep (by omega) (by omega)) hlt (by omega), PC.moved (SZ rfl) (SZ rfl) hc⟩
theorem sqr_new {g c X : Nat} {ws : List Nat} (hx : ZOk ws c X) (hX : X ≠ 0) (hm : (dig X).length < 12) :
    ∃ wz' cz', ZOk wz' cz' (X * X) ∧ PC Tryz.prog 66 [.nils, .any, .vw 0 g 0 (dig X).length c] ⟨[], [], [AR g ws]⟩ (.vw 1 0 0 (dig (X * X)).length cz') ⟨[], [], [AR g ws, AR 0 wz']⟩ := by
  have h1 : 1 ≤ (dig X).length := by have := dig_len_pos hX; rwa [dig_wlen] at this
  have hlt : X * X < WB ^ ((dig X).length + (dig X).length) := by
    have := prod_lt (okW_dig X) (okW_dig X)
    rwa [val_dig] at this
  have hle := hx.le
  have hxw := hx.cw
  have hxm := hx.cm
  have hc := sqr_nil (stk := .any) (g := g) hx.part (by omega) hle hxw (by omega) (okW_dig X) h1 hm
  rw [val_dig] at hc
  exact ⟨_, _, ZOk.padded (ROk.rep (by omega) (by omega)) hlt (by omega), hc⟩
theorem mul_any {gz lz cz g c X y : Nat} {wz ws : List Nat} (hz : ROk wz cz) (hx : ZOk ws c X) (hX : X ≠ 0) (hm : (dig X).length ≤ 100) (hy : y < WB) (hy0 : y ≠ 0) :
    ∃ g' wz' cz', ZOk wz' cz' (X * y) ∧ PC Tryz.prog 67 [.vw 0 gz 0 lz cz, .any, .vw 1 g 0 (dig X).length c, .g (.sl (wsG [y]))] ⟨[], [], [AR gz wz, AR g ws]⟩ (.vw 0 g' 0 (dig (X * y)).length cz') ⟨[], [], [AR g' wz', AR g ws]⟩ := by
  have h1 : 1 ≤ (dig X).length := by have := dig_len_pos hX; rwa [dig_wlen] at this
  have hlt : X * y < WB ^ ((dig X).length + 1) := by
    have := prod_lt (okW_dig X) (okW_cons.2 ⟨hy, okW_nil⟩)
    rw [val_dig] at this
    simpa [val] using this
  have hcw := hz.cw
  have hcm := hz.cm
  have hle := hx.le
  have hxw := hx.cw
  have hxm := hx.cm
  by_cases hr : (dig X).length + 1 ≤ cz
  · have hc := mul_in (gz := gz) (lz := lz) (g := g) (c := c) (wz := wz) (ws := ws) (cz := cz) (y := y) hx.part (by omega) hr (by omega) hcw (okW_dig X) hy hy0 h1 (by omega)
    rw [val_dig] at hc
    exact ⟨_, _, _, ZOk.padded hz hlt hr, hc⟩
  · have hc := mul_out (gz := gz) (lz := lz) (g := g) (c := c) (wz := wz) (ws := ws) (cz := cz) (y := y) hx.part (by omega) (by omega) (okW_dig X) hy hy0 h1 (by omega)
    rw [val_dig] at hc
    exact ⟨_, _, _, ZOk.padded (ROk.rep (by omega) (by omega)) hlt (by omega), PC.moved (SZ rfl) (SZ rfl) hc⟩

end Go.Proofs.YtdicineiaifahaaGreatDoor


namespace Go.Proofs.YtdicineiaifahaaGreatDoor
open Go Go.Pure
attribute [local irreducible] PW POps POpsD PO PC Cond

/-- The exponent's first bits; what is left of it, as the code holds it. -/
def exA (n L j : Nat) : Nat := n / 2 ^ (L - 1 - j)
def exV (n L j : Nat) : Nat := n * 2 ^ (65 - L + j) % WB
def exOk (n : Nat) : Bool :=
  let L := Lib.bitLen n
  L ≤ 8 && 2 ≤ L && exA n L 0 == 1 && exA n L (L - 1) == n && exV n L 0 == n * 2 ^ (65 - L) % WB &&
    (List.range (L - 1)).all fun j => exA n L j ≤ 127 && exV n L (j + 1) == exV n L j * 2 % WB && (if exV n L j &&& 9223372036854775808 = 0 then exA n L (j + 1) == 2 * exA n L j else exA n L (j + 1) == 2 * exA n L j + 1)
theorem exOk_all : (List.range 256).all (fun n => n < 2 || exOk n) = true := by decide +kernel
theorem exOk_of {n : Nat} (h2 : 2 ≤ n) (h : n < 256) : exOk n = true := by
  have := List.all_eq_true.1 exOk_all n (List.mem_range.2 h)
  simp only [Bool.or_eq_true, decide_eq_true_eq] at this
  rcases this with h | h
  · omega
  · exact h
theorem ten_len {e : Nat} (h : e ≤ 127) : (dig (10 ^ e)).length < 12 := by
  have h1 : 10 ^ e ≤ 10 ^ 127 := Nat.pow_le_pow_right (by decide) h
  have h2 : (10 : Nat) ^ 127 < WB ^ 11 := by decide +kernel
  have := dig_length_le (Nat.lt_of_le_of_lt h1 h2)
  omega

theorem u64_mod (m : Nat) : IntKind.u64.wrap (m : Int) = ((m % WB : Nat) : Int) := by
  simp only [IntKind.wrap, IntKind.signed, IntKind.bits, Bool.false_and, Bool.false_eq_true, if_false]
  unfold WB
  omega
theorem and_top {v : Nat} (h : v < WB) : IntKind.u64.wrap (((BitVec.ofInt IntKind.u64.bits (v : Int) &&& BitVec.ofInt IntKind.u64.bits 9223372036854775808).toNat : Nat) : Int) = ((v &&& 9223372036854775808 : Nat) : Int) := by
  have h' : v < 2 ^ 64 := h
  refine u64_wrap ?_ (Nat.lt_of_le_of_lt Nat.and_le_left h)
  show (((BitVec.ofInt 64 (v : Int) &&& BitVec.ofInt 64 ((9223372036854775808 : Nat) : Int)).toNat : Nat) : Int) = _
  rw [BitVec.ofInt_natCast, BitVec.ofInt_natCast, BitVec.toNat_and, BitVec.toNat_ofNat, BitVec.toNat_ofNat, Nat.mod_eq_of_lt h']
theorem exOk_spec {n : Nat} (h2 : 2 ≤ n) (h : n < 256) : Lib.bitLen n ≤ 8 ∧ 2 ≤ Lib.bitLen n ∧ exA n (Lib.bitLen n) 0 = 1 ∧ exA n (Lib.bitLen n) (Lib.bitLen n - 1) = n ∧ exV n (Lib.bitLen n) 0 = n * 2 ^ (65 - Lib.bitLen n) % WB ∧
    ∀ j, j < Lib.bitLen n - 1 → exA n (Lib.bitLen n) j ≤ 127 ∧ exV n (Lib.bitLen n) (j + 1) = exV n (Lib.bitLen n) j * 2 % WB ∧
      ((exV n (Lib.bitLen n) j &&& 9223372036854775808 = 0 → exA n (Lib.bitLen n) (j + 1) = 2 * exA n (Lib.bitLen n) j) ∧ (exV n (Lib.bitLen n) j &&& 9223372036854775808 ≠ 0 → exA n (Lib.bitLen n) (j + 1) = 2 * exA n (Lib.bitLen n) j + 1)) := by
  have h3 := exOk_of h2 h
  unfold exOk at h3
  simp only [Bool.and_eq_true, decide_eq_true_eq, beq_iff_eq, List.all_eq_true, List.mem_range] at h3
  obtain ⟨⟨⟨⟨⟨a1, a2⟩, a3⟩, a4⟩, a5⟩, a6⟩ := h3
  refine ⟨a1, a2, a3, a4, a5, fun j hj => ?_⟩
  obtain ⟨⟨b1, b2⟩, b3⟩ := a6 j hj
  refine ⟨b1, b2, fun h => ?_, fun h => ?_⟩
  · rw [if_pos h] at b3; simpa using b3
  · rw [if_neg h] at b3; simpa using b3

/-- Where a round begins. -/
structure XS where
  j : Nat
  gz : Nat
  cz : Nat
  wz : List Nat
  zz : Option (Nat × Nat × Nat × List Nat)
def zzP : Option (Nat × Nat × Nat × List Nat) → PV
  | none => .nils
  | some (g, l, c, _) => .vw 1 g 0 l c
def zzM : Option (Nat × Nat × Nat × List Nat) → List MO
  | none => []
  | some (g, _, _, w) => [AR g w]

set_option maxRecDepth 100000 in
set_option maxHeartbeats 8000000 in
theorem expNN_pc {n : Nat} (h2 : 2 ≤ n) (hn : n < 256) : PC Tryz.prog 93 [.nils, .nilp, .g (.sl (wsG [10])), .g (.sl (wsG [n])), .g (.sl []), .g (.bool false)] ⟨[], [], []⟩ (.g (.sl (wsG (dig (10 ^ n))))) ⟨[], [], []⟩ := by
  have hal1 := alias_nil (p := .g (.sl (wsG [10])))
  have hal2 := alias_nil (p := .g (.sl (wsG [n])))
  have hgs := getStack_pc
  obtain ⟨hL8, hL2, hA0, hAn, hV0, hrd⟩ := exOk_spec h2 hn
  have hL : Lib.bitLen n ≤ 64 := by omega
  have hsh : IntKind.u64.wrap (((64 - Lib.bitLen n : Nat) : Int) + 1) = ((65 - Lib.bitLen n : Nat) : Int) := by rw [u64_wrap (n := 65 - Lib.bitLen n) (by omega) (by unfold WB; omega)]
  have hv0 : IntKind.u64.wrap ((n : Int) * 2 ^ min (IntKind.u64.wrap (((64 - Lib.bitLen n : Nat) : Int) + 1)).toNat IntKind.u64.bits) = (exV n (Lib.bitLen n) 0 : Int) := by
    rw [hsh, hV0, Int.toNat_natCast, Nat.min_eq_left (by show 65 - Lib.bitLen n ≤ 64; omega), ← u64_mod]
    congr 1
  have hw0 : IntKind.i64.wrap (64 - IntKind.i64.wrap (IntKind.u64.wrap (((64 - Lib.bitLen n : Nat) : Int) + 1))) = ((Lib.bitLen n - 1 : Nat) : Int) := by
    rw [hsh, show IntKind.i64.wrap ((65 - Lib.bitLen n : Nat) : Int) = ((65 - Lib.bitLen n : Nat) : Int) from w64 (by omega), w64 (by omega)]; omega
  have h10 : dig (10 ^ exA n (Lib.bitLen n) 0) = [10] := by rw [hA0]; exact dig_one (by decide) (by decide)
  have hnlz := nlz_pc (x := n) (by unfold WB; omega) hL
  generalize Lib.bitLen n = L at *
  refine PC_of_PM Tryz.func93 rfl rfl (rs := _) rfl (Nat.le_of_ble_eq_true (by kernel_rfl)) ?_
  repeat ((repeat refine PM_seq ?_); first | refine PM_cond_f rfl ?_ | refine PM_cond_t rfl ?_ | refine PM_skip ?_ | (refine PM_pw ?_; (repeat' (first | (first | ((first | refine qA ?_ | refine qB ?_ | refine xN ?_ | refine xE ?_ | refine xT ?_); try show PW _ _ _ _ _ _) | refine ro1 tabOk rfl rfl ?_ | refine ro2 tabOk rfl rfl ?_ | refine ro3 tabOk rfl rfl ?_ | refine rd1 tabOk rfl rfl ?_ | refine rd2 tabOk rfl rfl ?_ | refine rd3 tabOk rfl rfl ?_ | ((first | apply oR rfl rfl | (apply dF rfl rfl rfl; intro _) | (apply dP rfl rfl rfl; intro _) | (apply dL rfl rfl rfl; intro _) | apply dC rfl rfl rfl rfl); (focus (first | exact iA (g := wG 10) rfl (EL rfl) (SZ rfl) rfl rfl (by decide) rfl rfl | exact iA (g := wG n) rfl (EL rfl) (SZ rfl) rfl rfl (by decide) rfl rfl | exact cb [true] rfl rfl (EN rfl) (hal1) rfl rfl rfl rfl rfl rfl rfl rfl rfl rfl rfl | exact cb [true] rfl rfl (EN rfl) (hal2) rfl rfl rfl rfl rfl rfl rfl rfl rfl rfl rfl | exact cqP hgs | exact cb [] rfl rfl (EN rfl) (hgs) rfl rfl rfl rfl rfl rfl rfl rfl rfl rfl rfl | exact PO_pnil rfl Tryz.underlying98 rfl rfl | exact cJ | exact mG | exact bT | exact nD)); try exact kQ) | refine xS ?_ | refine xR ?_ | refine qxa rfl rfl mixed ?_ | refine qxb rfl rfl mixed ?_ | refine qxi rfl rfl rfl rfl rfl mixed ?_ | refine qxc rfl rfl mixed ?_ | refine qxd rfl rfl mixed ?_ | refine xB ?_ | refine xt rfl ?_ | refine xf rfl ?_) | (refine POps_split rfl rfl (fun h => ?_) (fun h => ?_) <;> fail_if_success (first | (have : true = true := h) | (have : false = false := h))) | (refine POpsD_split rfl rfl (fun h => ?_) (fun h => ?_) <;> fail_if_success (first | (have : true = true := h) | (have : false = false := h))) | refine PW_cond rfl (fun h => ?_) (fun h => ?_))); (all_goals (try (exfalso; have hh := beq_iff_eq.1 h; omega))); refine Or.inl (And.intro rfl ?_)))
  refine PM_defer (l := [_]) rfl rfl rfl (by intro t h; cases h) ?_
  (repeat (first | ((first | refine qA ?_ | refine qB ?_ | refine xN ?_ | refine xE ?_ | refine xT ?_); try show PW _ _ _ _ _ _) | refine ro1 tabOk rfl rfl ?_ | refine ro2 tabOk rfl rfl ?_ | refine ro3 tabOk rfl rfl ?_ | refine rd1 tabOk rfl rfl ?_ | refine rd2 tabOk rfl rfl ?_ | refine rd3 tabOk rfl rfl ?_ | ((first | apply oR rfl rfl | (apply dF rfl rfl rfl; intro _) | (apply dP rfl rfl rfl; intro _) | (apply dL rfl rfl rfl; intro _) | apply dC rfl rfl rfl rfl); (focus (first | exact cJ | exact mG | exact bT | exact nD)); try exact kQ) | refine xS ?_ | refine xR ?_ | refine qxa rfl rfl mixed ?_ | refine qxb rfl rfl mixed ?_ | refine qxi rfl rfl rfl rfl rfl mixed ?_ | refine qxc rfl rfl mixed ?_ | refine qxd rfl rfl mixed ?_ | refine xB ?_ | refine xt rfl ?_ | refine xf rfl ?_))
  refine ⟨_, rfl, ?_⟩
  refine PM_pw ?_
  (repeat' (first | (first | ((first | refine qA ?_ | refine qB ?_ | refine xN ?_ | refine xE ?_ | refine xT ?_); try show PW _ _ _ _ _ _) | refine ro1 tabOk rfl rfl ?_ | refine ro2 tabOk rfl rfl ?_ | refine ro3 tabOk rfl rfl ?_ | refine rd1 tabOk rfl rfl ?_ | refine rd2 tabOk rfl rfl ?_ | refine rd3 tabOk rfl rfl ?_ | ((first | apply oR rfl rfl | (apply dF rfl rfl rfl; intro _) | (apply dP rfl rfl rfl; intro _) | (apply dL rfl rfl rfl; intro _) | apply dC rfl rfl rfl rfl); (focus (first | exact iA (g := wG n) rfl (EL rfl) (SZ rfl) rfl rfl (by decide) rfl rfl | exact cJ | exact mG | exact bT | exact nD)); try exact kQ) | refine xU [27] rfl ?_ | refine xR ?_ | refine qxa rfl rfl mixed ?_ | refine qxb rfl rfl mixed ?_ | refine qxi rfl rfl rfl rfl rfl mixed ?_ | refine qxc rfl rfl mixed ?_ | refine qxd rfl rfl mixed ?_ | refine xB ?_ | refine xt rfl ?_ | refine xf rfl ?_) | (refine POps_split rfl rfl (fun h => ?_) (fun h => ?_) <;> fail_if_success (first | (have : true = true := h) | (have : false = false := h))) | (refine POpsD_split rfl rfl (fun h => ?_) (fun h => ?_) <;> fail_if_success (first | (have : true = true := h) | (have : false = false := h))) | refine PW_cond rfl (fun h => ?_) (fun h => ?_)))
  all_goals (try (exfalso; have hh := beq_iff_eq.1 h; omega))
  clear h
  have hset := set_pc (xs := [10]) (by decide) (by decide)
  (repeat (first | ((first | refine qA ?_ | refine qB ?_ | refine xN ?_ | refine xE ?_ | refine xT ?_); try show PW _ _ _ _ _ _) | refine ro1 tabOk rfl rfl ?_ | refine ro2 tabOk rfl rfl ?_ | refine ro3 tabOk rfl rfl ?_ | refine rd1 tabOk rfl rfl ?_ | refine rd2 tabOk rfl rfl ?_ | refine rd3 tabOk rfl rfl ?_ | ((first | apply oR rfl rfl | (apply dF rfl rfl rfl; intro _) | (apply dP rfl rfl rfl; intro _) | (apply dL rfl rfl rfl; intro _) | apply dC rfl rfl rfl rfl); (focus (first | exact cd [true] rfl rfl (EN rfl) (hset) rfl rfl rfl rfl rfl rfl rfl rfl rfl rfl rfl | exact iA (g := wG n) rfl (EL rfl) (SZ rfl) rfl rfl (show (0 : Int) ≤ IntKind.i64.wrap (((1 : Nat) : Int) - 1) by decide) rfl rfl | exact cqP hnlz | exact PO_as (PO_shl rfl rfl rfl (by rw [hsh]; exact Int.natCast_nonneg _)) (congrArg (fun k => PV.g (.int .u64 k)) hv0) | exact cJ | exact mG | exact bT | exact nD)); try exact kQ) | refine xS ?_ | refine xR ?_ | refine qxa rfl rfl mixed ?_ | refine qxb rfl rfl mixed ?_ | refine qxi rfl rfl rfl rfl rfl mixed ?_ | refine qxc rfl rfl mixed ?_ | refine qxd rfl rfl mixed ?_ | refine xB ?_ | refine xt rfl ?_ | refine xf rfl ?_))
  refine PW_loop (S := XS) (fun s => slots [(0, .vw 0 s.gz 0 (dig (10 ^ exA n L s.j)).length s.cz), (2, .g (.sl (wsG [10]))), (3, .g (.sl (wsG [n]))), (4, .g (.sl [])), (15, .g (wG (exV n L s.j))), (18, .g (.int .i64 ((L - 1 : Nat) : Int))), (19, zzP s.zz), (21, .g (.int .i64 (s.j : Int)))])
    (fun s => ⟨[[.nilp]], [], AR s.gz s.wz :: zzM s.zz⟩)
    (fun s => s.j ≤ L - 1 ∧ ZOk s.wz s.cz (10 ^ exA n L s.j) ∧ (∀ g l c w, s.zz = some (g, l, c, w) → ROk w c) ∧ (s.zz = none → s.j = 0)) (fun s => L - 1 - s.j) ⟨0, 0, 1, [10], none⟩ ⟨?_, ?_, ?_, ?_⟩
    (SlotsOk.le ?_) (HLe.of_eq ?_) (fun s hs => ?_)
  · exact Nat.zero_le _
  · show ZOk [10] 1 (10 ^ exA n L 0)
    refine ⟨?_, ?_, ?_, ?_, ?_, ?_⟩
    · intro w hw; simp at hw; subst hw; decide
    · rw [h10]; rfl
    · rw [h10]; exact Nat.le_refl _
    · decide
    · decide
    · decide
  · intro _ _ _ _ h; cases h
  · intro _; rfl
  · refine ⟨.inl ?_, .inl rfl, .inl rfl, .inl rfl, .inl rfl, .inl (congrArg (fun k => PV.g (.int .i64 k)) hw0), .inl rfl, .inl rfl, trivial⟩
    rw [h10]; rfl
  · rfl
  obtain ⟨j, gz, cz, wz, zz⟩ := s
  obtain ⟨hj, hz, hr, h0⟩ := hs
  simp only at hj hz hr h0
  clear hal1 hal2 hgs hset hnlz hv0 hsh hw0
  by_cases hlast : j = L - 1
  · subst hlast
    rw [hAn] at hz ⊢
    have hd : decide (((L - 1 : Nat) : Int) < ((L - 1 : Nat) : Int)) = false := decide_eq_false (by omega)
    cases zz with
    | none => exfalso; have := h0 rfl; omega
    | some q =>
      obtain ⟨gzz, lzz, czz, wzz⟩ := q
      (repeat' (first | (first | ((first | refine qA ?_ | refine qB ?_ | refine xN ?_ | refine xE ?_ | refine xT ?_); try show PW _ _ _ _ _ _) | refine ro1 tabOk rfl rfl ?_ | refine ro2 tabOk rfl rfl ?_ | refine ro3 tabOk rfl rfl ?_ | refine rd1 tabOk rfl rfl ?_ | refine rd2 tabOk rfl rfl ?_ | refine rd3 tabOk rfl rfl ?_ | ((first | apply oR rfl rfl | (apply dF rfl rfl rfl; intro _) | (apply dP rfl rfl rfl; intro _) | (apply dL rfl rfl rfl; intro _) | apply dC rfl rfl rfl rfl); (focus (first | exact cJ | exact mG | exact bT | exact nD)); try exact kQ) | refine xU [46] rfl ?_ | refine xR ?_ | refine qxa rfl rfl mixed ?_ | refine qxb rfl rfl mixed ?_ | refine qxi rfl rfl rfl rfl rfl mixed ?_ | refine qxc rfl rfl mixed ?_ | refine qxd rfl rfl mixed ?_ | refine xB ?_ | refine xt rfl ?_ | refine xf rfl ?_) | (refine POps_split rfl rfl (fun h => ?_) (fun h => ?_) <;> fail_if_success (first | (have : true = true := h) | (have : false = false := h))) | (refine POpsD_split rfl rfl (fun h => ?_) (fun h => ?_) <;> fail_if_success (first | (have : true = true := h) | (have : false = false := h))) | refine PW_cond rfl (fun h => ?_) (fun h => ?_)))
      · exfalso; have hh := of_decide_eq_true h; dsimp only at hh; omega
      clear h
      have hlen := Nat.le_trans hz.le hz.cm
      have hok := hz.part
      have hnd : nlen (dig (10 ^ n)) = (dig (10 ^ n)).length := by
        have := nlen_dig (okW_dig (10 ^ n))
        rw [val_dig] at this
        exact this.symm
      have hnorm := norm_pc (g := gz) (o := 0) (n := (dig (10 ^ n)).length) (cap := cz) (ws := wz) (l := dig (10 ^ n)) hok (by have := hz.le; have := hz.cw; omega) hz.le (by unfold maxLen; omega)
      rw [hnd] at hnorm
      have htk : ((wsG wz).drop 0).take (dig (10 ^ n)).length = wsG (dig (10 ^ n)) := by
        rw [List.drop_zero, wsG, ← List.map_take, hz.tk]
        rfl
      have hfree := @free_pcd (gz + 1) gzz wzz
      generalize dig (10 ^ n) = Z at *
      (repeat (first | ((first | refine qA ?_ | refine qB ?_ | refine xN ?_ | refine xE ?_ | refine xT ?_); try show PW _ _ _ _ _ _) | refine ro1 tabOk rfl rfl ?_ | refine ro2 tabOk rfl rfl ?_ | refine ro3 tabOk rfl rfl ?_ | refine rd1 tabOk rfl rfl ?_ | refine rd2 tabOk rfl rfl ?_ | refine rd3 tabOk rfl rfl ?_ | ((first | apply oR rfl rfl | (apply dF rfl rfl rfl; intro _) | (apply dP rfl rfl rfl; intro _) | (apply dL rfl rfl rfl; intro _) | apply dC rfl rfl rfl rfl); (focus (first | exact cJ | exact mG | exact bT | exact nD)); try exact kQ) | refine xU [62] rfl ?_ | refine xR ?_ | refine qxa rfl rfl mixed ?_ | refine qxb rfl rfl mixed ?_ | refine qxi rfl rfl rfl rfl rfl mixed ?_ | refine qxc rfl rfl mixed ?_ | refine qxd rfl rfl mixed ?_ | refine xB ?_ | refine xt rfl ?_ | refine xf rfl ?_))
      refine PW_loop_none ?_
      (repeat (first | ((first | refine qA ?_ | refine qB ?_ | refine xN ?_ | refine xE ?_ | refine xT ?_); try show PW _ _ _ _ _ _) | refine ro1 tabOk rfl rfl ?_ | refine ro2 tabOk rfl rfl ?_ | refine ro3 tabOk rfl rfl ?_ | refine rd1 tabOk rfl rfl ?_ | refine rd2 tabOk rfl rfl ?_ | refine rd3 tabOk rfl rfl ?_ | ((first | apply oR rfl rfl | (apply dF rfl rfl rfl; intro _) | (apply dP rfl rfl rfl; intro _) | (apply dL rfl rfl rfl; intro _) | apply dC rfl rfl rfl rfl); (focus (first | exact cJ | exact mG | exact bT | exact nD)); try exact kQ) | refine xU [62] rfl ?_ | refine xR ?_ | refine qxa rfl rfl mixed ?_ | refine qxb rfl rfl mixed ?_ | refine qxi rfl rfl rfl rfl rfl mixed ?_ | refine qxc rfl rfl mixed ?_ | refine qxd rfl rfl mixed ?_ | refine xB ?_ | refine xt rfl ?_ | refine xf rfl ?_))
      refine PW_cut (slots [(12, .vw 0 gz 0 Z.length cz)]) ⟨[[.nilp]], [], [AR gz wz, AR gzz wzz]⟩ ?_ ?_
      · (repeat (first | ((first | refine qA ?_ | refine qB ?_ | refine xN ?_ | refine xE ?_ | refine xT ?_); try show PW _ _ _ _ _ _) | refine ro1 tabOk rfl rfl ?_ | refine ro2 tabOk rfl rfl ?_ | refine ro3 tabOk rfl rfl ?_ | refine rd1 tabOk rfl rfl ?_ | refine rd2 tabOk rfl rfl ?_ | refine rd3 tabOk rfl rfl ?_ | ((first | apply oR rfl rfl | (apply dF rfl rfl rfl; intro _) | (apply dP rfl rfl rfl; intro _) | (apply dL rfl rfl rfl; intro _) | apply dC rfl rfl rfl rfl); (focus (first | exact cd [] rfl rfl (EN rfl) (hnorm) rfl rfl rfl rfl rfl rfl rfl rfl rfl rfl rfl | exact cJ | exact mG | exact bT | exact nD)); try exact kQ) | refine xS ?_ | refine xR ?_ | refine qxa rfl rfl mixed ?_ | refine qxb rfl rfl mixed ?_ | refine qxi rfl rfl rfl rfl rfl mixed ?_ | refine qxc rfl rfl mixed ?_ | refine qxd rfl rfl mixed ?_ | refine xB ?_ | refine xt rfl ?_ | refine xf rfl ?_))
        exact ⟨SlotsOk.le ⟨.inl rfl, trivial⟩, HLe.of_eq rfl⟩
      refine PW_freeze 0 rfl (PW_weak (env' := slots [(12, .g (.sl (wsG Z)))]) (H' := ⟨[[.nilp]], [], [.gone (gz + 1), AR gzz wzz]⟩) (SlotsOk.le ⟨.inl ?_, trivial⟩) (HLe.of_eq rfl) ?_)
      · show frz 0 gz (wsG wz) (.vw 0 gz 0 Z.length cz) = _
        simp [frz, ← htk]
      (repeat (first | ((first | refine qA ?_ | refine qB ?_ | refine xN ?_ | refine xE ?_ | refine xT ?_); try show PW _ _ _ _ _ _) | refine ro1 tabOk rfl rfl ?_ | refine ro2 tabOk rfl rfl ?_ | refine ro3 tabOk rfl rfl ?_ | refine rd1 tabOk rfl rfl ?_ | refine rd2 tabOk rfl rfl ?_ | refine rd3 tabOk rfl rfl ?_ | ((first | apply oR rfl rfl | (apply dF rfl rfl rfl; intro _) | (apply dP rfl rfl rfl; intro _) | (apply dL rfl rfl rfl; intro _) | apply dC rfl rfl rfl rfl); (focus (first | exact cJ | exact mG | exact bT | exact nD)); try exact kQ) | refine xS ?_ | refine xR ?_ | refine qxa rfl rfl mixed ?_ | refine qxb rfl rfl mixed ?_ | refine qxi rfl rfl rfl rfl rfl mixed ?_ | refine qxc rfl rfl mixed ?_ | refine qxd rfl rfl mixed ?_ | refine xB ?_ | refine xt rfl ?_ | refine xf rfl ?_))
      refine Or.inr (And.intro rfl ⟨_, EN rfl, hfree, ?_⟩)
      (first | refine Ret_box wN rfl rfl rfl rfl rfl rfl rfl rfl rfl ?_ ?_ ?_ rfl | refine Ret_box (wC vT wN) rfl rfl rfl rfl rfl rfl rfl rfl rfl ?_ ?_ ?_ rfl | refine Ret_box (wC (vA (AG rfl) (SZ rfl) rfl rfl (lB rfl)) wN) rfl rfl rfl rfl rfl rfl rfl rfl rfl ?_ ?_ ?_ rfl | refine Ret_box (wC vT (wC vT wN)) rfl rfl rfl rfl rfl rfl rfl rfl rfl ?_ ?_ ?_ rfl | refine Ret_box (wC (vA (AG rfl) (SZ rfl) rfl rfl (lB rfl)) (wC vT wN)) rfl rfl rfl rfl rfl rfl rfl rfl rfl ?_ ?_ ?_ rfl)
      all_goals rfl
  have hjl : j < L - 1 := by omega
  obtain ⟨hle, hv1, hbit0, hbit1⟩ := hrd j hjl
  have hX0 : 10 ^ exA n L j ≠ 0 := Nat.ne_of_gt (Nat.pow_pos (by decide))
  have hX2 : 10 ^ exA n L j * 10 ^ exA n L j ≠ 0 := Nat.mul_ne_zero hX0 hX0
  have hlen := ten_len hle
  generalize hX : 10 ^ exA n L j = X at *
  have hsv : IntKind.u64.wrap ((exV n L j : Int) * 2 ^ min (1 : Int).toNat IntKind.u64.bits) = (exV n L (j + 1) : Int) := by
    rw [hv1, show ((exV n L j : Int) * 2 ^ min (1 : Int).toNat IntKind.u64.bits) = ((exV n L j * 2 : Nat) : Int) by
      rw [show min (1 : Int).toNat IntKind.u64.bits = 1 from rfl]; push_cast; rfl]
    exact u64_mod _
  have hj1 : IntKind.i64.wrap ((j : Int) + 1) = ((j + 1 : Nat) : Int) := by rw [w64 (by omega)]; omega
  have hl2 : (dig (X * X)).length ≤ 100 := by
    have := prod_lt (okW_dig X) (okW_dig X)
    rw [val_dig] at this
    have := dig_length_le this
    omega
  have htop := and_top (v := exV n L j) (Nat.mod_lt _ (by decide))
  have heq1 : (IntKind.u64.wrap (((BitVec.ofInt IntKind.u64.bits (exV n L j : Int) &&& BitVec.ofInt IntKind.u64.bits 9223372036854775808).toNat : Nat) : Int) != 0) = true → 10 ^ exA n L (j + 1) = X * X * 10 := by
    intro h
    rw [htop] at h
    have : exV n L j &&& 9223372036854775808 ≠ 0 := fun e => by rw [e] at h; simp at h
    rw [hbit1 this, Nat.pow_succ, Nat.two_mul, Nat.pow_add, hX]
  have heq0 : (IntKind.u64.wrap (((BitVec.ofInt IntKind.u64.bits (exV n L j : Int) &&& BitVec.ofInt IntKind.u64.bits 9223372036854775808).toNat : Nat) : Int) != 0) = false → 10 ^ exA n L (j + 1) = X * X := by
    intro h
    rw [htop] at h
    have : exV n L j &&& 9223372036854775808 = 0 := by simpa using h
    rw [hbit0 this, Nat.two_mul, Nat.pow_add, hX]
  clear hbit0 hbit1 hrd htop hv1
  cases zz with
  | none =>
    obtain ⟨w1, c1, hz1, hc⟩ := sqr_new (g := gz) hz hX0 hlen
    (repeat' (first | (first | ((first | refine qA ?_ | refine qB ?_ | refine xN ?_ | refine xE ?_ | refine xT ?_); try show PW _ _ _ _ _ _) | refine ro1 tabOk rfl rfl ?_ | refine ro2 tabOk rfl rfl ?_ | refine ro3 tabOk rfl rfl ?_ | refine rd1 tabOk rfl rfl ?_ | refine rd2 tabOk rfl rfl ?_ | refine rd3 tabOk rfl rfl ?_ | ((first | apply oR rfl rfl | (apply dF rfl rfl rfl; intro _) | (apply dP rfl rfl rfl; intro _) | (apply dL rfl rfl rfl; intro _) | apply dC rfl rfl rfl rfl); (focus (first | exact cd [true] rfl rfl (EN rfl) (hc) rfl rfl rfl rfl rfl rfl rfl rfl rfl rfl rfl | exact cJ | exact mG | exact bT | exact nD)); try exact kQ) | refine xU [39] rfl ?_ | refine xR ?_ | refine qxa rfl rfl mixed ?_ | refine qxb rfl rfl mixed ?_ | refine qxi rfl rfl rfl rfl rfl mixed ?_ | refine qxc rfl rfl mixed ?_ | refine qxd rfl rfl mixed ?_ | refine xB ?_ | refine xt rfl ?_ | refine xf rfl ?_) | (refine POps_split rfl rfl (fun h => ?_) (fun h => ?_) <;> fail_if_success (first | (have : true = true := h) | (have : false = false := h))) | (refine POpsD_split rfl rfl (fun h => ?_) (fun h => ?_) <;> fail_if_success (first | (have : true = true := h) | (have : false = false := h))) | refine PW_cond rfl (fun h => ?_) (fun h => ?_)))
    · clear h
      refine PW_swap 0 1 rfl rfl rfl (SZ rfl) (SZ rfl) ?_
      refine PW_weak (env' := slots [(0, .vw 0 (gz + 1) 0 ((dig (X * X)).length) c1), (2, .g (.sl (wsG [10]))), (3, .g (.sl (wsG [n]))), (4, .g (.sl [])), (15, .g (wG (exV n L j))), (18, .g (.int .i64 ((L - 1 : Nat) : Int))), (19, .vw 1 (0 + 1) 0 ((dig X).length) cz), (21, .g (.int .i64 (j : Int)))]) (H' := ⟨[[.nilp]], [], [AR (gz + 1) w1, AR (0 + 1) wz]⟩) (SlotsOk.le ?_) (HLe.of_eq ?_) ?_
      · refine ⟨.inl ?_, .inl rfl, .inl rfl, .inl rfl, .inl rfl, .inl rfl, .inl ?_, .inl rfl, trivial⟩
        · show swp 1 (0) 0 (gz) (.vw 1 (0) 0 ((dig (X * X)).length) c1) = _
          simp [swp]
        · show swp 1 (0) 0 (gz) (.vw 0 (gz) 0 ((dig X).length) cz) = _
          simp [swp, show Nat.beq 0 1 = false from rfl]
      · rfl
      obtain ⟨g3, w3, c3, hz3, hm⟩ := mul_any (gz := 0 + 1) (lz := (dig X).length) (g := gz + 1) (y := 10) (hz).room hz1 hX2 (by omega) (by decide) (by decide)
      (repeat' (first | (first | ((first | refine qA ?_ | refine qB ?_ | refine xN ?_ | refine xE ?_ | refine xT ?_); try show PW _ _ _ _ _ _) | refine ro1 tabOk rfl rfl ?_ | refine ro2 tabOk rfl rfl ?_ | refine ro3 tabOk rfl rfl ?_ | refine rd1 tabOk rfl rfl ?_ | refine rd2 tabOk rfl rfl ?_ | refine rd3 tabOk rfl rfl ?_ | ((first | apply oR rfl rfl | (apply dF rfl rfl rfl; intro _) | (apply dP rfl rfl rfl; intro _) | (apply dL rfl rfl rfl; intro _) | apply dC rfl rfl rfl rfl); (focus (first | exact cd [] rfl rfl (EN rfl) (hm) rfl rfl rfl rfl rfl rfl rfl rfl rfl rfl rfl | exact cJ | exact mG | exact bT | exact nD)); try exact kQ) | refine xU [42, 45] rfl ?_ | refine xR ?_ | refine qxa rfl rfl mixed ?_ | refine qxb rfl rfl mixed ?_ | refine qxi rfl rfl rfl rfl rfl mixed ?_ | refine qxc rfl rfl mixed ?_ | refine qxd rfl rfl mixed ?_ | refine xB ?_ | refine xt rfl ?_ | refine xf rfl ?_) | (refine POps_split rfl rfl (fun h => ?_) (fun h => ?_) <;> fail_if_success (first | (have : true = true := h) | (have : false = false := h))) | (refine POpsD_split rfl rfl (fun h => ?_) (fun h => ?_) <;> fail_if_success (first | (have : true = true := h) | (have : false = false := h))) | refine PW_cond rfl (fun h => ?_) (fun h => ?_)))
      · have heq := heq1 h
        clear h
        refine PW_swap 0 1 rfl rfl rfl (SZ rfl) (SZ rfl) ?_
        refine PW_weak (env' := slots [(0, .vw 0 (gz + 1 + 1) 0 ((dig (X * X * 10)).length) c3), (2, .g (.sl (wsG [10]))), (3, .g (.sl (wsG [n]))), (4, .g (.sl [])), (15, .g (wG (exV n L j))), (18, .g (.int .i64 ((L - 1 : Nat) : Int))), (19, .vw 1 (g3 + 1) 0 ((dig (X * X)).length) c1), (21, .g (.int .i64 (j : Int)))]) (H' := ⟨[[.nilp]], [], [AR (gz + 1 + 1) w3, AR (g3 + 1) w1]⟩) (SlotsOk.le ?_) (HLe.of_eq ?_) ?_
        · refine ⟨.inl ?_, .inl rfl, .inl rfl, .inl rfl, .inl rfl, .inl rfl, .inl ?_, .inl rfl, trivial⟩
          · show swp 1 (g3) 0 (gz + 1) (.vw 1 (g3) 0 ((dig (X * X * 10)).length) c3) = _
            simp [swp]
          · show swp 1 (g3) 0 (gz + 1) (.vw 0 (gz + 1) 0 ((dig (X * X)).length) c1) = _
            simp [swp, show Nat.beq 0 1 = false from rfl]
        · rfl
        (repeat (first | ((first | refine qA ?_ | refine qB ?_ | refine xN ?_ | refine xE ?_ | refine xT ?_); try show PW _ _ _ _ _ _) | refine ro1 tabOk rfl rfl ?_ | refine ro2 tabOk rfl rfl ?_ | refine ro3 tabOk rfl rfl ?_ | refine rd1 tabOk rfl rfl ?_ | refine rd2 tabOk rfl rfl ?_ | refine rd3 tabOk rfl rfl ?_ | ((first | apply oR rfl rfl | (apply dF rfl rfl rfl; intro _) | (apply dP rfl rfl rfl; intro _) | (apply dL rfl rfl rfl; intro _) | apply dC rfl rfl rfl rfl); (focus (first | exact PO_as (PO_shl rfl rfl rfl (by decide)) (congrArg (fun k => PV.g (.int .u64 k)) hsv) | exact cJ | exact mG | exact bT | exact nD)); try exact kQ) | refine xS ?_ | refine xR ?_ | refine qxa rfl rfl mixed ?_ | refine qxb rfl rfl mixed ?_ | refine qxi rfl rfl rfl rfl rfl mixed ?_ | refine qxc rfl rfl mixed ?_ | refine qxd rfl rfl mixed ?_ | refine xB ?_ | refine xt rfl ?_ | refine xf rfl ?_))
        refine ⟨⟨j + 1, gz + 1 + 1, c3, w3, some (g3 + 1, (dig (X * X)).length, c1, w1)⟩, ⟨by show j + 1 ≤ L - 1; omega, ?_, ?_, ?_⟩, ?_, SlotsOk.le ?_, HLe.of_eq ?_⟩
        · show ZOk _ _ (10 ^ exA n L (j + 1))
          rw [heq]
          exact hz3
        · intro g l c w e
          cases e
          exact hz1.room
        · intro e
          cases e
        · show L - 1 - (j + 1) < L - 1 - j
          omega
        · refine ⟨.inl ?_, .inl rfl, .inl rfl, .inl rfl, .inl rfl, .inl rfl, .inl rfl, .inl ?_, trivial⟩
          · show _ = PV.vw 0 _ 0 (dig (10 ^ exA n L (j + 1))).length _
            rw [heq]
            rfl
          · exact congrArg (fun k => PV.g (.int .i64 k)) hj1
        · rfl
      · have heq := heq0 h
        clear h
        (repeat (first | ((first | refine qA ?_ | refine qB ?_ | refine xN ?_ | refine xE ?_ | refine xT ?_); try show PW _ _ _ _ _ _) | refine ro1 tabOk rfl rfl ?_ | refine ro2 tabOk rfl rfl ?_ | refine ro3 tabOk rfl rfl ?_ | refine rd1 tabOk rfl rfl ?_ | refine rd2 tabOk rfl rfl ?_ | refine rd3 tabOk rfl rfl ?_ | ((first | apply oR rfl rfl | (apply dF rfl rfl rfl; intro _) | (apply dP rfl rfl rfl; intro _) | (apply dL rfl rfl rfl; intro _) | apply dC rfl rfl rfl rfl); (focus (first | exact PO_as (PO_shl rfl rfl rfl (by decide)) (congrArg (fun k => PV.g (.int .u64 k)) hsv) | exact cJ | exact mG | exact bT | exact nD)); try exact kQ) | refine xS ?_ | refine xR ?_ | refine qxa rfl rfl mixed ?_ | refine qxb rfl rfl mixed ?_ | refine qxi rfl rfl rfl rfl rfl mixed ?_ | refine qxc rfl rfl mixed ?_ | refine qxd rfl rfl mixed ?_ | refine xB ?_ | refine xt rfl ?_ | refine xf rfl ?_))
        refine ⟨⟨j + 1, gz + 1, c1, w1, some (0 + 1, (dig X).length, cz, wz)⟩, ⟨by show j + 1 ≤ L - 1; omega, ?_, ?_, ?_⟩, ?_, SlotsOk.le ?_, HLe.of_eq ?_⟩
        · show ZOk _ _ (10 ^ exA n L (j + 1))
          rw [heq]
          exact hz1
        · intro g l c w e
          cases e
          exact (hz).room
        · intro e
          cases e
        · show L - 1 - (j + 1) < L - 1 - j
          omega
        · refine ⟨.inl ?_, .inl rfl, .inl rfl, .inl rfl, .inl rfl, .inl rfl, .inl rfl, .inl ?_, trivial⟩
          · show _ = PV.vw 0 _ 0 (dig (10 ^ exA n L (j + 1))).length _
            rw [heq]
            rfl
          · exact congrArg (fun k => PV.g (.int .i64 k)) hj1
        · rfl
    · exfalso; have hh := of_decide_eq_false h; dsimp only at hh; omega
  | some q =>
    obtain ⟨gzz, lzz, czz, wzz⟩ := q
    have hrr := hr _ _ _ _ rfl
    obtain ⟨g1, w1, c1, hz1, hc⟩ := sqr_any (gz := gzz) (lz := lzz) (g := gz) hrr hz hX0 hlen
    (repeat' (first | (first | ((first | refine qA ?_ | refine qB ?_ | refine xN ?_ | refine xE ?_ | refine xT ?_); try show PW _ _ _ _ _ _) | refine ro1 tabOk rfl rfl ?_ | refine ro2 tabOk rfl rfl ?_ | refine ro3 tabOk rfl rfl ?_ | refine rd1 tabOk rfl rfl ?_ | refine rd2 tabOk rfl rfl ?_ | refine rd3 tabOk rfl rfl ?_ | ((first | apply oR rfl rfl | (apply dF rfl rfl rfl; intro _) | (apply dP rfl rfl rfl; intro _) | (apply dL rfl rfl rfl; intro _) | apply dC rfl rfl rfl rfl); (focus (first | exact cd [] rfl rfl (EN rfl) (hc) rfl rfl rfl rfl rfl rfl rfl rfl rfl rfl rfl | exact cJ | exact mG | exact bT | exact nD)); try exact kQ) | refine xU [39] rfl ?_ | refine xR ?_ | refine qxa rfl rfl mixed ?_ | refine qxb rfl rfl mixed ?_ | refine qxi rfl rfl rfl rfl rfl mixed ?_ | refine qxc rfl rfl mixed ?_ | refine qxd rfl rfl mixed ?_ | refine xB ?_ | refine xt rfl ?_ | refine xf rfl ?_) | (refine POps_split rfl rfl (fun h => ?_) (fun h => ?_) <;> fail_if_success (first | (have : true = true := h) | (have : false = false := h))) | (refine POpsD_split rfl rfl (fun h => ?_) (fun h => ?_) <;> fail_if_success (first | (have : true = true := h) | (have : false = false := h))) | refine PW_cond rfl (fun h => ?_) (fun h => ?_)))
    · clear h
      refine PW_swap 0 1 rfl rfl rfl (SZ rfl) (SZ rfl) ?_
      refine PW_weak (env' := slots [(0, .vw 0 (gz + 1) 0 ((dig (X * X)).length) c1), (2, .g (.sl (wsG [10]))), (3, .g (.sl (wsG [n]))), (4, .g (.sl [])), (15, .g (wG (exV n L j))), (18, .g (.int .i64 ((L - 1 : Nat) : Int))), (19, .vw 1 (g1 + 1) 0 ((dig X).length) cz), (21, .g (.int .i64 (j : Int)))]) (H' := ⟨[[.nilp]], [], [AR (gz + 1) w1, AR (g1 + 1) wz]⟩) (SlotsOk.le ?_) (HLe.of_eq ?_) ?_
      · refine ⟨.inl ?_, .inl rfl, .inl rfl, .inl rfl, .inl rfl, .inl rfl, .inl ?_, .inl rfl, trivial⟩
        · show swp 1 (g1) 0 (gz) (.vw 1 (g1) 0 ((dig (X * X)).length) c1) = _
          simp [swp]
        · show swp 1 (g1) 0 (gz) (.vw 0 (gz) 0 ((dig X).length) cz) = _
          simp [swp, show Nat.beq 0 1 = false from rfl]
      · rfl
      obtain ⟨g3, w3, c3, hz3, hm⟩ := mul_any (gz := g1 + 1) (lz := (dig X).length) (g := gz + 1) (y := 10) (hz).room hz1 hX2 (by omega) (by decide) (by decide)
      (repeat' (first | (first | ((first | refine qA ?_ | refine qB ?_ | refine xN ?_ | refine xE ?_ | refine xT ?_); try show PW _ _ _ _ _ _) | refine ro1 tabOk rfl rfl ?_ | refine ro2 tabOk rfl rfl ?_ | refine ro3 tabOk rfl rfl ?_ | refine rd1 tabOk rfl rfl ?_ | refine rd2 tabOk rfl rfl ?_ | refine rd3 tabOk rfl rfl ?_ | ((first | apply oR rfl rfl | (apply dF rfl rfl rfl; intro _) | (apply dP rfl rfl rfl; intro _) | (apply dL rfl rfl rfl; intro _) | apply dC rfl rfl rfl rfl); (focus (first | exact cd [] rfl rfl (EN rfl) (hm) rfl rfl rfl rfl rfl rfl rfl rfl rfl rfl rfl | exact cJ | exact mG | exact bT | exact nD)); try exact kQ) | refine xU [42, 45] rfl ?_ | refine xR ?_ | refine qxa rfl rfl mixed ?_ | refine qxb rfl rfl mixed ?_ | refine qxi rfl rfl rfl rfl rfl mixed ?_ | refine qxc rfl rfl mixed ?_ | refine qxd rfl rfl mixed ?_ | refine xB ?_ | refine xt rfl ?_ | refine xf rfl ?_) | (refine POps_split rfl rfl (fun h => ?_) (fun h => ?_) <;> fail_if_success (first | (have : true = true := h) | (have : false = false := h))) | (refine POpsD_split rfl rfl (fun h => ?_) (fun h => ?_) <;> fail_if_success (first | (have : true = true := h) | (have : false = false := h))) | refine PW_cond rfl (fun h => ?_) (fun h => ?_)))
      · have heq := heq1 h
        clear h
        refine PW_swap 0 1 rfl rfl rfl (SZ rfl) (SZ rfl) ?_
        refine PW_weak (env' := slots [(0, .vw 0 (gz + 1 + 1) 0 ((dig (X * X * 10)).length) c3), (2, .g (.sl (wsG [10]))), (3, .g (.sl (wsG [n]))), (4, .g (.sl [])), (15, .g (wG (exV n L j))), (18, .g (.int .i64 ((L - 1 : Nat) : Int))), (19, .vw 1 (g3 + 1) 0 ((dig (X * X)).length) c1), (21, .g (.int .i64 (j : Int)))]) (H' := ⟨[[.nilp]], [], [AR (gz + 1 + 1) w3, AR (g3 + 1) w1]⟩) (SlotsOk.le ?_) (HLe.of_eq ?_) ?_
        · refine ⟨.inl ?_, .inl rfl, .inl rfl, .inl rfl, .inl rfl, .inl rfl, .inl ?_, .inl rfl, trivial⟩
          · show swp 1 (g3) 0 (gz + 1) (.vw 1 (g3) 0 ((dig (X * X * 10)).length) c3) = _
            simp [swp]
          · show swp 1 (g3) 0 (gz + 1) (.vw 0 (gz + 1) 0 ((dig (X * X)).length) c1) = _
            simp [swp, show Nat.beq 0 1 = false from rfl]
        · rfl
        (repeat (first | ((first | refine qA ?_ | refine qB ?_ | refine xN ?_ | refine xE ?_ | refine xT ?_); try show PW _ _ _ _ _ _) | refine ro1 tabOk rfl rfl ?_ | refine ro2 tabOk rfl rfl ?_ | refine ro3 tabOk rfl rfl ?_ | refine rd1 tabOk rfl rfl ?_ | refine rd2 tabOk rfl rfl ?_ | refine rd3 tabOk rfl rfl ?_ | ((first | apply oR rfl rfl | (apply dF rfl rfl rfl; intro _) | (apply dP rfl rfl rfl; intro _) | (apply dL rfl rfl rfl; intro _) | apply dC rfl rfl rfl rfl); (focus (first | exact PO_as (PO_shl rfl rfl rfl (by decide)) (congrArg (fun k => PV.g (.int .u64 k)) hsv) | exact cJ | exact mG | exact bT | exact nD)); try exact kQ) | refine xS ?_ | refine xR ?_ | refine qxa rfl rfl mixed ?_ | refine qxb rfl rfl mixed ?_ | refine qxi rfl rfl rfl rfl rfl mixed ?_ | refine qxc rfl rfl mixed ?_ | refine qxd rfl rfl mixed ?_ | refine xB ?_ | refine xt rfl ?_ | refine xf rfl ?_))
        refine ⟨⟨j + 1, gz + 1 + 1, c3, w3, some (g3 + 1, (dig (X * X)).length, c1, w1)⟩, ⟨by show j + 1 ≤ L - 1; omega, ?_, ?_, ?_⟩, ?_, SlotsOk.le ?_, HLe.of_eq ?_⟩
        · show ZOk _ _ (10 ^ exA n L (j + 1))
          rw [heq]
          exact hz3
        · intro g l c w e
          cases e
          exact hz1.room
        · intro e
          cases e
        · show L - 1 - (j + 1) < L - 1 - j
          omega
        · refine ⟨.inl ?_, .inl rfl, .inl rfl, .inl rfl, .inl rfl, .inl rfl, .inl rfl, .inl ?_, trivial⟩
          · show _ = PV.vw 0 _ 0 (dig (10 ^ exA n L (j + 1))).length _
            rw [heq]
            rfl
          · exact congrArg (fun k => PV.g (.int .i64 k)) hj1
        · rfl
      · have heq := heq0 h
        clear h
        (repeat (first | ((first | refine qA ?_ | refine qB ?_ | refine xN ?_ | refine xE ?_ | refine xT ?_); try show PW _ _ _ _ _ _) | refine ro1 tabOk rfl rfl ?_ | refine ro2 tabOk rfl rfl ?_ | refine ro3 tabOk rfl rfl ?_ | refine rd1 tabOk rfl rfl ?_ | refine rd2 tabOk rfl rfl ?_ | refine rd3 tabOk rfl rfl ?_ | ((first | apply oR rfl rfl | (apply dF rfl rfl rfl; intro _) | (apply dP rfl rfl rfl; intro _) | (apply dL rfl rfl rfl; intro _) | apply dC rfl rfl rfl rfl); (focus (first | exact PO_as (PO_shl rfl rfl rfl (by decide)) (congrArg (fun k => PV.g (.int .u64 k)) hsv) | exact cJ | exact mG | exact bT | exact nD)); try exact kQ) | refine xS ?_ | refine xR ?_ | refine qxa rfl rfl mixed ?_ | refine qxb rfl rfl mixed ?_ | refine qxi rfl rfl rfl rfl rfl mixed ?_ | refine qxc rfl rfl mixed ?_ | refine qxd rfl rfl mixed ?_ | refine xB ?_ | refine xt rfl ?_ | refine xf rfl ?_))
        refine ⟨⟨j + 1, gz + 1, c1, w1, some (g1 + 1, (dig X).length, cz, wz)⟩, ⟨by show j + 1 ≤ L - 1; omega, ?_, ?_, ?_⟩, ?_, SlotsOk.le ?_, HLe.of_eq ?_⟩
        · show ZOk _ _ (10 ^ exA n L (j + 1))
          rw [heq]
          exact hz1
        · intro g l c w e
          cases e
          exact (hz).room
        · intro e
          cases e
        · show L - 1 - (j + 1) < L - 1 - j
          omega
        · refine ⟨.inl ?_, .inl rfl, .inl rfl, .inl rfl, .inl rfl, .inl rfl, .inl rfl, .inl ?_, trivial⟩
          · show _ = PV.vw 0 _ 0 (dig (10 ^ exA n L (j + 1))).length _
            rw [heq]
            rfl
          · exact congrArg (fun k => PV.g (.int .i64 k)) hj1
        · rfl
    · exfalso; have hh := of_decide_eq_false h; dsimp only at hh; omega
end Go.Proofs.YtdicineiaifahaaGreatDoor

