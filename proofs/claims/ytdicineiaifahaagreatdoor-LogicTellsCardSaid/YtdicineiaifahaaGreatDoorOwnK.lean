/- What the program's functions compute, each shown once; and plain laws of it. -/
import Derived.Test.YtdicineiaifahaaGreatDoorOwnH
import Derived.Test.YtdicineiaifahaaGreatDoorPureJ
namespace Go.Pure.V
open Go Go.Proofs Go.Proofs.YtdicineiaifahaaGreatDoor
attribute [local irreducible] PW POps POpsD PO PC Cond

theorem u32_wrap {n : Nat} : IntKind.u32.wrap (n : Int) = ((n % WB : Nat) : Int) := by
  simp only [IntKind.wrap, IntKind.signed, IntKind.bits, Bool.false_and, Bool.false_eq_true, if_false]
  unfold WB
  omega
theorem shr_nat {n s : Nat} (hs : s ≤ 64) : ((n : Int)).fdiv (2 ^ min ((s : Int)).toNat IntKind.u64.bits) = ((n / 2 ^ s : Nat) : Int) := by
  rw [Int.toNat_natCast, Nat.min_eq_left (show s ≤ IntKind.u64.bits from hs), show ((2 : Int) ^ s) = ((2 ^ s : Nat) : Int) by push_cast; rfl, Int.fdiv_eq_ediv_of_nonneg _ (Int.natCast_nonneg _)]
  rfl
theorem words_pc {x : Nat} (hx : x < WB * WB) : PC Tryz.prog 73 [.g (.int .u64 x)] ⟨[], [], []⟩ (.g (.sl (wsG (dig x)))) ⟨[], [], []⟩ := by
  have hlt : x / WB < WB := (Nat.div_lt_iff_lt_mul (by decide)).2 hx
  have ht := trim_g (l := [x % WB, x / WB]) (okW_cons.2 ⟨Nat.mod_lt _ (by decide), okW_cons.2 ⟨hlt, okW_nil⟩⟩) (by unfold maxLen; simp)
  have hv : val [x % WB, x / WB] = x := by
    rw [val_cons, val_cons, val_nil]
    have := Nat.mod_add_div x WB
    simpa using this
  rw [hv] at ht
  have e1 : GV.int .u32 (IntKind.u32.wrap (x : Int)) = wG (x % WB) := congrArg (GV.int .u32) u32_wrap
  have e2 : GV.int .u32 (IntKind.u32.wrap ((x : Int).fdiv (2 ^ min (32 : Int).toNat IntKind.u64.bits))) = wG (x / WB) := by
    show GV.int .u32 (IntKind.u32.wrap ((x : Int).fdiv (2 ^ min ((32 : Nat) : Int).toNat IntKind.u64.bits))) = wG (x / WB)
    rw [shr_nat (by decide), u32_wrap]
    exact congrArg wG (Nat.mod_eq_of_lt hlt)
  have ht' : PC Tryz.prog 74 [.g (.sl [GV.int .u32 (IntKind.u32.wrap (x : Int)), GV.int .u32 (IntKind.u32.wrap ((x : Int).fdiv (2 ^ min (32 : Int).toNat IntKind.u64.bits)))])] ⟨[], [], []⟩ (.g (.sl (wsG (dig x)))) ⟨[], [], []⟩ := by
    rw [e1, e2]; exact ht
  refine PC_of_PW Tryz.func73 rfl rfl (rs := _) rfl (Nat.le_of_ble_eq_true (by kernel_rfl)) ?_
  (repeat (first|((first|refine qA ?_|refine qB ?_|refine xN ?_|refine xE ?_|refine xT ?_); try show PW _ _ _ _ _ _)|refine ro1 tabOk rfl rfl ?_|refine ro2 tabOk rfl rfl ?_|refine ro3 tabOk rfl rfl ?_|(apply oR rfl rfl; (focus (first|exact PO_shr rfl rfl rfl (by decide)|exact cqP ht'|exact cJ|exact mG|exact bT|exact nD)))|refine xS ?_|refine xR ?_|refine xB ?_|refine xt rfl ?_|refine xf rfl ?_))
  (first|refine Ret_int (vC vT vN) rfl ?_|refine Ret_bool (vC vT vN) rfl ?_|refine Ret_g (vC vT vN) rfl ?_)
  rfl
theorem twin_pc {l : List Nat} (hm : l.length ≤ 1000000) : PC Tryz.prog 69 [.g (.sl (wsG l))] ⟨[], [], []⟩ (.g (.sl (wsG l))) ⟨[], [], []⟩ := by
  have hl := wsG_length l
  refine PC_of_PW Tryz.func69 rfl rfl (rs := _) rfl (Nat.le_of_ble_eq_true (by kernel_rfl)) ?_
  (repeat (first|((first|refine qA ?_|refine qB ?_|refine xN ?_|refine xE ?_|refine xT ?_); try show PW _ _ _ _ _ _)|refine ro1 tabOk rfl rfl ?_|refine ro2 tabOk rfl rfl ?_|refine ro3 tabOk rfl rfl ?_|(apply oR rfl rfl; (focus (first|exact PO_append_nilg rfl (EL rfl) (SZ rfl) (BY rfl) (ZR rfl) rfl rfl rfl rfl (fun x hx => by rw [wsG_cells x hx]; rfl) (by omega) (by unfold maxLen; omega)|exact cJ|exact mG|exact bT|exact nD)))|refine xS ?_|refine xR ?_|refine xB ?_|refine xt rfl ?_|refine xf rfl ?_))
  (first|refine Ret_int (vC vT vN) rfl ?_|refine Ret_bool (vC vT vN) rfl ?_|refine Ret_g (vC vT vN) rfl ?_)
  rfl
end Go.Pure.V


namespace Go.Pure.V
open Go Go.Proofs Go.Proofs.YtdicineiaifahaaGreatDoor
attribute [local irreducible] PW POps POpsD PO PC Cond

def cmpN (a b : Nat) : Int := if a < b then -1 else if b < a then 1 else 0
set_option maxRecDepth 100000 in
set_option maxHeartbeats 8000000 in
theorem cmp_pc {X Y : Nat} (hX : (dig X).length ≤ 100000) (hY : (dig Y).length ≤ 100000) : PC Tryz.prog 63 [.g (.sl (wsG (dig X))), .g (.sl (wsG (dig Y)))] ⟨[], [], []⟩ (.g (.int .i64 (cmpN X Y))) ⟨[], [], []⟩ := by
  have hlx := wsG_length (dig X)
  have hly := wsG_length (dig Y)
  have hox := okW_dig X
  have hoy := okW_dig Y
  have hlt : (dig X).length < (dig Y).length → cmpN X Y = -1 := fun h => by unfold cmpN; rw [if_pos (dig_len_lt h)]
  have hgt : (dig Y).length < (dig X).length → cmpN X Y = 1 := fun h => by have := dig_len_lt h; unfold cmpN; rw [if_neg (by omega), if_pos this]
  have hvx := val_dig X
  have hvy := val_dig Y
  generalize dig X = xs at *
  generalize dig Y = ys at *
  refine PC_of_PW Tryz.func63 rfl rfl (rs := _) rfl (Nat.le_of_ble_eq_true (by kernel_rfl)) ?_
  (repeat (first|((first|refine qA ?_|refine qB ?_|refine xN ?_|refine xE ?_|refine xT ?_); try show PW _ _ _ _ _ _)|refine ro1 tabOk rfl rfl ?_|refine ro2 tabOk rfl rfl ?_|refine ro3 tabOk rfl rfl ?_|refine rd1 tabOk rfl rfl ?_|refine rd2 tabOk rfl rfl ?_|refine rd3 tabOk rfl rfl ?_|((first|apply oR rfl rfl|(apply dF rfl rfl rfl; intro _)|(apply dP rfl rfl rfl; intro _)|(apply dL rfl rfl rfl; intro _)|apply dC rfl rfl rfl rfl); (focus (first|exact cJ|exact mG|exact bT|exact nD)); try exact kQ)|refine xS ?_|refine xR ?_|refine qxa rfl rfl mixed ?_|refine qxb rfl rfl mixed ?_|refine qxi rfl rfl rfl rfl rfl mixed ?_|refine qxc rfl rfl mixed ?_|refine qxd rfl rfl mixed ?_|refine xB ?_|refine xt rfl ?_|refine xf rfl ?_))
  (first|refine POps_split rfl rfl (fun h => ?_) (fun h => ?_)|refine POpsD_split rfl rfl (fun h => ?_) (fun h => ?_)|refine PW_cond rfl (fun h => ?_) (fun h => ?_))
  · have hne : xs.length ≠ ys.length := by intro e; rw [hlx, hly, e] at h; simp at h
    clear h
    (repeat (first|((first|refine qA ?_|refine qB ?_|refine xN ?_|refine xE ?_|refine xT ?_); try show PW _ _ _ _ _ _)|refine ro1 tabOk rfl rfl ?_|refine ro2 tabOk rfl rfl ?_|refine ro3 tabOk rfl rfl ?_|refine rd1 tabOk rfl rfl ?_|refine rd2 tabOk rfl rfl ?_|refine rd3 tabOk rfl rfl ?_|((first|apply oR rfl rfl|(apply dF rfl rfl rfl; intro _)|(apply dP rfl rfl rfl; intro _)|(apply dL rfl rfl rfl; intro _)|apply dC rfl rfl rfl rfl); (focus (first|exact cJ|exact mG|exact bT|exact nD)); try exact kQ)|refine xS ?_|refine xR ?_|refine qxa rfl rfl mixed ?_|refine qxb rfl rfl mixed ?_|refine qxi rfl rfl rfl rfl rfl mixed ?_|refine qxc rfl rfl mixed ?_|refine qxd rfl rfl mixed ?_|refine xB ?_|refine xt rfl ?_|refine xf rfl ?_))
    (first|refine POps_split rfl rfl (fun h => ?_) (fun h => ?_)|refine POpsD_split rfl rfl (fun h => ?_) (fun h => ?_)|refine PW_cond rfl (fun h => ?_) (fun h => ?_))
    · have := of_decide_eq_true h
      rw [hlt (by omega)]
      (repeat (first|((first|refine qA ?_|refine qB ?_|refine xN ?_|refine xE ?_|refine xT ?_); try show PW _ _ _ _ _ _)|refine ro1 tabOk rfl rfl ?_|refine ro2 tabOk rfl rfl ?_|refine ro3 tabOk rfl rfl ?_|refine rd1 tabOk rfl rfl ?_|refine rd2 tabOk rfl rfl ?_|refine rd3 tabOk rfl rfl ?_|((first|apply oR rfl rfl|(apply dF rfl rfl rfl; intro _)|(apply dP rfl rfl rfl; intro _)|(apply dL rfl rfl rfl; intro _)|apply dC rfl rfl rfl rfl); (focus (first|exact cJ|exact mG|exact bT|exact nD)); try exact kQ)|refine xS ?_|refine xR ?_|refine qxa rfl rfl mixed ?_|refine qxb rfl rfl mixed ?_|refine qxi rfl rfl rfl rfl rfl mixed ?_|refine qxc rfl rfl mixed ?_|refine qxd rfl rfl mixed ?_|refine xB ?_|refine xt rfl ?_|refine xf rfl ?_))
      (first|refine Ret_int (vC vT vN) rfl ?_|refine Ret_bool (vC vT vN) rfl ?_|refine Ret_g (vC vT vN) rfl ?_)
      rfl
    · have := of_decide_eq_false h
      rw [hgt (by omega)]
      (repeat (first|((first|refine qA ?_|refine qB ?_|refine xN ?_|refine xE ?_|refine xT ?_); try show PW _ _ _ _ _ _)|refine ro1 tabOk rfl rfl ?_|refine ro2 tabOk rfl rfl ?_|refine ro3 tabOk rfl rfl ?_|refine rd1 tabOk rfl rfl ?_|refine rd2 tabOk rfl rfl ?_|refine rd3 tabOk rfl rfl ?_|((first|apply oR rfl rfl|(apply dF rfl rfl rfl; intro _)|(apply dP rfl rfl rfl; intro _)|(apply dL rfl rfl rfl; intro _)|apply dC rfl rfl rfl rfl); (focus (first|exact cJ|exact mG|exact bT|exact nD)); try exact kQ)|refine xS ?_|refine xR ?_|refine qxa rfl rfl mixed ?_|refine qxb rfl rfl mixed ?_|refine qxi rfl rfl rfl rfl rfl mixed ?_|refine qxc rfl rfl mixed ?_|refine qxd rfl rfl mixed ?_|refine xB ?_|refine xt rfl ?_|refine xf rfl ?_))
      (first|refine Ret_int (vC vT vN) rfl ?_|refine Ret_bool (vC vT vN) rfl ?_|refine Ret_g (vC vT vN) rfl ?_)
      rfl
  · have heq : xs.length = ys.length := by simp at h; omega
    clear h
    (repeat (first|((first|refine qA ?_|refine qB ?_|refine xN ?_|refine xE ?_|refine xT ?_); try show PW _ _ _ _ _ _)|refine ro1 tabOk rfl rfl ?_|refine ro2 tabOk rfl rfl ?_|refine ro3 tabOk rfl rfl ?_|refine rd1 tabOk rfl rfl ?_|refine rd2 tabOk rfl rfl ?_|refine rd3 tabOk rfl rfl ?_|((first|apply oR rfl rfl|(apply dF rfl rfl rfl; intro _)|(apply dP rfl rfl rfl; intro _)|(apply dL rfl rfl rfl; intro _)|apply dC rfl rfl rfl rfl); (focus (first|exact cJ|exact mG|exact bT|exact nD)); try exact kQ)|refine xS ?_|refine xR ?_|refine qxa rfl rfl mixed ?_|refine qxb rfl rfl mixed ?_|refine qxi rfl rfl rfl rfl rfl mixed ?_|refine qxc rfl rfl mixed ?_|refine qxd rfl rfl mixed ?_|refine xB ?_|refine xt rfl ?_|refine xf rfl ?_))
    refine PW_loop (S := Nat) (fun k => slots [(0, .g (.sl (wsG xs))), (1, .g (.sl (wsG ys))), (5, .g (.int .i64 ((k : Int) - 1)))]) (fun _ => ⟨[], [], []⟩) (fun k => k ≤ xs.length ∧ xs.drop k = ys.drop k) (fun k => k) xs.length ⟨Nat.le_refl _, by rw [List.drop_length, heq, List.drop_length]⟩
      (SlotsOk.le ⟨.inl rfl, .inl rfl, .inl (congrArg (fun z => PV.g (.int .i64 z)) (by rw [w64 (by omega), hlx])), trivial⟩) (HLe.of_eq rfl) (fun k hk => ?_)
    obtain ⟨hk, hd⟩ := hk
    cases k with
    | zero =>
      have he : cmpN X Y = 0 := by
        have : xs = ys := by simpa using hd
        subst this
        unfold cmpN
        rw [if_neg (by omega), if_neg (by omega)]
      rw [he]
      (repeat (first|((first|refine qA ?_|refine qB ?_|refine xN ?_|refine xE ?_|refine xT ?_); try show PW _ _ _ _ _ _)|refine ro1 tabOk rfl rfl ?_|refine ro2 tabOk rfl rfl ?_|refine ro3 tabOk rfl rfl ?_|refine rd1 tabOk rfl rfl ?_|refine rd2 tabOk rfl rfl ?_|refine rd3 tabOk rfl rfl ?_|((first|apply oR rfl rfl|(apply dF rfl rfl rfl; intro _)|(apply dP rfl rfl rfl; intro _)|(apply dL rfl rfl rfl; intro _)|apply dC rfl rfl rfl rfl); (focus (first|exact cJ|exact mG|exact bT|exact nD)); try exact kQ)|refine xS ?_|refine xR ?_|refine qxa rfl rfl mixed ?_|refine qxb rfl rfl mixed ?_|refine qxi rfl rfl rfl rfl rfl mixed ?_|refine qxc rfl rfl mixed ?_|refine qxd rfl rfl mixed ?_|refine xB ?_|refine xt rfl ?_|refine xf rfl ?_))
      (first|refine Ret_int (vC vT vN) rfl ?_|refine Ret_bool (vC vT vN) rfl ?_|refine Ret_g (vC vT vN) rfl ?_)
      rfl
    | succ k =>
      have hx : xs[k]? = some (xs[k]'(by omega)) := List.getElem?_eq_getElem (by omega)
      generalize xs[k]'(by omega) = x at hx
      have hy : ys[k]? = some (ys[k]'(by omega)) := List.getElem?_eq_getElem (by omega)
      generalize ys[k]'(by omega) = y at hy
      have hgx : (wsG xs)[(((k + 1 : Nat) : Int) - 1).toNat]? = some (wG x) := by rw [show (((k + 1 : Nat) : Int) - 1).toNat = k by omega]; exact wsG_get hx
      have hgy : (wsG ys)[(((k + 1 : Nat) : Int) - 1).toNat]? = some (wG y) := by rw [show (((k + 1 : Nat) : Int) - 1).toNat = k by omega]; exact wsG_get hy
      (repeat (first|((first|refine qA ?_|refine qB ?_|refine xN ?_|refine xE ?_|refine xT ?_); try show PW _ _ _ _ _ _)|refine ro1 tabOk rfl rfl ?_|refine ro2 tabOk rfl rfl ?_|refine ro3 tabOk rfl rfl ?_|refine rd1 tabOk rfl rfl ?_|refine rd2 tabOk rfl rfl ?_|refine rd3 tabOk rfl rfl ?_|((first|apply oR rfl rfl|(apply dF rfl rfl rfl; intro _)|(apply dP rfl rfl rfl; intro _)|(apply dL rfl rfl rfl; intro _)|apply dC rfl rfl rfl rfl); (focus (first|exact cJ|exact mG|exact bT|exact nD)); try exact kQ)|refine xS ?_|refine xR ?_|refine qxa rfl rfl mixed ?_|refine qxb rfl rfl mixed ?_|refine qxi rfl rfl rfl rfl rfl mixed ?_|refine qxc rfl rfl mixed ?_|refine qxd rfl rfl mixed ?_|refine xB ?_|refine xt rfl ?_|refine xf rfl ?_))
      (first|refine POps_split rfl rfl (fun h => ?_) (fun h => ?_)|refine POpsD_split rfl rfl (fun h => ?_) (fun h => ?_)|refine PW_cond rfl (fun h => ?_) (fun h => ?_))
      · clear h
        (repeat (first|((first|refine qA ?_|refine qB ?_|refine xN ?_|refine xE ?_|refine xT ?_); try show PW _ _ _ _ _ _)|refine ro1 tabOk rfl rfl ?_|refine ro2 tabOk rfl rfl ?_|refine ro3 tabOk rfl rfl ?_|refine rd1 tabOk rfl rfl ?_|refine rd2 tabOk rfl rfl ?_|refine rd3 tabOk rfl rfl ?_|((first|apply oR rfl rfl|(apply dF rfl rfl rfl; intro _)|(apply dP rfl rfl rfl; intro _)|(apply dL rfl rfl rfl; intro _)|apply dC rfl rfl rfl rfl); (focus (first|exact iA (g := wG x) rfl (EL rfl) (SZ rfl) rfl rfl (by omega) hgx rfl|exact iA (g := wG y) rfl (EL rfl) (SZ rfl) rfl rfl (by omega) hgy rfl|exact cJ|exact mG|exact bT|exact nD)); try exact kQ)|refine xS ?_|refine xR ?_|refine qxa rfl rfl mixed ?_|refine qxb rfl rfl mixed ?_|refine qxi rfl rfl rfl rfl rfl mixed ?_|refine qxc rfl rfl mixed ?_|refine qxd rfl rfl mixed ?_|refine xB ?_|refine xt rfl ?_|refine xf rfl ?_))
        (first|refine POps_split rfl rfl (fun h => ?_) (fun h => ?_)|refine POpsD_split rfl rfl (fun h => ?_) (fun h => ?_)|refine PW_cond rfl (fun h => ?_) (fun h => ?_))
        · have hxy : x ≠ y := by intro e; subst e; simp at h
          clear h
          (repeat (first|((first|refine qA ?_|refine qB ?_|refine xN ?_|refine xE ?_|refine xT ?_); try show PW _ _ _ _ _ _)|refine ro1 tabOk rfl rfl ?_|refine ro2 tabOk rfl rfl ?_|refine ro3 tabOk rfl rfl ?_|refine rd1 tabOk rfl rfl ?_|refine rd2 tabOk rfl rfl ?_|refine rd3 tabOk rfl rfl ?_|((first|apply oR rfl rfl|(apply dF rfl rfl rfl; intro _)|(apply dP rfl rfl rfl; intro _)|(apply dL rfl rfl rfl; intro _)|apply dC rfl rfl rfl rfl); (focus (first|exact iA (g := wG x) rfl (EL rfl) (SZ rfl) rfl rfl (by omega) hgx rfl|exact iA (g := wG y) rfl (EL rfl) (SZ rfl) rfl rfl (by omega) hgy rfl|exact cJ|exact mG|exact bT|exact nD)); try exact kQ)|refine xS ?_|refine xR ?_|refine qxa rfl rfl mixed ?_|refine qxb rfl rfl mixed ?_|refine qxi rfl rfl rfl rfl rfl mixed ?_|refine qxc rfl rfl mixed ?_|refine qxd rfl rfl mixed ?_|refine xB ?_|refine xt rfl ?_|refine xf rfl ?_))
          (first|refine POps_split rfl rfl (fun h => ?_) (fun h => ?_)|refine POpsD_split rfl rfl (fun h => ?_) (fun h => ?_)|refine PW_cond rfl (fun h => ?_) (fun h => ?_))
          · have hl : x < y := by have := of_decide_eq_true h; omega
            have hv := val_lt_at hox hoy heq hx hy hd hl
            rw [show cmpN X Y = -1 by unfold cmpN; rw [if_pos (by omega)]]
            (repeat (first|((first|refine qA ?_|refine qB ?_|refine xN ?_|refine xE ?_|refine xT ?_); try show PW _ _ _ _ _ _)|refine ro1 tabOk rfl rfl ?_|refine ro2 tabOk rfl rfl ?_|refine ro3 tabOk rfl rfl ?_|refine rd1 tabOk rfl rfl ?_|refine rd2 tabOk rfl rfl ?_|refine rd3 tabOk rfl rfl ?_|((first|apply oR rfl rfl|(apply dF rfl rfl rfl; intro _)|(apply dP rfl rfl rfl; intro _)|(apply dL rfl rfl rfl; intro _)|apply dC rfl rfl rfl rfl); (focus (first|exact cJ|exact mG|exact bT|exact nD)); try exact kQ)|refine xS ?_|refine xR ?_|refine qxa rfl rfl mixed ?_|refine qxb rfl rfl mixed ?_|refine qxi rfl rfl rfl rfl rfl mixed ?_|refine qxc rfl rfl mixed ?_|refine qxd rfl rfl mixed ?_|refine xB ?_|refine xt rfl ?_|refine xf rfl ?_))
            (first|refine Ret_int (vC vT vN) rfl ?_|refine Ret_bool (vC vT vN) rfl ?_|refine Ret_g (vC vT vN) rfl ?_)
            rfl
          · have hl : y < x := by have := of_decide_eq_false h; omega
            have hv := val_lt_at hoy hox heq.symm hy hx hd.symm hl
            rw [show cmpN X Y = 1 by unfold cmpN; rw [if_neg (by omega), if_pos (by omega)]]
            (repeat (first|((first|refine qA ?_|refine qB ?_|refine xN ?_|refine xE ?_|refine xT ?_); try show PW _ _ _ _ _ _)|refine ro1 tabOk rfl rfl ?_|refine ro2 tabOk rfl rfl ?_|refine ro3 tabOk rfl rfl ?_|refine rd1 tabOk rfl rfl ?_|refine rd2 tabOk rfl rfl ?_|refine rd3 tabOk rfl rfl ?_|((first|apply oR rfl rfl|(apply dF rfl rfl rfl; intro _)|(apply dP rfl rfl rfl; intro _)|(apply dL rfl rfl rfl; intro _)|apply dC rfl rfl rfl rfl); (focus (first|exact cJ|exact mG|exact bT|exact nD)); try exact kQ)|refine xS ?_|refine xR ?_|refine qxa rfl rfl mixed ?_|refine qxb rfl rfl mixed ?_|refine qxi rfl rfl rfl rfl rfl mixed ?_|refine qxc rfl rfl mixed ?_|refine qxd rfl rfl mixed ?_|refine xB ?_|refine xt rfl ?_|refine xf rfl ?_))
            (first|refine Ret_int (vC vT vN) rfl ?_|refine Ret_bool (vC vT vN) rfl ?_|refine Ret_g (vC vT vN) rfl ?_)
            rfl
        · have hxy : x = y := by simp at h; omega
          subst hxy
          (repeat (first|((first|refine qA ?_|refine qB ?_|refine xN ?_|refine xE ?_|refine xT ?_); try show PW _ _ _ _ _ _)|refine ro1 tabOk rfl rfl ?_|refine ro2 tabOk rfl rfl ?_|refine ro3 tabOk rfl rfl ?_|refine rd1 tabOk rfl rfl ?_|refine rd2 tabOk rfl rfl ?_|refine rd3 tabOk rfl rfl ?_|((first|apply oR rfl rfl|(apply dF rfl rfl rfl; intro _)|(apply dP rfl rfl rfl; intro _)|(apply dL rfl rfl rfl; intro _)|apply dC rfl rfl rfl rfl); (focus (first|exact cJ|exact mG|exact bT|exact nD)); try exact kQ)|refine xS ?_|refine xR ?_|refine qxa rfl rfl mixed ?_|refine qxb rfl rfl mixed ?_|refine qxi rfl rfl rfl rfl rfl mixed ?_|refine qxc rfl rfl mixed ?_|refine qxd rfl rfl mixed ?_|refine xB ?_|refine xt rfl ?_|refine xf rfl ?_))
          refine ⟨k, ⟨by omega, ?_⟩, by omega, SlotsOk.le ⟨.inl rfl, .inl rfl, .inl (congrArg (fun z => PV.g (.int .i64 z)) (by rw [w64 (by omega)]; omega)), trivial⟩, HLe.of_eq rfl⟩
          rw [List.drop_eq_getElem_cons (show k < xs.length by omega), List.drop_eq_getElem_cons (show k < ys.length by omega), hd]
          congr 1
          have a := List.getElem?_eq_some_iff.1 hx
          have b := List.getElem?_eq_some_iff.1 hy
          obtain ⟨_, a⟩ := a
          obtain ⟨_, b⟩ := b
          rw [a, b]
      · exfalso; have := of_decide_eq_false h; omega
end Go.Pure.V


namespace Go.Pure.V
open Go Go.Proofs Go.Proofs.YtdicineiaifahaaGreatDoor
attribute [local irreducible] PW POps POpsD PO PC Cond

theorem u64_id {n : Nat} (h : n < WB * WB) : IntKind.u64.wrap (n : Int) = (n : Int) := by
  simp only [IntKind.wrap, IntKind.signed, IntKind.bits, Bool.false_and, Bool.false_eq_true, if_false]
  unfold WB at h
  omega
theorem or_up {a b : Nat} (ha : a < WB) (hb : b < WB) : IntKind.u64.wrap (((BitVec.ofInt IntKind.u64.bits (a : Int) ||| BitVec.ofInt IntKind.u64.bits (IntKind.u64.wrap ((b : Int) * 2 ^ min (32 : Int).toNat IntKind.u64.bits))).toNat : Nat) : Int) = ((a + WB * b : Nat) : Int) := by
  have e0 : IntKind.u64.wrap ((b : Int) * 2 ^ min (32 : Int).toNat IntKind.u64.bits) = ((b * 2 ^ 32 : Nat) : Int) := by
    rw [show ((b : Int) * 2 ^ min (32 : Int).toNat IntKind.u64.bits) = ((b * 2 ^ 32 : Nat) : Int) by
      rw [show min (32 : Int).toNat IntKind.u64.bits = 32 from rfl, Int.natCast_mul]; rfl]
    exact u64_id (by unfold WB at *; omega)
  rw [e0]
  have e : (((BitVec.ofInt 64 (a : Int) ||| BitVec.ofInt 64 ((b * 2 ^ 32 : Nat) : Int)).toNat : Nat) : Int) = ((a + WB * b : Nat) : Int) := by
    rw [BitVec.ofInt_natCast, BitVec.ofInt_natCast, BitVec.toNat_or, BitVec.toNat_ofNat, BitVec.toNat_ofNat, Nat.mod_eq_of_lt (show a < 2 ^ 64 by unfold WB at ha; omega), Nat.mod_eq_of_lt (show b * 2 ^ 32 < 2 ^ 64 by unfold WB at hb; omega), Nat.or_comm, ← Nat.shiftLeft_eq, ← Nat.shiftLeft_add_eq_or_of_lt (show a < 2 ^ 32 from ha), Nat.shiftLeft_eq]
    unfold WB
    omega
  show IntKind.u64.wrap (((BitVec.ofInt 64 (a : Int) ||| BitVec.ofInt 64 ((b * 2 ^ 32 : Nat) : Int)).toNat : Nat) : Int) = _
  rw [e]
  exact u64_id (by unfold WB at *; omega)
theorem plain_pc {X : Nat} (hX : X < WB * WB) : PC Tryz.prog 95 [.g (.sl (wsG (dig X)))] ⟨[], [], []⟩ (.g (.int .u64 X)) ⟨[], [], []⟩ := by
  by_cases h0 : X = 0
  · subst h0
    rw [dig_zero]
    refine PC_of_PW Tryz.func95 rfl rfl (rs := _) rfl (Nat.le_of_ble_eq_true (by kernel_rfl)) ?_
    (repeat (first|((first|refine qA ?_|refine qB ?_|refine xN ?_|refine xE ?_|refine xT ?_); try show PW _ _ _ _ _ _)|refine ro1 tabOk rfl rfl ?_|refine ro2 tabOk rfl rfl ?_|refine ro3 tabOk rfl rfl ?_|(apply oR rfl rfl; (focus (first|exact cJ|exact mG|exact bT|exact nD)))|refine xS ?_|refine xR ?_|refine xB ?_|refine xt rfl ?_|refine xf rfl ?_))
    (first|refine Ret_int (vC vT vN) rfl ?_|refine Ret_bool (vC vT vN) rfl ?_|refine Ret_g (vC vT vN) rfl ?_)
    rfl
  · by_cases h1 : X < WB
    · rw [dig_one h0 h1]
      have hw := u64_id (n := X) (by unfold WB at *; omega)
      refine PC_of_PW Tryz.func95 rfl rfl (rs := _) rfl (Nat.le_of_ble_eq_true (by kernel_rfl)) ?_
      (repeat (first|((first|refine qA ?_|refine qB ?_|refine xN ?_|refine xE ?_|refine xT ?_); try show PW _ _ _ _ _ _)|refine ro1 tabOk rfl rfl ?_|refine ro2 tabOk rfl rfl ?_|refine ro3 tabOk rfl rfl ?_|(apply oR rfl rfl; (focus (first|exact iA (g := wG X) rfl (EL rfl) (SZ rfl) rfl rfl (by decide) rfl rfl|exact cJ|exact mG|exact bT|exact nD)))|refine xS ?_|refine xR ?_|refine xB ?_|refine xt rfl ?_|refine xf rfl ?_))
      (first|refine Ret_int (vC vT vN) rfl ?_|refine Ret_bool (vC vT vN) rfl ?_|refine Ret_g (vC vT vN) rfl ?_)
      exact hw
    · have hq : X / WB ≠ 0 := by
        have := (Nat.le_div_iff_mul_le (show 0 < WB by decide)).2 (show 1 * WB ≤ X by omega)
        omega
      have hql : X / WB < WB := (Nat.div_lt_iff_lt_mul (by decide)).2 hX
      rw [dig_pos h0, dig_one hq hql]
      have hr : X % WB < WB := Nat.mod_lt _ (by decide)
      have hx := Nat.mod_add_div X WB
      have ho := or_up hr hql
      rw [hx] at ho
      have w1 := u64_id (n := X % WB) (by unfold WB at *; omega)
      have w2 := u64_id (n := X / WB) (by unfold WB at *; omega)
      generalize X % WB = a at *
      generalize X / WB = b at *
      refine PC_of_PW Tryz.func95 rfl rfl (rs := _) rfl (Nat.le_of_ble_eq_true (by kernel_rfl)) ?_
      (repeat (first|((first|refine qA ?_|refine qB ?_|refine xN ?_|refine xE ?_|refine xT ?_); try show PW _ _ _ _ _ _)|refine ro1 tabOk rfl rfl ?_|refine ro2 tabOk rfl rfl ?_|refine ro3 tabOk rfl rfl ?_|(apply oR rfl rfl; (focus (first|exact iA (g := wG a) rfl (EL rfl) (SZ rfl) rfl rfl (by decide) rfl rfl|exact iA (g := wG b) rfl (EL rfl) (SZ rfl) rfl rfl (by decide) rfl rfl|exact PO_shl rfl rfl rfl (by decide)|exact cJ|exact mG|exact bT|exact nD)))|refine xS ?_|refine xR ?_|refine xB ?_|refine xt rfl ?_|refine xf rfl ?_))
      (first|refine Ret_int (vC vT vN) rfl ?_|refine Ret_bool (vC vT vN) rfl ?_|refine Ret_g (vC vT vN) rfl ?_)
      rw [w1, w2]
      exact ho
end Go.Pure.V


namespace Go.Pure.V
open Go Go.Proofs Go.Proofs.YtdicineiaifahaaGreatDoor
attribute [local irreducible] PW POps POpsD PO PC Cond

def intV (z : Int) : List PV := [.g (.bool (decide (z < 0))), .g (.sl (wsG (dig z.natAbs)))]
theorem give_pc {p q : PV} {neg : Bool} {l : List Nat} : PC Tryz.prog 64 [.ptr 0 0, .g (.bool neg), .g (.sl (wsG l))] ⟨[[p, q]], [], []⟩ (.ptr 0 0) ⟨[[.g (.bool (neg && decide (0 < l.length))), .g (.sl (wsG l))]], [], []⟩ := by
  have hl := wsG_length l
  cases neg with
  | true =>
    refine PC_of_PW Tryz.func64 rfl rfl (rs := _) rfl (Nat.le_of_ble_eq_true (by kernel_rfl)) ?_
    (repeat (first|((first|refine qA ?_|refine qB ?_|refine xN ?_|refine xE ?_|refine xT ?_); try show PW _ _ _ _ _ _)|refine ro1 tabOk rfl rfl ?_|refine ro2 tabOk rfl rfl ?_|refine ro3 tabOk rfl rfl ?_|(apply oR rfl rfl; (focus (first|exact cJ|exact mG|exact bT|exact nD)))|refine xS ?_|refine xR ?_|refine xB ?_|refine xt rfl ?_|refine xf rfl ?_))
    (first|refine Ret_box (wC vT wN) rfl rfl rfl rfl rfl rfl rfl rfl rfl ?_ ?_ ?_ rfl)
    all_goals first | rfl | (simp [hl])
  | false =>
    refine PC_of_PW Tryz.func64 rfl rfl (rs := _) rfl (Nat.le_of_ble_eq_true (by kernel_rfl)) ?_
    (repeat (first|((first|refine qA ?_|refine qB ?_|refine xN ?_|refine xE ?_|refine xT ?_); try show PW _ _ _ _ _ _)|refine ro1 tabOk rfl rfl ?_|refine ro2 tabOk rfl rfl ?_|refine ro3 tabOk rfl rfl ?_|(apply oR rfl rfl; (focus (first|exact cJ|exact mG|exact bT|exact nD)))|refine xS ?_|refine xR ?_|refine xB ?_|refine xt rfl ?_|refine xf rfl ?_))
    (first|refine Ret_box (wC vT wN) rfl rfl rfl rfl rfl rfl rfl rfl rfl ?_ ?_ ?_ rfl)
    all_goals first | rfl | (simp [hl])
end Go.Pure.V


namespace Go.Pure.V
open Go Go.Proofs Go.Proofs.YtdicineiaifahaaGreatDoor
attribute [local irreducible] PW POps POpsD PO PC Cond

theorem sign_len (x : Int) : (decide (x < 0) && decide (0 < (dig x.natAbs).length)) = decide (x < 0) := by
  by_cases h : x < 0
  · have h0 : x.natAbs ≠ 0 := by omega
    rw [decide_eq_true h, dig_pos h0]; simp
  · rw [decide_eq_false h]; rfl
theorem Set_pc {x : Int} (hm : (dig x.natAbs).length ≤ 1000000) : PC Tryz.prog 60 [.ptr 0 0, .ptr 1 0] ⟨[[.g (.bool false), .nils], intV x], [], []⟩ (.ptr 0 0) ⟨[intV x, intV x], [], []⟩ := by
  have ht := twin_pc (l := dig x.natAbs) hm
  have hg := give_pc (p := .g (.bool false)) (q := .nils) (neg := decide (x < 0)) (l := dig x.natAbs)
  rw [sign_len] at hg
  unfold intV
  generalize dig x.natAbs = l at *
  generalize decide (x < 0) = b at *
  refine PC_of_PW Tryz.func60 rfl rfl (rs := _) rfl (Nat.le_of_ble_eq_true (by kernel_rfl)) ?_
  (repeat (first|((first|refine qA ?_|refine qB ?_|refine xN ?_|refine xE ?_|refine xT ?_); try show PW _ _ _ _ _ _)|refine ro1 tabOk rfl rfl ?_|refine ro2 tabOk rfl rfl ?_|refine ro3 tabOk rfl rfl ?_|refine rd1 tabOk rfl rfl ?_|refine rd2 tabOk rfl rfl ?_|refine rd3 tabOk rfl rfl ?_|((first|apply oR rfl rfl|(apply dF rfl rfl rfl; intro _)|(apply dP rfl rfl rfl; intro _)|(apply dL rfl rfl rfl; intro _)|apply dC rfl rfl rfl rfl); (focus (first|exact cqP ht|exact cd [] rfl rfl (EN rfl) (hg) rfl rfl rfl rfl rfl rfl rfl rfl rfl rfl rfl|exact cJ|exact mG|exact bT|exact nD)); try exact kQ)|refine xS ?_|refine xR ?_|refine xK false false [1] rfl mixed (by decide +kernel) ?_|refine xK false true [1] rfl mixed (by decide +kernel) ?_|refine xK true false [1] rfl mixed (by decide +kernel) ?_|refine xK true true [1] rfl mixed (by decide +kernel) ?_|refine xB ?_|refine xt rfl ?_|refine xf rfl ?_))
  (first|refine Ret_box (wC vT wN) rfl rfl rfl rfl rfl rfl rfl rfl rfl ?_ ?_ ?_ rfl)
  all_goals rfl
end Go.Pure.V


namespace Go.Pure.V
open Go Go.Proofs Go.Proofs.YtdicineiaifahaaGreatDoor
attribute [local irreducible] PW POps POpsD PO PC Cond

theorem SetInt64_pos {z : Nat} (h : z < 9223372036854775808) : PC Tryz.prog 62 [.ptr 0 0, .g (.int .i64 z)] ⟨[[.g (.bool false), .nils]], [], []⟩ (.ptr 0 0) ⟨[intV z], [], []⟩ := by
  have hw := words_pc (x := z) (by unfold WB; omega)
  have hg := give_pc (p := .g (.bool false)) (q := .nils) (neg := false) (l := dig z)
  have hc : IntKind.u64.wrap (z : Int) = (z : Int) := u64_id (by unfold WB; omega)
  have hw' : PC Tryz.prog 73 [.g (.int .u64 (IntKind.u64.wrap (z : Int)))] ⟨[], [], []⟩ (.g (.sl (wsG (dig z)))) ⟨[], [], []⟩ := by rw [hc]; exact hw
  have hi : intV (z : Int) = [.g (.bool (false && decide (0 < (dig z).length))), .g (.sl (wsG (dig z)))] := by
    unfold intV
    rw [Int.natAbs_natCast, decide_eq_false (show ¬ ((z : Int) < 0) by omega)]
    rfl
  rw [hi]
  generalize dig z = l at *
  refine PC_of_PW Tryz.func62 rfl rfl (rs := _) rfl (Nat.le_of_ble_eq_true (by kernel_rfl)) ?_
  (repeat' (first|(first|((first|refine qA ?_|refine qB ?_|refine xN ?_|refine xE ?_|refine xT ?_); try show PW _ _ _ _ _ _)|refine ro1 tabOk rfl rfl ?_|refine ro2 tabOk rfl rfl ?_|refine ro3 tabOk rfl rfl ?_|(apply oR rfl rfl; (focus (first|exact cqP hw'|exact cd [] rfl rfl (EN rfl) (hg) rfl rfl rfl rfl rfl rfl rfl rfl rfl rfl rfl|exact cJ|exact mG|exact bT|exact nD)))|refine xS ?_|refine xR ?_|refine xB ?_|refine xt rfl ?_|refine xf rfl ?_)|(refine POps_split rfl rfl (fun h => ?_) (fun h => ?_) <;> fail_if_success (first|(have : true = true := h)|(have : false = false := h)))|refine PW_cond rfl (fun h => ?_) (fun h => ?_)))
  all_goals (first | (exfalso; have := of_decide_eq_true h; omega) | ((first|refine Ret_box (wC vT wN) rfl rfl rfl rfl rfl rfl rfl rfl rfl ?_ ?_ ?_ rfl); all_goals rfl))
end Go.Pure.V


namespace Go.Pure.V
open Go Go.Proofs Go.Proofs.YtdicineiaifahaaGreatDoor
attribute [local irreducible] PW POps POpsD PO PC Cond

theorem NewInt_pos {z : Nat} (h : z < 9223372036854775808) : PC Tryz.prog 53 [.g (.int .i64 z)] ⟨[], [], []⟩ (.ptr 0 0) ⟨[intV z], [], []⟩ := by
  have hs := SetInt64_pos h
  unfold intV at hs ⊢
  generalize dig (z : Int).natAbs = l at *
  generalize decide ((z : Int) < 0) = b at *
  refine PC_of_PW Tryz.func53 rfl rfl (rs := _) rfl (Nat.le_of_ble_eq_true (by kernel_rfl)) ?_
  (repeat (first|((first|refine qA ?_|refine qB ?_|refine xN ?_|refine xE ?_|refine xT ?_); try show PW _ _ _ _ _ _)|refine ro1 tabOk rfl rfl ?_|refine ro2 tabOk rfl rfl ?_|refine ro3 tabOk rfl rfl ?_|(apply oR rfl rfl; (focus (first|exact cd [] rfl rfl (EN rfl) (hs) rfl rfl rfl rfl rfl rfl rfl rfl rfl rfl rfl|exact cJ|exact mG|exact bT|exact nD)))|refine xS ?_|refine xR ?_|refine xB ?_|refine xt rfl ?_|refine xf rfl ?_))
  (first|refine Ret_box (wC vT wN) rfl rfl rfl rfl rfl rfl rfl rfl rfl ?_ ?_ ?_ rfl)
  all_goals rfl
end Go.Pure.V


namespace Go.Pure.V
open Go Go.Proofs Go.Proofs.YtdicineiaifahaaGreatDoor
attribute [local irreducible] PW POps POpsD PO PC Cond

theorem neg_u64 {z : Int} (h1 : z < 0) (h2 : -9223372036854775808 ≤ z) : IntKind.u64.wrap (0 - IntKind.u64.wrap z) = (z.natAbs : Int) := by
  simp only [IntKind.wrap, IntKind.signed, IntKind.bits, Bool.false_and, Bool.false_eq_true, if_false]
  omega
theorem SetInt64_neg {z : Int} (h1 : z < 0) (h2 : -9223372036854775808 ≤ z) : PC Tryz.prog 62 [.ptr 0 0, .g (.int .i64 z)] ⟨[[.g (.bool false), .nils]], [], []⟩ (.ptr 0 0) ⟨[intV z], [], []⟩ := by
  have hw := words_pc (x := z.natAbs) (by unfold WB; omega)
  have hg := give_pc (p := .g (.bool false)) (q := .nils) (neg := decide (z < 0)) (l := dig z.natAbs)
  rw [sign_len] at hg
  have hw' : PC Tryz.prog 73 [.g (.int .u64 (IntKind.u64.wrap (0 - IntKind.u64.wrap z)))] ⟨[], [], []⟩ (.g (.sl (wsG (dig z.natAbs)))) ⟨[], [], []⟩ := by rw [neg_u64 h1 h2]; exact hw
  unfold intV
  generalize dig z.natAbs = l at *
  refine PC_of_PW Tryz.func62 rfl rfl (rs := _) rfl (Nat.le_of_ble_eq_true (by kernel_rfl)) ?_
  (repeat' (first|(first|((first|refine qA ?_|refine qB ?_|refine xN ?_|refine xE ?_|refine xT ?_); try show PW _ _ _ _ _ _)|refine ro1 tabOk rfl rfl ?_|refine ro2 tabOk rfl rfl ?_|refine ro3 tabOk rfl rfl ?_|(apply oR rfl rfl; (focus (first|exact cqP hw'|exact cd [] rfl rfl (EN rfl) (hg) rfl rfl rfl rfl rfl rfl rfl rfl rfl rfl rfl|exact cJ|exact mG|exact bT|exact nD)))|refine xS ?_|refine xR ?_|refine xB ?_|refine xt rfl ?_|refine xf rfl ?_)|(refine POps_split rfl rfl (fun h => ?_) (fun h => ?_) <;> fail_if_success (first|(have : true = true := h)|(have : false = false := h)))|refine PW_cond rfl (fun h => ?_) (fun h => ?_)))
  all_goals (first | (exfalso; have := of_decide_eq_false h; omega) | ((first|refine Ret_box (wC vT wN) rfl rfl rfl rfl rfl rfl rfl rfl rfl ?_ ?_ ?_ rfl); all_goals rfl))
theorem SetInt64_pc {z : Int} (h1 : -9223372036854775808 ≤ z) (h2 : z < 9223372036854775808) : PC Tryz.prog 62 [.ptr 0 0, .g (.int .i64 z)] ⟨[[.g (.bool false), .nils]], [], []⟩ (.ptr 0 0) ⟨[intV z], [], []⟩ := by
  by_cases h : z < 0
  · exact SetInt64_neg h h1
  · obtain ⟨n, rfl⟩ := Int.eq_ofNat_of_zero_le (show 0 ≤ z by omega)
    exact SetInt64_pos (by omega)
theorem NewInt_any {z : Int} (h1 : -9223372036854775808 ≤ z) (h2 : z < 9223372036854775808) : PC Tryz.prog 53 [.g (.int .i64 z)] ⟨[], [], []⟩ (.ptr 0 0) ⟨[intV z], [], []⟩ := by
  have hs := SetInt64_pc h1 h2
  unfold intV at hs ⊢
  generalize dig z.natAbs = l at *
  generalize decide (z < 0) = b at *
  refine PC_of_PW Tryz.func53 rfl rfl (rs := _) rfl (Nat.le_of_ble_eq_true (by kernel_rfl)) ?_
  (repeat (first|((first|refine qA ?_|refine qB ?_|refine xN ?_|refine xE ?_|refine xT ?_); try show PW _ _ _ _ _ _)|refine ro1 tabOk rfl rfl ?_|refine ro2 tabOk rfl rfl ?_|refine ro3 tabOk rfl rfl ?_|(apply oR rfl rfl; (focus (first|exact cd [] rfl rfl (EN rfl) (hs) rfl rfl rfl rfl rfl rfl rfl rfl rfl rfl rfl|exact cJ|exact mG|exact bT|exact nD)))|refine xS ?_|refine xR ?_|refine xB ?_|refine xt rfl ?_|refine xf rfl ?_))
  (first|refine Ret_box (wC vT wN) rfl rfl rfl rfl rfl rfl rfl rfl rfl ?_ ?_ ?_ rfl)
  all_goals rfl
end Go.Pure.V

