/- What the program's functions compute, each shown once; and plain laws of it. -/
import Derived.Test.YtdicineiaifahaaGreatDoorOwnK
import Derived.Test.YtdicineiaifahaaGreatDoorPureL
namespace Go.Pure.V
open Go Go.Proofs Go.Proofs.YtdicineiaifahaaGreatDoor
attribute [local irreducible] PW POps POpsD PO PC Cond

theorem vmakeV {o : Oper} {ρ : Operand → PV} {H : PH} {t : TypeId} {x y : Operand} {k1 k2 : IntKind} {n : Nat} {z z' : Int} (ho : o.op = .makeSlice t x y) (hx1 : ρ x = .g (.int k1 z)) (hy1 : ρ y = .g (.int k2 z')) (hz : z = n) (hz' : z' = n) (he : Tryz.prog.underlying t = some (.slice W32)) (hn : n ≤ 2000000) :
    PO Tryz.prog o ρ H (.vw H.mu.length 0 0 n n) ⟨H.bx, H.tk, H.mu ++ [AR 0 (List.replicate n 0)]⟩ := by
  subst hz hz'
  have hr : wsG (List.replicate n 0) = List.replicate n (constG (.int .u32 0)) := by unfold wsG; rw [List.map_replicate]; rfl
  rw [AR, hr]
  exact PO_vmake ho hx1 hy1 he (SZ rfl) (ZR rfl) rfl (BY rfl) (Nat.le_refl _) (by omega) (by omega)
theorem mulV_raw {C d y z : Nat} (hC : C < WB) (hd : d < WB) (hy : y < WB) (hz : z < WB) : IntKind.u64.wrap ((C : Int) + IntKind.u64.wrap (IntKind.u64.wrap (IntKind.u64.wrap (d : Int) * IntKind.u64.wrap (y : Int)) + IntKind.u64.wrap (z : Int))) = ((y * d + z + C : Nat) : Int) := by
  have b : d * y ≤ (WB - 1) * (WB - 1) := Nat.mul_le_mul (by omega) (by omega)
  have e : y * d = d * y := Nat.mul_comm _ _
  rw [e]
  rw [u64_id (n := d) (by unfold WB at *; omega), u64_id (n := y) (by unfold WB at *; omega), u64_id (n := z) (by unfold WB at *; omega), ← Int.natCast_mul]
  generalize d * y = p at *
  rw [u64_id (n := p) (by unfold WB at *; omega), ← Int.natCast_add, u64_id (n := p + z) (by unfold WB at *; omega), ← Int.natCast_add, u64_id (n := C + (p + z)) (by unfold WB at *; omega)]
  omega
theorem take_all {l : List GV} {n : Nat} (h : l.length = n) : (l.drop 0).take n = l := by rw [List.drop_zero, List.take_of_length_le (by omega)]

set_option maxRecDepth 100000 in
set_option maxHeartbeats 8000000 in
theorem mul_pc {X Y : Nat} (hX : (dig X).length ≤ 1000) (hY : (dig Y).length ≤ 1000) : PC Tryz.prog 65 [.g (.sl (wsG (dig X))), .g (.sl (wsG (dig Y)))] ⟨[], [], []⟩ (.g (.sl (wsG (dig (X * Y))))) ⟨[], [], []⟩ := by
  by_cases h0 : X = 0
  · subst h0
    rw [Nat.zero_mul, dig_zero]
    refine PC_of_PW Tryz.func65 rfl rfl (rs := _) rfl (Nat.le_of_ble_eq_true (by kernel_rfl)) ?_
    (repeat (first|((first|refine qA ?_|refine qB ?_|refine xN ?_|refine xE ?_|refine xT ?_); try show PW _ _ _ _ _ _)|refine ro1 tabOk rfl rfl ?_|refine ro2 tabOk rfl rfl ?_|refine ro3 tabOk rfl rfl ?_|refine rd1 tabOk rfl rfl ?_|refine rd2 tabOk rfl rfl ?_|refine rd3 tabOk rfl rfl ?_|((first|apply oR rfl rfl|(apply dF rfl rfl rfl; intro _)|(apply dP rfl rfl rfl; intro _)|(apply dL rfl rfl rfl; intro _)|apply dC rfl rfl rfl rfl); (focus (first|exact cJ|exact mG|exact bT|exact nD)); try exact kQ)|refine xS ?_|refine xR ?_|refine qxa rfl rfl mixed ?_|refine qxb rfl rfl mixed ?_|refine qxi rfl rfl rfl rfl rfl mixed ?_|refine qxc rfl rfl mixed ?_|refine qxd rfl rfl mixed ?_|refine xB ?_|refine xt rfl ?_|refine xf rfl ?_))
    (first|refine Ret_int (vC vT vN) rfl ?_|refine Ret_bool (vC vT vN) rfl ?_|refine Ret_g (vC vT vN) rfl ?_)
    rfl
  by_cases h1 : Y = 0
  · subst h1
    rw [Nat.mul_zero, dig_zero]
    have hp := dig_len_pos h0
    generalize wsG (dig X) = xs at *
    have hne : (((xs.length : Nat) : Int) == 0) = false := beq_eq_false_iff_ne.2 (by omega)
    refine PC_of_PW Tryz.func65 rfl rfl (rs := _) rfl (Nat.le_of_ble_eq_true (by kernel_rfl)) ?_
    (repeat' (first|(first|((first|refine qA ?_|refine qB ?_|refine xN ?_|refine xE ?_|refine xT ?_); try show PW _ _ _ _ _ _)|refine ro1 tabOk rfl rfl ?_|refine ro2 tabOk rfl rfl ?_|refine ro3 tabOk rfl rfl ?_|refine rd1 tabOk rfl rfl ?_|refine rd2 tabOk rfl rfl ?_|refine rd3 tabOk rfl rfl ?_|((first|apply oR rfl rfl|(apply dF rfl rfl rfl; intro _)|(apply dP rfl rfl rfl; intro _)|(apply dL rfl rfl rfl; intro _)|apply dC rfl rfl rfl rfl); (focus (first|exact cJ|exact mG|exact bT|exact nD)); try exact kQ)|refine xS ?_|refine xR ?_|refine qxa rfl rfl mixed ?_|refine qxb rfl rfl mixed ?_|refine qxi rfl rfl rfl rfl rfl mixed ?_|refine qxc rfl rfl mixed ?_|refine qxd rfl rfl mixed ?_|refine xB ?_|refine xt rfl ?_|refine xf rfl ?_)|(refine POps_split rfl rfl (fun h => ?_) (fun h => ?_) <;> fail_if_success (first|(have : true = true := h)|(have : false = false := h)))|(refine POpsD_split rfl rfl (fun h => ?_) (fun h => ?_) <;> fail_if_success (first|(have : true = true := h)|(have : false = false := h)))|refine PW_cond rfl (fun h => ?_) (fun h => ?_)))
    all_goals (first | (exfalso; simp_all; done) | ((first|refine Ret_int (vC vT vN) rfl ?_|refine Ret_bool (vC vT vN) rfl ?_|refine Ret_g (vC vT vN) rfl ?_); rfl))
  have hp := dig_len_pos h0
  have hq := dig_len_pos h1
  have hpx := wsG_length (dig X)
  have hpy := wsG_length (dig Y)
  have hox := okW_dig X
  have hoy := okW_dig Y
  have hvx := val_dig X
  have hvy := val_dig Y
  generalize dig X = xs at *
  generalize dig Y = ys at *
  have hadd : IntKind.i64.wrap (((wsG xs).length : Int) + ((wsG ys).length : Int)) = ((ys.length + xs.length : Nat) : Int) := by rw [w64 (by omega)]; omega
  refine PC_of_PW Tryz.func65 rfl rfl (rs := _) rfl (Nat.le_of_ble_eq_true (by kernel_rfl)) ?_
  (repeat' (first|(first|((first|refine qA ?_|refine qB ?_|refine xN ?_|refine xE ?_|refine xT ?_); try show PW _ _ _ _ _ _)|refine ro1 tabOk rfl rfl ?_|refine ro2 tabOk rfl rfl ?_|refine ro3 tabOk rfl rfl ?_|refine rd1 tabOk rfl rfl ?_|refine rd2 tabOk rfl rfl ?_|refine rd3 tabOk rfl rfl ?_|((first|apply oR rfl rfl|(apply dF rfl rfl rfl; intro _)|(apply dP rfl rfl rfl; intro _)|(apply dL rfl rfl rfl; intro _)|apply dC rfl rfl rfl rfl); (focus (first|exact cJ|exact mG|exact bT|exact nD)); try exact kQ)|refine xU [3] rfl ?_|refine xR ?_|refine qxa rfl rfl mixed ?_|refine qxb rfl rfl mixed ?_|refine qxi rfl rfl rfl rfl rfl mixed ?_|refine qxc rfl rfl mixed ?_|refine qxd rfl rfl mixed ?_|refine xB ?_|refine xt rfl ?_|refine xf rfl ?_)|(refine POps_split rfl rfl (fun h => ?_) (fun h => ?_) <;> fail_if_success (first|(have : true = true := h)|(have : false = false := h)))|(refine POpsD_split rfl rfl (fun h => ?_) (fun h => ?_) <;> fail_if_success (first|(have : true = true := h)|(have : false = false := h)))|refine PW_cond rfl (fun h => ?_) (fun h => ?_)))
  all_goals (first | (exfalso; have hh := beq_iff_eq.1 h; omega) | skip)
  clear h
  (repeat (first|((first|refine qA ?_|refine qB ?_|refine xN ?_|refine xE ?_|refine xT ?_); try show PW _ _ _ _ _ _)|refine ro1 tabOk rfl rfl ?_|refine ro2 tabOk rfl rfl ?_|refine ro3 tabOk rfl rfl ?_|refine rd1 tabOk rfl rfl ?_|refine rd2 tabOk rfl rfl ?_|refine rd3 tabOk rfl rfl ?_|((first|apply oR rfl rfl|(apply dF rfl rfl rfl; intro _)|(apply dP rfl rfl rfl; intro _)|(apply dL rfl rfl rfl; intro _)|apply dC rfl rfl rfl rfl); (focus (first|exact vmakeV (n := ys.length + xs.length) rfl rfl rfl hadd hadd (EL rfl) (by omega)|exact cJ|exact mG|exact bT|exact nD)); try exact kQ)|refine xS ?_|refine xR ?_|refine qxa rfl rfl mixed ?_|refine qxb rfl rfl mixed ?_|refine qxi rfl rfl rfl rfl rfl mixed ?_|refine qxc rfl rfl mixed ?_|refine qxd rfl rfl mixed ?_|refine xB ?_|refine xt rfl ?_|refine xf rfl ?_))
  refine PW_loop (S := Nat × List Nat) (fun s => slots [(0, .g (.sl (wsG xs))), (1, .g (.sl (wsG ys))), (5, .vw 0 0 0 (ys.length + xs.length) (ys.length + xs.length)), (6, .g (.int .i64 s.1))]) (fun s => ⟨[], [], [AR 0 s.2]⟩) (fun s => s.1 ≤ xs.length ∧ MulInv ys xs s.2 s.1) (fun s => xs.length - s.1) (0, List.replicate (ys.length + xs.length) 0) ⟨Nat.zero_le _, MulInv.start ys xs⟩
    (SlotsOk.le ⟨.inl rfl, .inl rfl, .inl rfl, .inl rfl, trivial⟩) (HLe.of_eq rfl) (fun s hs => ?_)
  obtain ⟨i, zs⟩ := s
  obtain ⟨hi, hI⟩ := hs
  dsimp only at hi hI
  have hzl := hI.len
  (repeat (first|((first|refine qA ?_|refine qB ?_|refine xN ?_|refine xE ?_|refine xT ?_); try show PW _ _ _ _ _ _)|refine ro1 tabOk rfl rfl ?_|refine ro2 tabOk rfl rfl ?_|refine ro3 tabOk rfl rfl ?_|refine rd1 tabOk rfl rfl ?_|refine rd2 tabOk rfl rfl ?_|refine rd3 tabOk rfl rfl ?_|((first|apply oR rfl rfl|(apply dF rfl rfl rfl; intro _)|(apply dP rfl rfl rfl; intro _)|(apply dL rfl rfl rfl; intro _)|apply dC rfl rfl rfl rfl); (focus (first|exact cJ|exact mG|exact bT|exact nD)); try exact kQ)|refine xS ?_|refine xR ?_|refine qxa rfl rfl mixed ?_|refine qxb rfl rfl mixed ?_|refine qxi rfl rfl rfl rfl rfl mixed ?_|refine qxc rfl rfl mixed ?_|refine qxd rfl rfl mixed ?_|refine xB ?_|refine xt rfl ?_|refine xf rfl ?_))
  (first|refine POps_split rfl rfl (fun h => ?_) (fun h => ?_)|refine POpsD_split rfl rfl (fun h => ?_) (fun h => ?_)|refine PW_cond rfl (fun h => ?_) (fun h => ?_))
  · have hlt : i < xs.length := by have := of_decide_eq_true h; omega
    have hxi : xs[i]? = some (xs[i]'(by omega)) := List.getElem?_eq_getElem (by omega)
    generalize xs[i]'(by omega) = d at hxi
    have hg : (wsG xs)[(i : Int).toNat]? = some (wG d) := wsG_get hxi
    have hd : d < WB := hox.at hxi
    have hstep := hI.step hoy hxi hd
    have hpl : ((zs.drop i).take ys.length).length = ys.length := by simp; omega
    clear h
    (repeat (first|((first|refine qA ?_|refine qB ?_|refine xN ?_|refine xE ?_|refine xT ?_); try show PW _ _ _ _ _ _)|refine ro1 tabOk rfl rfl ?_|refine ro2 tabOk rfl rfl ?_|refine ro3 tabOk rfl rfl ?_|refine rd1 tabOk rfl rfl ?_|refine rd2 tabOk rfl rfl ?_|refine rd3 tabOk rfl rfl ?_|((first|apply oR rfl rfl|(apply dF rfl rfl rfl; intro _)|(apply dP rfl rfl rfl; intro _)|(apply dL rfl rfl rfl; intro _)|apply dC rfl rfl rfl rfl); (focus (first|exact cJ|exact mG|exact bT|exact nD)); try exact kQ)|refine xS ?_|refine xR ?_|refine qxa rfl rfl mixed ?_|refine qxb rfl rfl mixed ?_|refine qxi rfl rfl rfl rfl rfl mixed ?_|refine qxc rfl rfl mixed ?_|refine qxd rfl rfl mixed ?_|refine xB ?_|refine xt rfl ?_|refine xf rfl ?_))
    refine PW_loop (S := Nat) (fun j => slots [(0, .g (.sl (wsG xs))), (1, .g (.sl (wsG ys))), (5, .vw 0 0 0 (ys.length + xs.length) (ys.length + xs.length)), (6, .g (.int .i64 i)), (7, .g (.int .u64 (addMulC ((zs.drop i).take j) (ys.take j) d 0))), (8, .g (.int .i64 j))])
      (fun j => ⟨[], [], [AR 0 (putL zs i (addMulW ((zs.drop i).take j) (ys.take j) d 0))]⟩) (fun j => j ≤ ys.length) (fun j => ys.length - j) 0 (Nat.zero_le _)
      (SlotsOk.le ⟨.inl rfl, .inl rfl, .inl rfl, .inl rfl, .inl rfl, .inl rfl, trivial⟩) (HLe.of_eq (by simp only [List.take_zero, addMulW, putL_nil])) (fun j hj => ?_)
    (repeat (first|((first|refine qA ?_|refine qB ?_|refine xN ?_|refine xE ?_|refine xT ?_); try show PW _ _ _ _ _ _)|refine ro1 tabOk rfl rfl ?_|refine ro2 tabOk rfl rfl ?_|refine ro3 tabOk rfl rfl ?_|refine rd1 tabOk rfl rfl ?_|refine rd2 tabOk rfl rfl ?_|refine rd3 tabOk rfl rfl ?_|((first|apply oR rfl rfl|(apply dF rfl rfl rfl; intro _)|(apply dP rfl rfl rfl; intro _)|(apply dL rfl rfl rfl; intro _)|apply dC rfl rfl rfl rfl); (focus (first|exact cJ|exact mG|exact bT|exact nD)); try exact kQ)|refine xS ?_|refine xR ?_|refine qxa rfl rfl mixed ?_|refine qxb rfl rfl mixed ?_|refine qxi rfl rfl rfl rfl rfl mixed ?_|refine qxc rfl rfl mixed ?_|refine qxd rfl rfl mixed ?_|refine xB ?_|refine xt rfl ?_|refine xf rfl ?_))
    (first|refine POps_split rfl rfl (fun h => ?_) (fun h => ?_)|refine POpsD_split rfl rfl (fun h => ?_) (fun h => ?_)|refine PW_cond rfl (fun h => ?_) (fun h => ?_))
    · have hltj : j < ys.length := by have := of_decide_eq_true h; omega
      have hyj : ys[j]? = some (ys[j]'(by omega)) := List.getElem?_eq_getElem (by omega)
      generalize ys[j]'(by omega) = y at hyj
      have hgy : (wsG ys)[(j : Int).toNat]? = some (wG y) := wsG_get hyj
      have hy : y < WB := hoy.at hyj
      have hzj : (zs.drop i)[j]? = some (zs[i + j]'(by omega)) := by rw [List.getElem?_drop]; exact List.getElem?_eq_getElem (by omega)
      have hzk : zs[i + j]? = some (zs[i + j]'(by omega)) := List.getElem?_eq_getElem (by omega)
      generalize zs[i + j]'(by omega) = z at hzj hzk
      have hz : z < WB := hI.ok.at hzk
      have hti : (addMulW ((zs.drop i).take j) (ys.take j) d 0).length = j := by rw [addMulW_length (by rw [List.length_take, List.length_take, List.length_drop]; omega), List.length_take, List.length_drop]; omega
      have hgz : (wsG (putL zs i (addMulW ((zs.drop i).take j) (ys.take j) d 0)))[0 + (i + j)]? = some (wG z) := wsG_get (by rw [Nat.zero_add, putL_get (by omega)]; exact hzk)
      have hC := addMulC_lt ((hI.ok.drop i).take j) (hoy.take j) hd (show 0 < WB by decide)
      obtain ⟨s1, s2⟩ := addMul_step (m := d) (c := 0) hzj hyj
      have hraw := mulV_raw hC hd hy hz
      have hij : IntKind.i64.wrap ((i : Int) + (j : Int)) = ((i + j : Nat) : Int) := by rw [w64 (by omega)]; omega
      clear h
      (repeat (first|((first|refine qA ?_|refine qB ?_|refine xN ?_|refine xE ?_|refine xT ?_); try show PW _ _ _ _ _ _)|refine ro1 tabOk rfl rfl ?_|refine ro2 tabOk rfl rfl ?_|refine ro3 tabOk rfl rfl ?_|refine rd1 tabOk rfl rfl ?_|refine rd2 tabOk rfl rfl ?_|refine rd3 tabOk rfl rfl ?_|(apply dR rfl rfl; focus (first|exact Cond_mload rfl rfl (AG rfl) rfl rfl hgz rfl))|((first|apply oR rfl rfl|(apply dF rfl rfl rfl; intro _)|(apply dP rfl rfl rfl; intro _)|(apply dL rfl rfl rfl; intro _)|apply dC rfl rfl rfl rfl); (focus (first|exact iA rfl (EL rfl) (SZ rfl) rfl rfl (Int.natCast_nonneg _) hg rfl|exact iA rfl (EL rfl) (SZ rfl) rfl rfl (Int.natCast_nonneg _) hgy rfl|exact PO_vindex (i + j) rfl (EL rfl) (SZ rfl) rfl rfl hij (by omega)|exact PO_store_mref rfl (SZ rfl) rfl rfl rfl rfl (by decide) rfl hgz (Nat.le_refl _)|exact PO_shr rfl rfl rfl (by decide)|exact cJ|exact mG|exact bT|exact nD)); try exact kQ)|refine xS ?_|refine xR ?_|refine xK false false [10000] rfl mixed (by decide +kernel) ?_|refine xK false true [10000] rfl mixed (by decide +kernel) ?_|refine xK true false [10000] rfl mixed (by decide +kernel) ?_|refine xK true true [10000] rfl mixed (by decide +kernel) ?_|refine xB ?_|refine xt rfl ?_|refine xf rfl ?_))
      have e1 : GV.int .u32 (IntKind.u32.wrap (IntKind.u64.wrap ((addMulC ((zs.drop i).take j) (ys.take j) d 0 : Int) + IntKind.u64.wrap (IntKind.u64.wrap (IntKind.u64.wrap (d : Int) * IntKind.u64.wrap (y : Int)) + IntKind.u64.wrap (z : Int))))) = wG ((y * d + z + addMulC ((zs.drop i).take j) (ys.take j) d 0) % WB) := by rw [hraw]; exact congrArg (GV.int .u32) u32_wrap
      exact ⟨j + 1, hltj, by omega, SlotsOk.le ⟨.inl rfl, .inl rfl, .inl rfl, .inl rfl, .inl (congrArg (fun k => PV.g (.int .u64 k)) (by rw [hraw, s2]; exact shr_nat (s := 32) (by decide))), .inl (congrArg (fun k => PV.g (.int .i64 k)) (w64 (by omega))), trivial⟩,
        HLe.of_eq (congrArg (fun l => (⟨[], [], [MO.arr 0 W32 l]⟩ : PH)) (show (wsG (putL zs i (addMulW ((zs.drop i).take j) (ys.take j) d 0))).set (0 + (i + j)) (GV.int .u32 (IntKind.u32.wrap (IntKind.u64.wrap ((addMulC ((zs.drop i).take j) (ys.take j) d 0 : Int) + IntKind.u64.wrap (IntKind.u64.wrap (IntKind.u64.wrap (d : Int) * IntKind.u64.wrap (y : Int)) + IntKind.u64.wrap (z : Int)))))) = wsG (putL zs i (addMulW ((zs.drop i).take (j + 1)) (ys.take (j + 1)) d 0)) from by
          rw [Nat.zero_add, e1, wsG_set, s1, set_putL hti (by omega)]))⟩
    · have hj' : j = ys.length := by have := of_decide_eq_false h; omega
      subst hj'
      have hul : (addMulW ((zs.drop i).take ys.length) ys d 0).length = ys.length := by rw [addMulW_length hpl, hpl]
      rw [List.take_of_length_le (Nat.le_refl ys.length)]
      have hC := addMulC_lt ((hI.ok.drop i).take ys.length) hoy hd (show 0 < WB by decide)
      have hsum : IntKind.i64.wrap ((i : Int) + ((wsG ys).length : Int)) = ((i + ys.length : Nat) : Int) := by rw [w64 (by omega)]; omega
      have hgz : (wsG (putL zs i (addMulW ((zs.drop i).take ys.length) ys d 0)))[0 + (i + ys.length)]? = some (wG (zs[i + ys.length]'(by omega))) := wsG_get (by rw [Nat.zero_add, putL_get (by omega)]; exact List.getElem?_eq_getElem _)
      generalize zs[i + ys.length]'(by omega) = q at hgz
      clear h
      (repeat (first|((first|refine qA ?_|refine qB ?_|refine xN ?_|refine xE ?_|refine xT ?_); try show PW _ _ _ _ _ _)|refine ro1 tabOk rfl rfl ?_|refine ro2 tabOk rfl rfl ?_|refine ro3 tabOk rfl rfl ?_|refine rd1 tabOk rfl rfl ?_|refine rd2 tabOk rfl rfl ?_|refine rd3 tabOk rfl rfl ?_|((first|apply oR rfl rfl|(apply dF rfl rfl rfl; intro _)|(apply dP rfl rfl rfl; intro _)|(apply dL rfl rfl rfl; intro _)|apply dC rfl rfl rfl rfl); (focus (first|exact PO_vindex (i + ys.length) rfl (EL rfl) (SZ rfl) rfl rfl hsum (by omega)|exact PO_store_mref rfl (SZ rfl) rfl rfl rfl rfl (by decide) rfl hgz (Nat.le_refl _)|exact cJ|exact mG|exact bT|exact nD)); try exact kQ)|refine xS ?_|refine xR ?_|refine qxa rfl rfl mixed ?_|refine qxb rfl rfl mixed ?_|refine qxi rfl rfl rfl rfl rfl mixed ?_|refine qxc rfl rfl mixed ?_|refine qxd rfl rfl mixed ?_|refine xB ?_|refine xt rfl ?_|refine xf rfl ?_))
      have e1 : GV.int .u32 (IntKind.u32.wrap (addMulC ((zs.drop i).take ys.length) ys d 0 : Int)) = wG (addMulC ((zs.drop i).take ys.length) ys d 0) := (congrArg (GV.int .u32) u32_wrap).trans (congrArg wG (Nat.mod_eq_of_lt hC))
      exact ⟨(i + 1, rowW zs ys i d), ⟨hlt, hstep⟩, by dsimp only; omega, SlotsOk.le ⟨.inl rfl, .inl rfl, .inl rfl, .inl (congrArg (fun k => PV.g (.int .i64 k)) (w64 (by omega))), trivial⟩,
        HLe.of_eq (congrArg (fun l => (⟨[], [], [MO.arr 0 W32 l]⟩ : PH)) (show (wsG (putL zs i (addMulW ((zs.drop i).take ys.length) ys d 0))).set (0 + (i + ys.length)) (GV.int .u32 (IntKind.u32.wrap (addMulC ((zs.drop i).take ys.length) ys d 0 : Int))) = wsG (rowW zs ys i d) from by
          unfold rowW
          rw [Nat.zero_add, e1, wsG_set, set_putL hul (by omega)]))⟩
  · have hi' : i = xs.length := by have := of_decide_eq_false h; omega
    subst hi'
    have hval := hI.done
    rw [hvx, hvy] at hval
    have ht := trim_g hI.ok (by unfold maxLen; omega)
    rw [hval, Nat.mul_comm Y X] at ht
    clear h
    refine PW_freeze 0 rfl (PW_weak (env' := slots [(5, .g (.sl (wsG zs)))]) (H' := ⟨[], [], [.gone (0 + 1)]⟩) (SlotsOk.le ⟨.inl ?_, trivial⟩) (HLe.of_eq rfl) ?_)
    · exact congrArg (fun l => PV.g (.sl l)) (take_all (by rw [wsG_length]; omega))
    (repeat (first|((first|refine qA ?_|refine qB ?_|refine xN ?_|refine xE ?_|refine xT ?_); try show PW _ _ _ _ _ _)|refine ro1 tabOk rfl rfl ?_|refine ro2 tabOk rfl rfl ?_|refine ro3 tabOk rfl rfl ?_|refine rd1 tabOk rfl rfl ?_|refine rd2 tabOk rfl rfl ?_|refine rd3 tabOk rfl rfl ?_|((first|apply oR rfl rfl|(apply dF rfl rfl rfl; intro _)|(apply dP rfl rfl rfl; intro _)|(apply dL rfl rfl rfl; intro _)|apply dC rfl rfl rfl rfl); (focus (first|exact cqP ht|exact cJ|exact mG|exact bT|exact nD)); try exact kQ)|refine xS ?_|refine xR ?_|refine qxa rfl rfl mixed ?_|refine qxb rfl rfl mixed ?_|refine qxi rfl rfl rfl rfl rfl mixed ?_|refine qxc rfl rfl mixed ?_|refine qxd rfl rfl mixed ?_|refine xB ?_|refine xt rfl ?_|refine xf rfl ?_))
    (first|refine Ret_int (vC vT vN) rfl ?_|refine Ret_bool (vC vT vN) rfl ?_|refine Ret_g (vC vT vN) rfl ?_)
    rfl
end Go.Pure.V


namespace Go.Pure.V
open Go Go.Proofs Go.Proofs.YtdicineiaifahaaGreatDoor
attribute [local irreducible] PW POps POpsD PO PC Cond

theorem or_lo {a b : Nat} (ha : a < WB) (hb : b < WB) : IntKind.u64.wrap (((BitVec.ofInt IntKind.u64.bits (IntKind.u64.wrap ((b : Int) * 2 ^ min (32 : Int).toNat IntKind.u64.bits)) ||| BitVec.ofInt IntKind.u64.bits (a : Int)).toNat : Nat) : Int) = ((a + WB * b : Nat) : Int) := by
  rw [BitVec.or_comm]
  exact or_up ha hb
theorem quo_nat {a b : Nat} (ha : a < WB * WB) : IntKind.u64.wrap (((a : Int)).tdiv (b : Int)) = ((a / b : Nat) : Int) := by
  rw [← Int.ofNat_tdiv]
  exact u64_id (Nat.lt_of_le_of_lt (Nat.div_le_self _ _) ha)
theorem rem_nat {a b : Nat} : ((a : Int)).tmod (b : Int) = ((a % b : Nat) : Int) := by rw [Int.ofNat_tmod]
theorem vals_div {l : List Nat} {D : Nat} (h : okW l) : val (padD l.length (val l / D)) = val l / D := val_padD (Nat.lt_of_le_of_lt (Nat.div_le_self _ _) (val_lt h))

set_option maxRecDepth 100000 in
set_option maxHeartbeats 8000000 in
theorem small_pc {X d : Nat} (hX : (dig X).length ≤ 100000) (hd0 : d ≠ 0) (hd : d < WB) : PC Tryz.prog 96 [.g (.sl (wsG (dig X))), .g (wG d)] ⟨[], [], []⟩ (.tuple [.g (.sl (wsG (dig (X / d)))), .g (wG (X % d))]) ⟨[], [], []⟩ := by
  have hlx := wsG_length (dig X)
  have hox := okW_dig X
  have hvx := val_dig X
  generalize dig X = xs at *
  have hdw : IntKind.u64.wrap (d : Int) = (d : Int) := u64_id (by unfold WB at *; omega)
  have hdz : IntKind.u64.wrap (d : Int) ≠ 0 := by rw [hdw]; omega
  have hpos : 0 < d := by omega
  have ht := trim_g (l := padD xs.length (X / d)) (padD_ok _ _) (by rw [padD_length]; unfold maxLen; omega)
  have hvd := vals_div (D := d) hox
  rw [hvx] at hvd
  rw [hvd] at ht
  refine PC_of_PW Tryz.func96 rfl rfl (rs := _) rfl (Nat.le_of_ble_eq_true (by kernel_rfl)) ?_
  (repeat (first|((first|refine qA ?_|refine qB ?_|refine xN ?_|refine xE ?_|refine xT ?_); try show PW _ _ _ _ _ _)|refine ro1 tabOk rfl rfl ?_|refine ro2 tabOk rfl rfl ?_|refine ro3 tabOk rfl rfl ?_|(apply oR rfl rfl; (focus (first|exact vmakeV (n := xs.length) rfl rfl rfl (by rw [hlx]) (by rw [hlx]) (EL rfl) (by omega)|exact cJ|exact mG|exact bT|exact nD)))|refine xS ?_|refine xR ?_|refine xB ?_|refine xt rfl ?_|refine xf rfl ?_))
  refine PW_loop (S := Nat) (fun k => slots [(0, .g (.sl (wsG xs))), (1, .g (wG d)), (6, .vw 0 0 0 xs.length xs.length), (7, .g (.int .u64 ((val (xs.drop k) % d : Nat) : Int))), (8, .g (.int .i64 ((k : Int) - 1)))]) (fun k => ⟨[], [], [AR 0 (qW d xs k)]⟩) (fun k => k ≤ xs.length) (fun k => k) xs.length (Nat.le_refl _)
    (SlotsOk.le ⟨.inl rfl, .inl rfl, .inl rfl, .inl (congrArg (fun z : Nat => PV.g (.int .u64 (z : Int))) (by rw [List.drop_length, val_nil, Nat.zero_mod])), .inl (congrArg (fun z => PV.g (.int .i64 z)) (by rw [w64 (by omega), hlx])), trivial⟩) (HLe.of_eq (by rw [qW_start]; rfl)) (fun k hk => ?_)
  cases k with
  | zero =>
    (repeat (first|((first|refine qA ?_|refine qB ?_|refine xN ?_|refine xE ?_|refine xT ?_); try show PW _ _ _ _ _ _)|refine ro1 tabOk rfl rfl ?_|refine ro2 tabOk rfl rfl ?_|refine ro3 tabOk rfl rfl ?_|(apply oR rfl rfl; (focus (first|exact cJ|exact mG|exact bT|exact nD)))|refine xU [9] rfl ?_|refine xR ?_|refine xB ?_|refine xt rfl ?_|refine xf rfl ?_))
    refine PW_freeze 0 rfl (PW_weak (env' := slots [(6, .g (.sl (wsG (padD xs.length (X / d))))), (7, .g (.int .u64 ((X % d : Nat) : Int)))]) (H' := ⟨[], [], [.gone (0 + 1)]⟩) (SlotsOk.le ⟨.inl ?_, .inl ?_, trivial⟩) (HLe.of_eq rfl) ?_)
    · rw [← hvx, ← qW_done]
      exact congrArg (fun l => PV.g (.sl l)) (take_all (by rw [wsG_length, qW_length (Nat.zero_le _)]))
    · rw [← hvx]; rfl
    (repeat (first|((first|refine qA ?_|refine qB ?_|refine xN ?_|refine xE ?_|refine xT ?_); try show PW _ _ _ _ _ _)|refine ro1 tabOk rfl rfl ?_|refine ro2 tabOk rfl rfl ?_|refine ro3 tabOk rfl rfl ?_|(apply oR rfl rfl; (focus (first|exact cqP ht|exact cJ|exact mG|exact bT|exact nD)))|refine xS ?_|refine xR ?_|refine xB ?_|refine xt rfl ?_|refine xf rfl ?_))
    (first|refine Ret2 (vC vT (vC vT vN)) rfl ?_ ?_)
    · rfl
    · exact (congrArg (GV.int .u32) u32_wrap).trans (congrArg wG (Nat.mod_eq_of_lt (Nat.lt_trans (Nat.mod_lt _ hpos) hd)))
  | succ k =>
    have hx : xs[k]? = some (xs[k]'(by omega)) := List.getElem?_eq_getElem (by omega)
    generalize xs[k]'(by omega) = x at hx
    have hxw := hox.at hx
    have hgx : (wsG xs)[(((k + 1 : Nat) : Int) - 1).toNat]? = some (wG x) := by rw [show (((k + 1 : Nat) : Int) - 1).toNat = k by omega]; exact wsG_get hx
    have hr := Nat.mod_lt (val (xs.drop (k + 1))) hpos
    have hst := rest_step hpos hx
    have hqs := qW_step hpos hxw hx
    have hql := qW_length (D := d) (l := xs) hk
    have hgz : (wsG (qW d xs (k + 1)))[0 + k]? = some (wG ((qW d xs (k + 1))[k]'(by omega))) := wsG_get (by rw [Nat.zero_add]; exact List.getElem?_eq_getElem _)
    generalize (qW d xs (k + 1))[k]'(by omega) = z at hgz
    have hdl := digit_lt (D := d) hxw hr
    generalize val (xs.drop (k + 1)) % d = r at *
    have hN : x + WB * r < WB * WB := by unfold WB at *; omega
    have hor : IntKind.u64.wrap (((BitVec.ofInt IntKind.u64.bits (IntKind.u64.wrap ((r : Int) * 2 ^ min (32 : Int).toNat IntKind.u64.bits)) ||| BitVec.ofInt IntKind.u64.bits (IntKind.u64.wrap (x : Int))).toNat : Nat) : Int) = ((x + WB * r : Nat) : Int) := by
      rw [u64_id (n := x) (by unfold WB at *; omega)]
      exact or_lo hxw (by omega)
    have hq : IntKind.u64.wrap ((((x + WB * r : Nat)) : Int).tdiv (IntKind.u64.wrap (d : Int))) = (((x + WB * r) / d : Nat) : Int) := by rw [hdw]; exact quo_nat hN
    have hm : (((x + WB * r : Nat)) : Int).tmod (IntKind.u64.wrap (d : Int)) = (((x + WB * r) % d : Nat) : Int) := by rw [hdw]; exact rem_nat
    (repeat (first|((first|refine qA ?_|refine qB ?_|refine xN ?_|refine xE ?_|refine xT ?_); try show PW _ _ _ _ _ _)|refine ro1 tabOk rfl rfl ?_|refine ro2 tabOk rfl rfl ?_|refine ro3 tabOk rfl rfl ?_|(apply oR rfl rfl; (focus (first|exact cJ|exact mG|exact bT|exact nD)))|refine xS ?_|refine xR ?_|refine xB ?_|refine xt rfl ?_|refine xf rfl ?_))
    (first|refine POps_split rfl rfl (fun h => ?_) (fun h => ?_)|refine PW_cond rfl (fun h => ?_) (fun h => ?_))
    · clear h
      (repeat (first|((first|refine qA ?_|refine qB ?_|refine xN ?_|refine xE ?_|refine xT ?_); try show PW _ _ _ _ _ _)|refine ro1 tabOk rfl rfl ?_|refine ro2 tabOk rfl rfl ?_|refine ro3 tabOk rfl rfl ?_|(apply oR rfl rfl; (focus (first|exact iA (g := wG x) rfl (EL rfl) (SZ rfl) rfl rfl (by omega) hgx rfl|exact PO_shl rfl rfl rfl (by decide)|exact cJ|exact mG|exact bT|exact nD)))|refine xU [7] rfl ?_|refine xR ?_|refine xB ?_|refine xt rfl ?_|refine xf rfl ?_))
      refine PW_weak (env' := slots [(0, .g (.sl (wsG xs))), (1, .g (wG d)), (6, .vw 0 0 0 xs.length xs.length), (7, .g (.int .u64 ((x + WB * r : Nat) : Int))), (8, .g (.int .i64 (((k + 1 : Nat) : Int) - 1)))]) (H' := ⟨[], [], [AR 0 (qW d xs (k + 1))]⟩) (SlotsOk.le ⟨.inl rfl, .inl rfl, .inl rfl, .inl (congrArg (fun k => PV.g (.int .u64 k)) hor), .inl rfl, trivial⟩) (HLe.of_eq rfl) ?_
      (repeat (first|((first|refine qA ?_|refine qB ?_|refine xN ?_|refine xE ?_|refine xT ?_); try show PW _ _ _ _ _ _)|refine ro1 tabOk rfl rfl ?_|refine ro2 tabOk rfl rfl ?_|refine ro3 tabOk rfl rfl ?_|(apply oR rfl rfl; (focus (first|exact PO_vindex k rfl (EL rfl) (SZ rfl) rfl rfl (show (((k + 1 : Nat) : Int) - 1) = (k : Int) by omega) (by omega)|exact PO_as (PO_quo rfl rfl rfl hdz) (congrArg (fun k => PV.g (.int .u64 k)) hq)|exact PO_as (PO_rem rfl rfl rfl hdz) (congrArg (fun k => PV.g (.int .u64 k)) hm)|exact PO_store_mref rfl (SZ rfl) rfl rfl rfl rfl (by decide) rfl hgz (Nat.le_refl _)|exact cJ|exact mG|exact bT|exact nD)))|refine xS ?_|refine xR ?_|refine xB ?_|refine xt rfl ?_|refine xf rfl ?_))
      exact ⟨k, by omega, by omega, SlotsOk.le ⟨.inl rfl, .inl rfl, .inl rfl, .inl (congrArg (fun z : Nat => PV.g (.int .u64 (z : Int))) hst.symm), .inl (congrArg (fun z => PV.g (.int .i64 z)) (by rw [w64 (by omega)]; omega)), trivial⟩,
        HLe.of_eq (congrArg (fun l => (⟨[], [], [MO.arr 0 W32 l]⟩ : PH)) (show (wsG (qW d xs (k + 1))).set (0 + k) (GV.int .u32 (IntKind.u32.wrap (((x + WB * r) / d : Nat) : Int))) = wsG (qW d xs k) from by
          rw [Nat.zero_add, u32_wrap, Nat.mod_eq_of_lt hdl, ← hqs]
          exact wsG_set))⟩
    · exfalso; have := of_decide_eq_false h; omega
end Go.Pure.V


namespace Go.Pure.V
open Go Go.Proofs Go.Proofs.YtdicineiaifahaaGreatDoor
attribute [local irreducible] PW POps POpsD PO PC Cond

theorem shl_nat {n s : Nat} (hs : s ≤ 64) (h : n * 2 ^ s < WB * WB) : IntKind.u64.wrap ((n : Int) * 2 ^ min ((s : Int)).toNat IntKind.u64.bits) = ((n * 2 ^ s : Nat) : Int) := by
  rw [Int.toNat_natCast, Nat.min_eq_left (show s ≤ IntKind.u64.bits from hs), show ((n : Int) * 2 ^ s) = ((n * 2 ^ s : Nat) : Int) by push_cast; rfl]
  exact u64_id h
theorem or_fit {c x s : Nat} (hc : c < 2 ^ s) (hs : s < 32) : (c ||| (x * 2 ^ s) % WB) = (x * 2 ^ s + c) % WB := by
  have hW : WB = 2 ^ (32 - s) * 2 ^ s := by rw [← Nat.pow_add, show 32 - s + s = 32 by omega]
  have e1 : (x * 2 ^ s) % WB = (x % 2 ^ (32 - s)) * 2 ^ s := by rw [hW, Nat.mul_mod_mul_right]
  have e2 : (x * 2 ^ s + c) % WB = (x % 2 ^ (32 - s)) * 2 ^ s + c := by
    have hlt : (x % 2 ^ (32 - s)) * 2 ^ s + c < WB := by
      have h1 := Nat.mod_lt x (Nat.pow_pos (n := 32 - s) (show 0 < 2 by decide))
      have h2 : (x % 2 ^ (32 - s) + 1) * 2 ^ s ≤ 2 ^ (32 - s) * 2 ^ s := Nat.mul_le_mul_right _ h1
      rw [← hW, Nat.add_mul, Nat.one_mul] at h2
      omega
    rw [Nat.add_mod, e1, Nat.mod_eq_of_lt (show c < WB from Nat.lt_of_lt_of_le hc (by rw [hW]; exact Nat.le_mul_of_pos_left _ (Nat.pow_pos (by decide)))), Nat.mod_eq_of_lt hlt]
  rw [e1, e2, Nat.or_comm, ← Nat.shiftLeft_eq, ← Nat.shiftLeft_add_eq_or_of_lt hc, Nat.shiftLeft_eq]
theorem or32 {a b : Nat} (ha : a < WB) (hb : b < WB) : IntKind.u32.wrap (((BitVec.ofInt IntKind.u32.bits (a : Int) ||| BitVec.ofInt IntKind.u32.bits (b : Int)).toNat : Nat) : Int) = ((a ||| b : Nat) : Int) := by
  have e : (BitVec.ofInt 32 (a : Int) ||| BitVec.ofInt 32 (b : Int)).toNat = (a ||| b) := by
    rw [BitVec.ofInt_natCast, BitVec.ofInt_natCast, BitVec.toNat_or, BitVec.toNat_ofNat, BitVec.toNat_ofNat, Nat.mod_eq_of_lt (show a < 2 ^ 32 from ha), Nat.mod_eq_of_lt (show b < 2 ^ 32 from hb)]
  show IntKind.u32.wrap (((BitVec.ofInt 32 (a : Int) ||| BitVec.ofInt 32 (b : Int)).toNat : Nat) : Int) = _
  rw [e, u32_wrap, Nat.mod_eq_of_lt (Nat.or_lt_two_pow (n := 32) ha hb)]

set_option maxRecDepth 100000 in
set_option maxHeartbeats 8000000 in
theorem left_pc {X s : Nat} (hX : (dig X).length ≤ 100000) (hs : s < 32) : PC Tryz.prog 98 [.g (.sl (wsG (dig X))), .g (.int .u64 s)] ⟨[], [], []⟩ (.g (.sl (wsG (dig (X * 2 ^ s))))) ⟨[], [], []⟩ := by
  by_cases h0 : X = 0
  · subst h0
    rw [Nat.zero_mul, dig_zero]
    refine PC_of_PW Tryz.func98 rfl rfl (rs := _) rfl (Nat.le_of_ble_eq_true (by kernel_rfl)) ?_
    (repeat (first|((first|refine qA ?_|refine qB ?_|refine xN ?_|refine xE ?_|refine xT ?_); try show PW _ _ _ _ _ _)|refine ro1 tabOk rfl rfl ?_|refine ro2 tabOk rfl rfl ?_|refine ro3 tabOk rfl rfl ?_|(apply oR rfl rfl; (focus (first|exact cJ|exact mG|exact bT|exact nD)))|refine xS ?_|refine xR ?_|refine xB ?_|refine xt rfl ?_|refine xf rfl ?_))
    (first|refine Ret_int (vC vT vN) rfl ?_|refine Ret_bool (vC vT vN) rfl ?_|refine Ret_g (vC vT vN) rfl ?_)
    rfl
  have hp := dig_len_pos h0
  have hlx := wsG_length (dig X)
  have hox := okW_dig X
  have hvx := val_dig X
  generalize dig X = xs at *
  have hy : 2 ^ s < WB := by have := Nat.pow_lt_pow_right (show 1 < 2 by decide) hs; unfold WB; omega
  have hy0 : 0 < 2 ^ s := Nat.pow_pos (by decide)
  have ht := trim_g (lW_ok (i := xs.length) hox hy hy0) (by rw [lW_length (Nat.le_refl _)]; unfold maxLen; omega)
  rw [lW_done, hvx] at ht
  have hq : IntKind.i64.wrap (IntKind.u64.wrap ((s : Int).tdiv 32)) = 0 := by
    rw [show (s : Int).tdiv 32 = ((s / 32 : Nat) : Int) by rw [show (32 : Int) = ((32 : Nat) : Int) from rfl, ← Int.ofNat_tdiv], Nat.div_eq_of_lt hs]
    rfl
  have hm : (s : Int).tmod 32 = (s : Int) := by
    rw [show (s : Int).tmod 32 = ((s % 32 : Nat) : Int) by rw [show (32 : Int) = ((32 : Nat) : Int) from rfl, ← Int.ofNat_tmod], Nat.mod_eq_of_lt hs]
  have hlen : IntKind.i64.wrap (IntKind.i64.wrap (((wsG xs).length : Int) + 0) + 1) = ((xs.length + 1 : Nat) : Int) := by rw [w64 (n := ((wsG xs).length : Int) + 0) (by omega), w64 (by omega)]; omega
  refine PC_of_PW Tryz.func98 rfl rfl (rs := _) rfl (Nat.le_of_ble_eq_true (by kernel_rfl)) ?_
  (repeat (first|((first|refine qA ?_|refine qB ?_|refine xN ?_|refine xE ?_|refine xT ?_); try show PW _ _ _ _ _ _)|refine ro1 tabOk rfl rfl ?_|refine ro2 tabOk rfl rfl ?_|refine ro3 tabOk rfl rfl ?_|(apply oR rfl rfl; (focus (first|exact cJ|exact mG|exact bT|exact nD)))|refine xS ?_|refine xR ?_|refine xB ?_|refine xt rfl ?_|refine xf rfl ?_))
  (first|refine POps_split rfl rfl (fun h => ?_) (fun h => ?_)|refine PW_cond rfl (fun h => ?_) (fun h => ?_))
  · exfalso; have hh := beq_iff_eq.1 h; omega
  clear h
  (repeat (first|((first|refine qA ?_|refine qB ?_|refine xN ?_|refine xE ?_|refine xT ?_); try show PW _ _ _ _ _ _)|refine ro1 tabOk rfl rfl ?_|refine ro2 tabOk rfl rfl ?_|refine ro3 tabOk rfl rfl ?_|(apply oR rfl rfl; (focus (first|exact PO_quo rfl rfl rfl (by decide)|exact PO_rem rfl rfl rfl (by decide)|exact cJ|exact mG|exact bT|exact nD)))|refine xU [4] rfl ?_|refine xR ?_|refine xB ?_|refine xt rfl ?_|refine xf rfl ?_))
  refine PW_weak (env' := slots [(0, .g (.sl (wsG xs))), (5, .g (.int .i64 0)), (6, .g (.int .u64 s))]) (H' := ⟨[], [], []⟩) (SlotsOk.le ⟨.inl rfl, .inl (congrArg (fun k => PV.g (.int .i64 k)) hq), .inl (congrArg (fun k => PV.g (.int .u64 k)) hm), trivial⟩) (HLe.of_eq rfl) ?_
  (repeat (first|((first|refine qA ?_|refine qB ?_|refine xN ?_|refine xE ?_|refine xT ?_); try show PW _ _ _ _ _ _)|refine ro1 tabOk rfl rfl ?_|refine ro2 tabOk rfl rfl ?_|refine ro3 tabOk rfl rfl ?_|(apply oR rfl rfl; (focus (first|exact vmakeV (n := xs.length + 1) rfl rfl rfl hlen hlen (EL rfl) (by omega)|exact cJ|exact mG|exact bT|exact nD)))|refine xS ?_|refine xR ?_|refine xB ?_|refine xt rfl ?_|refine xf rfl ?_))
  refine PW_loop (S := Nat) (fun i => slots [(0, .g (.sl (wsG xs))), (5, .g (.int .i64 0)), (6, .g (.int .u64 s)), (7, .vw 0 0 0 (xs.length + 1) (xs.length + 1)), (8, .g (.int .i64 i))]) (fun i => ⟨[], [], [AR 0 (lW xs (2 ^ s) i)]⟩) (fun i => i ≤ xs.length) (fun i => xs.length - i) 0 (Nat.zero_le _)
    (SlotsOk.le ⟨.inl rfl, .inl rfl, .inl rfl, .inl rfl, .inl rfl, trivial⟩) (HLe.of_eq (by rw [lW_start]; rfl)) (fun i hi => ?_)
  (repeat (first|((first|refine qA ?_|refine qB ?_|refine xN ?_|refine xE ?_|refine xT ?_); try show PW _ _ _ _ _ _)|refine ro1 tabOk rfl rfl ?_|refine ro2 tabOk rfl rfl ?_|refine ro3 tabOk rfl rfl ?_|(apply oR rfl rfl; (focus (first|exact cJ|exact mG|exact bT|exact nD)))|refine xS ?_|refine xR ?_|refine xB ?_|refine xt rfl ?_|refine xf rfl ?_))
  (first|refine POps_split rfl rfl (fun h => ?_) (fun h => ?_)|refine PW_cond rfl (fun h => ?_) (fun h => ?_))
  · have hlt : i < xs.length := by have := of_decide_eq_true h; omega
    have hxi : xs[i]? = some (xs[i]'(by omega)) := List.getElem?_eq_getElem (by omega)
    generalize xs[i]'(by omega) = x at hxi
    have hg : (wsG xs)[(i : Int).toNat]? = some (wG x) := wsG_get hxi
    have hxw : x < WB := hox.at hxi
    obtain ⟨g1, g2⟩ := lW_get (y := 2 ^ s) hlt
    have hst := lW_step (y := 2 ^ s) hxi
    have hc := mulAddC_small (hox.take i) hy0
    have hll := lW_length (y := 2 ^ s) hi
    generalize lW xs (2 ^ s) i = ws at *
    generalize mulAddC (xs.take i) (2 ^ s) 0 = cc at *
    have hg1 : (wsG ws)[0 + i]? = some (wG cc) := wsG_get (by rw [Nat.zero_add]; exact g1)
    have hvb : x * 2 ^ s < WB * WB := by
      have : x * 2 ^ s ≤ (WB - 1) * (WB - 1) := Nat.mul_le_mul (by omega) (by omega)
      unfold WB at *; omega
    have hsh : IntKind.u64.wrap ((IntKind.u64.wrap (x : Int)) * 2 ^ min ((s : Int)).toNat IntKind.u64.bits) = ((x * 2 ^ s : Nat) : Int) := by
      rw [u64_id (n := x) (by unfold WB at *; omega)]
      exact shl_nat (by omega) hvb
    have hi0 : IntKind.i64.wrap ((i : Int) + 0) = ((i : Nat) : Int) := by rw [w64 (by omega)]; omega
    have hi1 : IntKind.i64.wrap (IntKind.i64.wrap ((i : Int) + 0) + 1) = ((i + 1 : Nat) : Int) := by rw [hi0, w64 (by omega)]; omega
    have hcw : cc < WB := Nat.lt_trans hc hy
    have hor : IntKind.u32.wrap (((BitVec.ofInt IntKind.u32.bits (cc : Int) ||| BitVec.ofInt IntKind.u32.bits (IntKind.u32.wrap ((x * 2 ^ s : Nat) : Int))).toNat : Nat) : Int) = (((x * 2 ^ s + cc) % WB : Nat) : Int) := by
      rw [u32_wrap (n := x * 2 ^ s), or32 hcw (Nat.mod_lt _ (by decide)), or_fit hc hs]
    have hdv : (x * 2 ^ s + cc) / WB = x * 2 ^ s / WB := by
      have e : x * 2 ^ s = x / 2 ^ (32 - s) * WB + (x % 2 ^ (32 - s)) * 2 ^ s := by
        have h1 := Nat.div_add_mod x (2 ^ (32 - s))
        have hW : WB = 2 ^ (32 - s) * 2 ^ s := by rw [← Nat.pow_add, show 32 - s + s = 32 by omega]
        conv => lhs; rw [← h1]
        rw [Nat.add_mul, hW, Nat.mul_comm (2 ^ (32 - s)), Nat.mul_assoc]
      have hlt : (x % 2 ^ (32 - s)) * 2 ^ s + cc < WB := by
        have hW : WB = 2 ^ (32 - s) * 2 ^ s := by rw [← Nat.pow_add, show 32 - s + s = 32 by omega]
        have h1 := Nat.mod_lt x (Nat.pow_pos (n := 32 - s) (show 0 < 2 by decide))
        have h2 : (x % 2 ^ (32 - s) + 1) * 2 ^ s ≤ 2 ^ (32 - s) * 2 ^ s := Nat.mul_le_mul_right _ h1
        rw [← hW, Nat.add_mul, Nat.one_mul] at h2
        omega
      rw [e]
      generalize x / 2 ^ (32 - s) = q at *
      generalize (x % 2 ^ (32 - s)) * 2 ^ s = m at *
      unfold WB at *
      omega
    have hor2 : IntKind.u32.wrap (((BitVec.ofInt IntKind.u32.bits ((0 : Nat) : Int) ||| BitVec.ofInt IntKind.u32.bits (IntKind.u32.wrap (((x * 2 ^ s : Nat) : Int).fdiv (2 ^ min (32 : Int).toNat IntKind.u64.bits)))).toNat : Nat) : Int) = (((x * 2 ^ s + cc) / WB : Nat) : Int) := by
      have := shr_nat (n := x * 2 ^ s) (s := 32) (by decide)
      rw [show (((x * 2 ^ s : Nat) : Int).fdiv (2 ^ min (32 : Int).toNat IntKind.u64.bits)) = ((x * 2 ^ s / 2 ^ 32 : Nat) : Int) from this]
      rw [u32_wrap (n := x * 2 ^ s / 2 ^ 32), or32 (by decide) (Nat.mod_lt _ (by decide)), Nat.zero_or, hdv]
      have : x * 2 ^ s / 2 ^ 32 < WB := by
        have : x * 2 ^ s < WB * WB := hvb
        exact (Nat.div_lt_iff_lt_mul (by decide)).2 this
      rw [Nat.mod_eq_of_lt this]
    clear h
    (repeat (first|((first|refine qA ?_|refine qB ?_|refine xN ?_|refine xE ?_|refine xT ?_); try show PW _ _ _ _ _ _)|refine ro1 tabOk rfl rfl ?_|refine ro2 tabOk rfl rfl ?_|refine ro3 tabOk rfl rfl ?_|(apply oR rfl rfl; (focus (first|exact iA rfl (EL rfl) (SZ rfl) rfl rfl (Int.natCast_nonneg _) hg rfl|exact PO_as (PO_shl rfl rfl rfl (Int.natCast_nonneg _)) (congrArg (fun k => PV.g (.int .u64 k)) hsh)|exact cJ|exact mG|exact bT|exact nD)))|refine xU [9] rfl ?_|refine xR ?_|refine xB ?_|refine xt rfl ?_|refine xf rfl ?_))
    have hg2 : (wsG (ws.set i ((x * 2 ^ s + cc) % WB)))[0 + (i + 1)]? = some (wG 0) := wsG_get (by rw [Nat.zero_add, List.getElem?_set_ne (by omega)]; exact g2)
    refine PW_cut (slots [(0, .g (.sl (wsG xs))), (5, .g (.int .i64 0)), (6, .g (.int .u64 s)), (7, .vw 0 0 0 (xs.length + 1) (xs.length + 1)), (8, .g (.int .i64 i)), (9, .g (.int .u64 ((x * 2 ^ s : Nat) : Int)))]) ⟨[], [], [AR 0 (ws.set i ((x * 2 ^ s + cc) % WB))]⟩ ?_ ?_
    · (repeat (first|((first|refine qA ?_|refine qB ?_|refine xN ?_|refine xE ?_|refine xT ?_); try show PW _ _ _ _ _ _)|refine ro1 tabOk rfl rfl ?_|refine ro2 tabOk rfl rfl ?_|refine ro3 tabOk rfl rfl ?_|(apply oR rfl rfl; (focus (first|exact PO_vindex i rfl (EL rfl) (SZ rfl) rfl rfl hi0 (by omega)|exact PO_load_mref_one rfl (AG rfl) rfl rfl hg1 rfl|exact PO_store_mref rfl (SZ rfl) rfl rfl rfl rfl (by decide) rfl hg1 (Nat.le_refl _)|exact cJ|exact mG|exact bT|exact nD)))|refine xS ?_|refine xR ?_|refine xB ?_|refine xt rfl ?_|refine xf rfl ?_))
      exact ⟨SlotsOk.le ⟨.inl rfl, .inl rfl, .inl rfl, .inl rfl, .inl rfl, .inl rfl, trivial⟩,
        HLe.of_eq (congrArg (fun l => (⟨[], [], [MO.arr 0 W32 l]⟩ : PH)) (show (wsG ws).set (0 + i) (GV.int .u32 (IntKind.u32.wrap (((BitVec.ofInt IntKind.u32.bits (cc : Int) ||| BitVec.ofInt IntKind.u32.bits (IntKind.u32.wrap ((x * 2 ^ s : Nat) : Int))).toNat : Nat) : Int))) = wsG (ws.set i ((x * 2 ^ s + cc) % WB)) from by
          rw [Nat.zero_add, hor]; exact wsG_set))⟩
    (repeat (first|((first|refine qA ?_|refine qB ?_|refine xN ?_|refine xE ?_|refine xT ?_); try show PW _ _ _ _ _ _)|refine ro1 tabOk rfl rfl ?_|refine ro2 tabOk rfl rfl ?_|refine ro3 tabOk rfl rfl ?_|(apply oR rfl rfl; (focus (first|exact PO_vindex (i + 1) rfl (EL rfl) (SZ rfl) rfl rfl hi1 (by omega)|exact PO_load_mref_one rfl (AG rfl) rfl rfl hg2 rfl|exact PO_shr rfl rfl rfl (by decide)|exact PO_store_mref rfl (SZ rfl) rfl rfl rfl rfl (by decide) rfl hg2 (Nat.le_refl _)|exact cJ|exact mG|exact bT|exact nD)))|refine xS ?_|refine xR ?_|refine xB ?_|refine xt rfl ?_|refine xf rfl ?_))
    exact ⟨i + 1, hlt, by omega, SlotsOk.le ⟨.inl rfl, .inl rfl, .inl rfl, .inl rfl, .inl (congrArg (fun z => PV.g (.int .i64 z)) (w64 (by omega))), trivial⟩,
      HLe.of_eq (congrArg (fun l => (⟨[], [], [MO.arr 0 W32 l]⟩ : PH)) (show (wsG (ws.set i ((x * 2 ^ s + cc) % WB))).set (0 + (i + 1)) (GV.int .u32 (IntKind.u32.wrap (((BitVec.ofInt IntKind.u32.bits ((0 : Nat) : Int) ||| BitVec.ofInt IntKind.u32.bits (IntKind.u32.wrap (((x * 2 ^ s : Nat) : Int).fdiv (2 ^ min (32 : Int).toNat IntKind.u64.bits)))).toNat : Nat) : Int))) = wsG (lW xs (2 ^ s) (i + 1)) from by
        rw [Nat.zero_add, hor2, ← hst]; exact wsG_set))⟩
  · have hi' : i = xs.length := by have := of_decide_eq_false h; omega
    subst hi'
    clear h
    refine PW_freeze 0 rfl (PW_weak (env' := slots [(7, .g (.sl (wsG (lW xs (2 ^ s) xs.length))))]) (H' := ⟨[], [], [.gone (0 + 1)]⟩) (SlotsOk.le ⟨.inl ?_, trivial⟩) (HLe.of_eq rfl) ?_)
    · exact congrArg (fun l => PV.g (.sl l)) (take_all (by rw [wsG_length, lW_length (Nat.le_refl _)]))
    (repeat (first|((first|refine qA ?_|refine qB ?_|refine xN ?_|refine xE ?_|refine xT ?_); try show PW _ _ _ _ _ _)|refine ro1 tabOk rfl rfl ?_|refine ro2 tabOk rfl rfl ?_|refine ro3 tabOk rfl rfl ?_|(apply oR rfl rfl; (focus (first|exact cqP ht|exact cJ|exact mG|exact bT|exact nD)))|refine xS ?_|refine xR ?_|refine xB ?_|refine xt rfl ?_|refine xf rfl ?_))
    (first|refine Ret_int (vC vT vN) rfl ?_|refine Ret_bool (vC vT vN) rfl ?_|refine Ret_g (vC vT vN) rfl ?_)
    rfl
end Go.Pure.V


namespace Go.Pure.V
open Go Go.Proofs Go.Proofs.YtdicineiaifahaaGreatDoor
attribute [local irreducible] PW POps POpsD PO PC Cond

def shW (s : Nat) : List Nat → List Nat
  | [] => []
  | x :: r => ((x + WB * r.headD 0) / 2 ^ s) % WB :: shW s r
theorem shW_length (s : Nat) : ∀ l, (shW s l).length = l.length
  | [] => rfl
  | x :: r => by simp [shW, shW_length s r]
theorem shW_ok (s : Nat) : ∀ l, okW (shW s l)
  | [] => okW_nil
  | x :: r => okW_cons.2 ⟨Nat.mod_lt _ (by decide), shW_ok s r⟩
theorem sh_two {x y R s : Nat} (hx : x < WB) (hs : s ≤ 32) : (x + WB * (y + WB * R)) / 2 ^ s = ((x + WB * y) / 2 ^ s) % WB + WB * ((y + WB * R) / 2 ^ s) := by
  have hP : 0 < 2 ^ s := Nat.pow_pos (by decide)
  have hW : WB = 2 ^ s * 2 ^ (32 - s) := by rw [← Nat.pow_add, show s + (32 - s) = 32 by omega]
  have e1 : (x + WB * (y + WB * R)) / 2 ^ s = (x + WB * y) / 2 ^ s + 2 ^ (32 - s) * (WB * R) := by
    rw [show x + WB * (y + WB * R) = x + WB * y + 2 ^ s * (2 ^ (32 - s) * (WB * R)) by rw [← Nat.mul_assoc (2 ^ s), ← hW, Nat.mul_add]; omega, Nat.add_mul_div_left _ _ hP]
  have e2 : (y + WB * R) / 2 ^ s = y / 2 ^ s + 2 ^ (32 - s) * R := by
    rw [show WB * R = 2 ^ s * (2 ^ (32 - s) * R) by rw [← Nat.mul_assoc, ← hW], Nat.add_mul_div_left _ _ hP]
  have e3 : (x + WB * y) / 2 ^ s / WB = y / 2 ^ s := by
    rw [Nat.div_div_eq_div_mul, Nat.mul_comm (2 ^ s) WB, ← Nat.div_div_eq_div_mul, Nat.add_mul_div_left _ _ (by decide), Nat.div_eq_of_lt hx, Nat.zero_add]
  have e4 := Nat.mod_add_div ((x + WB * y) / 2 ^ s) WB
  rw [e3] at e4
  rw [e1, e2, Nat.mul_add, ← Nat.add_assoc, e4, Nat.mul_left_comm]
theorem shW_val {s : Nat} (hs : s ≤ 32) : ∀ {l : List Nat}, okW l → val (shW s l) = val l / 2 ^ s
  | [], _ => by simp [shW, val_nil]
  | x :: r, h => by
    obtain ⟨h1, h2⟩ := okW_cons.1 h
    have ih := shW_val hs h2
    rw [shW, val_cons, val_cons, ih]
    cases r with
    | nil =>
      have := sh_two (y := 0) (R := 0) h1 hs
      simp only [val_nil, List.headD_nil, Nat.mul_zero, Nat.add_zero, Nat.zero_div] at this ⊢
      exact this.symm
    | cons y r' => exact (sh_two h1 hs).symm
theorem shW_get {s : Nat} : ∀ {l : List Nat} {i x : Nat}, l[i]? = some x → (shW s l)[i]? = some (((x + WB * l.getD (i + 1) 0) / 2 ^ s) % WB)
  | [], _, _, h => by simp at h
  | x :: r, 0, z, h => by
    simp at h
    subst h
    cases r <;> simp [shW]
  | x :: r, i + 1, z, h => by
    have := shW_get (s := s) (l := r) (i := i) (x := z) (by simpa using h)
    simpa [shW] using this
def fillW (l : List Nat) (i : Nat) : List Nat := l.take i ++ List.replicate (l.length - i) 0
theorem fillW_length {l : List Nat} {i : Nat} (h : i ≤ l.length) : (fillW l i).length = l.length := by simp [fillW]; omega
theorem fillW_step {l : List Nat} {i x : Nat} (h : l[i]? = some x) : (fillW l i).set i x = fillW l (i + 1) := by
  have hi := (List.getElem?_eq_some_iff.1 h).1
  have e : (l.take i).length = i := by simp; omega
  unfold fillW
  rw [List.set_append_right _ _ (by omega), e, Nat.sub_self, show l.length - i = (l.length - (i + 1)) + 1 by omega, List.replicate_succ, List.set_cons_zero, List.take_add_one, h]
  simp
theorem shr_u64 {n s : Nat} (hs : s ≤ 64) : ((n : Int)).fdiv (2 ^ min ((s : Int)).toNat IntKind.u64.bits) = ((n / 2 ^ s : Nat) : Int) := shr_nat hs

set_option maxRecDepth 100000 in
set_option maxHeartbeats 8000000 in
theorem right_pc {X s : Nat} (hX : (dig X).length ≤ 100000) (hs : s < 32) : PC Tryz.prog 99 [.g (.sl (wsG (dig X))), .g (.int .u64 s)] ⟨[], [], []⟩ (.g (.sl (wsG (dig (X / 2 ^ s))))) ⟨[], [], []⟩ := by
  have hq : IntKind.i64.wrap (IntKind.u64.wrap ((s : Int).tdiv 32)) = 0 := by
    rw [show (s : Int).tdiv 32 = ((s / 32 : Nat) : Int) by rw [show (32 : Int) = ((32 : Nat) : Int) from rfl, ← Int.ofNat_tdiv], Nat.div_eq_of_lt hs]
    rfl
  have hm : (s : Int).tmod 32 = (s : Int) := by
    rw [show (s : Int).tmod 32 = ((s % 32 : Nat) : Int) by rw [show (32 : Int) = ((32 : Nat) : Int) from rfl, ← Int.ofNat_tmod], Nat.mod_eq_of_lt hs]
  by_cases h0 : X = 0
  · subst h0
    rw [Nat.zero_div, dig_zero]
    refine PC_of_PW Tryz.func99 rfl rfl (rs := _) rfl (Nat.le_of_ble_eq_true (by kernel_rfl)) ?_
    (repeat (first|((first|refine qA ?_|refine qB ?_|refine xN ?_|refine xE ?_|refine xT ?_); try show PW _ _ _ _ _ _)|refine ro1 tabOk rfl rfl ?_|refine ro2 tabOk rfl rfl ?_|refine ro3 tabOk rfl rfl ?_|(apply oR rfl rfl; (focus (first|exact PO_quo rfl rfl rfl (by decide)|exact PO_rem rfl rfl rfl (by decide)|exact cJ|exact mG|exact bT|exact nD)))|refine xU [2] rfl ?_|refine xR ?_|refine xB ?_|refine xt rfl ?_|refine xf rfl ?_))
    refine PW_weak (env' := slots [(0, .g (.sl (wsG []))), (5, .g (.int .i64 0)), (6, .g (.int .u64 s))]) (H' := ⟨[], [], []⟩) (SlotsOk.le ⟨.inl rfl, .inl (congrArg (fun k => PV.g (.int .i64 k)) hq), .inl (congrArg (fun k => PV.g (.int .u64 k)) hm), trivial⟩) (HLe.of_eq rfl) ?_
    (repeat (first|((first|refine qA ?_|refine qB ?_|refine xN ?_|refine xE ?_|refine xT ?_); try show PW _ _ _ _ _ _)|refine ro1 tabOk rfl rfl ?_|refine ro2 tabOk rfl rfl ?_|refine ro3 tabOk rfl rfl ?_|(apply oR rfl rfl; (focus (first|exact cJ|exact mG|exact bT|exact nD)))|refine xS ?_|refine xR ?_|refine xB ?_|refine xt rfl ?_|refine xf rfl ?_))
    (first|refine Ret_int (vC vT vN) rfl ?_|refine Ret_bool (vC vT vN) rfl ?_|refine Ret_g (vC vT vN) rfl ?_)
    rfl
  have hp := dig_len_pos h0
  have hlx := wsG_length (dig X)
  have hox := okW_dig X
  have hvx := val_dig X
  generalize dig X = xs at *
  have ht := trim_g (shW_ok s xs) (by rw [shW_length]; unfold maxLen; omega)
  rw [shW_val (by omega) hox, hvx] at ht
  have hlen : IntKind.i64.wrap (((wsG xs).length : Int) - 0) = ((xs.length : Nat) : Int) := by rw [w64 (by omega)]; omega
  refine PC_of_PW Tryz.func99 rfl rfl (rs := _) rfl (Nat.le_of_ble_eq_true (by kernel_rfl)) ?_
  (repeat (first|((first|refine qA ?_|refine qB ?_|refine xN ?_|refine xE ?_|refine xT ?_); try show PW _ _ _ _ _ _)|refine ro1 tabOk rfl rfl ?_|refine ro2 tabOk rfl rfl ?_|refine ro3 tabOk rfl rfl ?_|(apply oR rfl rfl; (focus (first|exact PO_quo rfl rfl rfl (by decide)|exact PO_rem rfl rfl rfl (by decide)|exact cJ|exact mG|exact bT|exact nD)))|refine xU [2] rfl ?_|refine xR ?_|refine xB ?_|refine xt rfl ?_|refine xf rfl ?_))
  refine PW_weak (env' := slots [(0, .g (.sl (wsG xs))), (5, .g (.int .i64 0)), (6, .g (.int .u64 s))]) (H' := ⟨[], [], []⟩) (SlotsOk.le ⟨.inl rfl, .inl (congrArg (fun k => PV.g (.int .i64 k)) hq), .inl (congrArg (fun k => PV.g (.int .u64 k)) hm), trivial⟩) (HLe.of_eq rfl) ?_
  (repeat (first|((first|refine qA ?_|refine qB ?_|refine xN ?_|refine xE ?_|refine xT ?_); try show PW _ _ _ _ _ _)|refine ro1 tabOk rfl rfl ?_|refine ro2 tabOk rfl rfl ?_|refine ro3 tabOk rfl rfl ?_|(apply oR rfl rfl; (focus (first|exact cJ|exact mG|exact bT|exact nD)))|refine xS ?_|refine xR ?_|refine xB ?_|refine xt rfl ?_|refine xf rfl ?_))
  (first|refine POps_split rfl rfl (fun h => ?_) (fun h => ?_)|refine PW_cond rfl (fun h => ?_) (fun h => ?_))
  · exfalso; have hh := of_decide_eq_true h; omega
  clear h
  (repeat (first|((first|refine qA ?_|refine qB ?_|refine xN ?_|refine xE ?_|refine xT ?_); try show PW _ _ _ _ _ _)|refine ro1 tabOk rfl rfl ?_|refine ro2 tabOk rfl rfl ?_|refine ro3 tabOk rfl rfl ?_|(apply oR rfl rfl; (focus (first|exact vmakeV (n := xs.length) rfl rfl rfl hlen hlen (EL rfl) (by omega)|exact cJ|exact mG|exact bT|exact nD)))|refine xS ?_|refine xR ?_|refine xB ?_|refine xt rfl ?_|refine xf rfl ?_))
  refine PW_loop (S := Nat) (fun i => slots [(0, .g (.sl (wsG xs))), (5, .g (.int .i64 0)), (6, .g (.int .u64 s)), (7, .vw 0 0 0 xs.length xs.length), (8, .g (.int .i64 i))]) (fun i => ⟨[], [], [AR 0 (fillW (shW s xs) i)]⟩) (fun i => i ≤ xs.length) (fun i => xs.length - i) 0 (Nat.zero_le _)
    (SlotsOk.le ⟨.inl rfl, .inl rfl, .inl rfl, .inl rfl, .inl rfl, trivial⟩) (HLe.of_eq (by unfold fillW; rw [shW_length]; rfl)) (fun i hi => ?_)
  (repeat (first|((first|refine qA ?_|refine qB ?_|refine xN ?_|refine xE ?_|refine xT ?_); try show PW _ _ _ _ _ _)|refine ro1 tabOk rfl rfl ?_|refine ro2 tabOk rfl rfl ?_|refine ro3 tabOk rfl rfl ?_|(apply oR rfl rfl; (focus (first|exact PO_vlen rfl (EL rfl) rfl|exact cJ|exact mG|exact bT|exact nD)))|refine xS ?_|refine xR ?_|refine xB ?_|refine xt rfl ?_|refine xf rfl ?_))
  (first|refine POps_split rfl rfl (fun h => ?_) (fun h => ?_)|refine PW_cond rfl (fun h => ?_) (fun h => ?_))
  · have hlt : i < xs.length := by have := of_decide_eq_true h; omega
    have hxi : xs[i]? = some (xs[i]'(by omega)) := List.getElem?_eq_getElem (by omega)
    generalize xs[i]'(by omega) = x at hxi
    have hg : (wsG xs)[(IntKind.i64.wrap ((i : Int) + 0)).toNat]? = some (wG x) := by rw [w64 (by omega)]; exact wsG_get (by rw [show ((i : Int) + 0).toNat = i by omega]; exact hxi)
    have hg0 : 0 ≤ IntKind.i64.wrap ((i : Int) + 0) := by rw [w64 (by omega)]; omega
    have hxw : x < WB := hox.at hxi
    have hgt := shW_get (s := s) hxi
    have hst := fillW_step hgt
    have hyw : xs.getD (i + 1) 0 < WB := by
      rw [List.getD_eq_getElem?_getD]
      cases hh : xs[i + 1]? with
      | none => exact (by decide : 0 < WB)
      | some y => exact hox.at hh
    have hy1 : i + 1 < xs.length → (wsG xs)[i + 1]? = some (wG (xs.getD (i + 1) 0)) := fun hh => wsG_get (by rw [List.getD_eq_getElem?_getD, List.getElem?_eq_getElem hh]; rfl)
    have hy2 : ¬ i + 1 < xs.length → xs.getD (i + 1) 0 = 0 := fun hh => by rw [List.getD_eq_getElem?_getD, List.getElem?_eq_none (by omega)]; rfl
    have hfl := fillW_length (l := shW s xs) (i := i) (by rw [shW_length]; omega)
    rw [shW_length] at hfl
    generalize xs.getD (i + 1) 0 = y at *
    generalize fillW (shW s xs) i = ws at *
    have hz : (wsG ws)[0 + i]? = some (wG (ws[i]'(by omega))) := wsG_get (by rw [Nat.zero_add]; exact List.getElem?_eq_getElem _)
    generalize ws[i]'(by omega) = z at hz
    have hi1 : IntKind.i64.wrap (IntKind.i64.wrap ((i : Int) + 0) + 1) = ((i + 1 : Nat) : Int) := by rw [w64 (n := (i : Int) + 0) (by omega), w64 (by omega)]; omega
    have hg1 : i + 1 < xs.length → (wsG xs)[(IntKind.i64.wrap (IntKind.i64.wrap ((i : Int) + 0) + 1)).toNat]? = some (wG y) := fun hh => by rw [hi1]; exact hy1 hh
    have hg10 : 0 ≤ IntKind.i64.wrap (IntKind.i64.wrap ((i : Int) + 0) + 1) := by rw [hi1]; omega
    have w1 := u64_id (n := x) (by unfold WB at *; omega)
    have w2 := u64_id (n := y) (by unfold WB at *; omega)
    have hor : IntKind.u64.wrap (((BitVec.ofInt IntKind.u64.bits (IntKind.u64.wrap (x : Int)) ||| BitVec.ofInt IntKind.u64.bits (IntKind.u64.wrap (IntKind.u64.wrap (y : Int) * 2 ^ min (32 : Int).toNat IntKind.u64.bits))).toNat : Nat) : Int) = ((x + WB * y : Nat) : Int) := by rw [w1, w2]; exact or_up hxw hyw
    clear h
    (repeat (first|((first|refine qA ?_|refine qB ?_|refine xN ?_|refine xE ?_|refine xT ?_); try show PW _ _ _ _ _ _)|refine ro1 tabOk rfl rfl ?_|refine ro2 tabOk rfl rfl ?_|refine ro3 tabOk rfl rfl ?_|(apply oR rfl rfl; (focus (first|exact iA (g := wG x) rfl (EL rfl) (SZ rfl) rfl rfl hg0 hg rfl|exact cJ|exact mG|exact bT|exact nD)))|refine xU [9] rfl ?_|refine xR ?_|refine xB ?_|refine xt rfl ?_|refine xf rfl ?_))
    refine PW_cut (slots [(0, .g (.sl (wsG xs))), (5, .g (.int .i64 0)), (6, .g (.int .u64 s)), (7, .vw 0 0 0 xs.length xs.length), (8, .g (.int .i64 i)), (9, .g (.int .u64 ((x + WB * y : Nat) : Int)))]) ⟨[], [], [AR 0 ws]⟩ ?_ ?_
    · (repeat (first|((first|refine qA ?_|refine qB ?_|refine xN ?_|refine xE ?_|refine xT ?_); try show PW _ _ _ _ _ _)|refine ro1 tabOk rfl rfl ?_|refine ro2 tabOk rfl rfl ?_|refine ro3 tabOk rfl rfl ?_|(apply oR rfl rfl; (focus (first|exact cJ|exact mG|exact bT|exact nD)))|refine xS ?_|refine xR ?_|refine xB ?_|refine xt rfl ?_|refine xf rfl ?_))
      (first|refine POps_split rfl rfl (fun h => ?_) (fun h => ?_)|refine PW_cond rfl (fun h => ?_) (fun h => ?_))
      · have hc : i + 1 < xs.length := by rw [hi1] at h; have := of_decide_eq_true h; omega
        have hgy := hg1 hc
        clear h
        (repeat (first|((first|refine qA ?_|refine qB ?_|refine xN ?_|refine xE ?_|refine xT ?_); try show PW _ _ _ _ _ _)|refine ro1 tabOk rfl rfl ?_|refine ro2 tabOk rfl rfl ?_|refine ro3 tabOk rfl rfl ?_|(apply oR rfl rfl; (focus (first|exact iA (g := wG y) rfl (EL rfl) (SZ rfl) rfl rfl hg10 hgy rfl|exact PO_shl rfl rfl rfl (by decide)|exact cJ|exact mG|exact bT|exact nD)))|refine xS ?_|refine xR ?_|refine xB ?_|refine xt rfl ?_|refine xf rfl ?_))
        exact ⟨SlotsOk.le ⟨.inl rfl, .inl rfl, .inl rfl, .inl rfl, .inl rfl, .inl (congrArg (fun k => PV.g (.int .u64 k)) hor), trivial⟩, HLe.of_eq rfl⟩
      · have hc : ¬ i + 1 < xs.length := by rw [hi1] at h; have := of_decide_eq_false h; omega
        have hy0 := hy2 hc
        have e : IntKind.u64.wrap (x : Int) = ((x + WB * y : Nat) : Int) := by rw [w1, hy0, Nat.mul_zero, Nat.add_zero]
        clear h
        (repeat (first|((first|refine qA ?_|refine qB ?_|refine xN ?_|refine xE ?_|refine xT ?_); try show PW _ _ _ _ _ _)|refine ro1 tabOk rfl rfl ?_|refine ro2 tabOk rfl rfl ?_|refine ro3 tabOk rfl rfl ?_|(apply oR rfl rfl; (focus (first|exact cJ|exact mG|exact bT|exact nD)))|refine xS ?_|refine xR ?_|refine xB ?_|refine xt rfl ?_|refine xf rfl ?_))
        exact ⟨SlotsOk.le ⟨.inl rfl, .inl rfl, .inl rfl, .inl rfl, .inl rfl, .inl (congrArg (fun k => PV.g (.int .u64 k)) e), trivial⟩, HLe.of_eq rfl⟩
    (repeat (first|((first|refine qA ?_|refine qB ?_|refine xN ?_|refine xE ?_|refine xT ?_); try show PW _ _ _ _ _ _)|refine ro1 tabOk rfl rfl ?_|refine ro2 tabOk rfl rfl ?_|refine ro3 tabOk rfl rfl ?_|(apply oR rfl rfl; (focus (first|exact PO_vindex i rfl (EL rfl) (SZ rfl) rfl rfl rfl (by omega)|exact PO_as (PO_shr rfl rfl rfl (Int.natCast_nonneg _)) (congrArg (fun k => PV.g (.int .u64 k)) (shr_u64 (by omega)))|exact PO_store_mref rfl (SZ rfl) rfl rfl rfl rfl (by decide) rfl hz (Nat.le_refl _)|exact cJ|exact mG|exact bT|exact nD)))|refine xS ?_|refine xR ?_|refine xB ?_|refine xt rfl ?_|refine xf rfl ?_))
    exact ⟨i + 1, hlt, by omega, SlotsOk.le ⟨.inl rfl, .inl rfl, .inl rfl, .inl rfl, .inl (congrArg (fun z => PV.g (.int .i64 z)) (w64 (by omega))), trivial⟩,
      HLe.of_eq (congrArg (fun l => (⟨[], [], [MO.arr 0 W32 l]⟩ : PH)) (show (wsG ws).set (0 + i) (GV.int .u32 (IntKind.u32.wrap (((x + WB * y) / 2 ^ s : Nat) : Int))) = wsG (fillW (shW s xs) (i + 1)) from by
        rw [Nat.zero_add, u32_wrap, ← hst]; exact wsG_set))⟩
  · have hi' : i = xs.length := by have := of_decide_eq_false h; omega
    subst hi'
    clear h
    refine PW_freeze 0 rfl (PW_weak (env' := slots [(7, .g (.sl (wsG (shW s xs))))]) (H' := ⟨[], [], [.gone (0 + 1)]⟩) (SlotsOk.le ⟨.inl ?_, trivial⟩) (HLe.of_eq rfl) ?_)
    · refine congrArg (fun l => PV.g (.sl l)) ((take_all (by rw [wsG_length, fillW_length (by rw [shW_length]; exact Nat.le_refl _), shW_length])).trans ?_)
      unfold fillW
      rw [List.take_of_length_le (by rw [shW_length]; exact Nat.le_refl _), shW_length, Nat.sub_self, List.replicate_zero, List.append_nil]
    (repeat (first|((first|refine qA ?_|refine qB ?_|refine xN ?_|refine xE ?_|refine xT ?_); try show PW _ _ _ _ _ _)|refine ro1 tabOk rfl rfl ?_|refine ro2 tabOk rfl rfl ?_|refine ro3 tabOk rfl rfl ?_|(apply oR rfl rfl; (focus (first|exact cqP ht|exact cJ|exact mG|exact bT|exact nD)))|refine xS ?_|refine xR ?_|refine xB ?_|refine xt rfl ?_|refine xf rfl ?_))
    (first|refine Ret_int (vC vT vN) rfl ?_|refine Ret_bool (vC vT vN) rfl ?_|refine Ret_g (vC vT vN) rfl ?_)
    rfl
end Go.Pure.V


namespace Go.Pure.V
open Go Go.Proofs Go.Proofs.YtdicineiaifahaaGreatDoor
attribute [local irreducible] PW POps POpsD PO PC Cond

theorem shr_one {n : Nat} : ((n : Int)).fdiv (2 ^ min (1 : Int).toNat IntKind.u32.bits) = ((n / 2 : Nat) : Int) := by
  rw [show (2 : Int) ^ min (1 : Int).toNat IntKind.u32.bits = ((2 : Nat) : Int) from rfl, Int.fdiv_eq_ediv_of_nonneg _ (Int.natCast_nonneg _)]
  rfl
set_option maxRecDepth 100000 in
set_option maxHeartbeats 8000000 in
theorem length_pc {x y : Nat} (h0 : y ≠ 0) (hy : y < WB) : PC Tryz.prog 97 [.g (.sl (wsG [x, y]))] ⟨[], [], []⟩ (.g (.int .i64 ((33 + y.log2 : Nat) : Int))) ⟨[], [], []⟩ := by
  have h1 := Nat.log2_self_le h0
  have h2 := Nat.lt_log2_self (n := y)
  have h3 : y.log2 < 32 := by
    refine Classical.byContradiction fun hc => ?_
    have : 2 ^ 32 ≤ 2 ^ y.log2 := Nat.pow_le_pow_right (by decide) (by omega)
    unfold WB at hy
    omega
  generalize y.log2 = N at *
  refine PC_of_PW Tryz.func97 rfl rfl (rs := _) rfl (Nat.le_of_ble_eq_true (by kernel_rfl)) ?_
  (repeat (first|((first|refine qA ?_|refine qB ?_|refine xN ?_|refine xE ?_|refine xT ?_); try show PW _ _ _ _ _ _)|refine ro1 tabOk rfl rfl ?_|refine ro2 tabOk rfl rfl ?_|refine ro3 tabOk rfl rfl ?_|(apply oR rfl rfl; (focus (first|exact iA (g := wG y) rfl (EL rfl) (SZ rfl) rfl rfl (show (0 : Int) ≤ IntKind.i64.wrap (((2 : Nat) : Int) - 1) by decide) rfl rfl|exact cJ|exact mG|exact bT|exact nD)))|refine xS ?_|refine xR ?_|refine xB ?_|refine xt rfl ?_|refine xf rfl ?_))
  refine PW_loop (S := Nat) (fun k => slots [(0, .g (.sl (wsG [x, y]))), (3, .g (.int .i64 k)), (4, .g (wG (y / 2 ^ k)))]) (fun _ => ⟨[], [], []⟩) (fun k => k ≤ N + 1) (fun k => N + 1 - k) 0 (Nat.zero_le _)
    (SlotsOk.le ⟨.inl rfl, .inl rfl, .inl (congrArg (fun z => PV.g (wG z)) (show y = y / 2 ^ 0 by rw [Nat.pow_zero, Nat.div_one])), trivial⟩) (HLe.of_eq rfl) (fun k hk => ?_)
  (repeat (first|((first|refine qA ?_|refine qB ?_|refine xN ?_|refine xE ?_|refine xT ?_); try show PW _ _ _ _ _ _)|refine ro1 tabOk rfl rfl ?_|refine ro2 tabOk rfl rfl ?_|refine ro3 tabOk rfl rfl ?_|(apply oR rfl rfl; (focus (first|exact cJ|exact mG|exact bT|exact nD)))|refine xS ?_|refine xR ?_|refine xB ?_|refine xt rfl ?_|refine xf rfl ?_))
  (first|refine POps_split rfl rfl (fun h => ?_) (fun h => ?_)|refine PW_cond rfl (fun h => ?_) (fun h => ?_))
  · have hk' : k < N + 1 := by
      refine Classical.byContradiction fun hc => ?_
      have : k = N + 1 := by omega
      subst this
      have : y / 2 ^ (N + 1) = 0 := Nat.div_eq_of_lt h2
      rw [this] at h
      simp at h
    clear h
    (repeat (first|((first|refine qA ?_|refine qB ?_|refine xN ?_|refine xE ?_|refine xT ?_); try show PW _ _ _ _ _ _)|refine ro1 tabOk rfl rfl ?_|refine ro2 tabOk rfl rfl ?_|refine ro3 tabOk rfl rfl ?_|(apply oR rfl rfl; (focus (first|exact PO_shr rfl rfl rfl (by decide)|exact cJ|exact mG|exact bT|exact nD)))|refine xS ?_|refine xR ?_|refine xB ?_|refine xt rfl ?_|refine xf rfl ?_))
    exact ⟨k + 1, hk', by omega, SlotsOk.le ⟨.inl rfl, .inl (congrArg (fun z => PV.g (.int .i64 z)) (w64 (by omega))), .inl (congrArg (fun z => PV.g (.int .u32 z)) (by rw [Nat.pow_succ, ← Nat.div_div_eq_div_mul]; exact shr_one)), trivial⟩, HLe.of_eq rfl⟩
  · have hk' : k = N + 1 := by
      refine Classical.byContradiction fun hc => ?_
      have h4 : 2 ^ k ≤ 2 ^ N := Nat.pow_le_pow_right (by decide) (by omega)
      have h5 : 0 < y / 2 ^ k := Nat.div_pos (by omega) (Nat.pow_pos (by decide))
      generalize y / 2 ^ k = q at *
      have hq : ((q : Nat) : Int) = 0 := by simpa using h
      omega
    subst hk'
    clear h
    (repeat (first|((first|refine qA ?_|refine qB ?_|refine xN ?_|refine xE ?_|refine xT ?_); try show PW _ _ _ _ _ _)|refine ro1 tabOk rfl rfl ?_|refine ro2 tabOk rfl rfl ?_|refine ro3 tabOk rfl rfl ?_|(apply oR rfl rfl; (focus (first|exact cJ|exact mG|exact bT|exact nD)))|refine xS ?_|refine xR ?_|refine xB ?_|refine xt rfl ?_|refine xf rfl ?_))
    (first|refine Ret_int (vC vT vN) rfl ?_|refine Ret_bool (vC vT vN) rfl ?_|refine Ret_g (vC vT vN) rfl ?_)
    have e : IntKind.i64.wrap (IntKind.i64.wrap (((2 : Nat) : Int) - 1) * 32) = 32 := by decide
    show IntKind.i64.wrap (IntKind.i64.wrap (IntKind.i64.wrap (((2 : Nat) : Int) - 1) * 32) + ((N + 1 : Nat) : Int)) = _
    rw [e, w64 (by omega)]
    omega
end Go.Pure.V


namespace Go.Pure.V
open Go Go.Proofs Go.Proofs.YtdicineiaifahaaGreatDoor
attribute [local irreducible] PW POps POpsD PO PC Cond

set_option maxRecDepth 100000 in
set_option maxHeartbeats 8000000 in
theorem div_less {X Y : Nat} (h : X < Y) (hX : (dig X).length ≤ 100000) (hY : (dig Y).length ≤ 100000) : PC Tryz.prog 72 [.g (.sl (wsG (dig X))), .g (.sl (wsG (dig Y)))] ⟨[], [], []⟩ (.tuple [.g (.sl (wsG (dig (X / Y)))), .g (.sl (wsG (dig (X % Y))))]) ⟨[], [], []⟩ := by
  have hc := cmp_pc hX hY
  rw [show cmpN X Y = -1 by unfold cmpN; rw [if_pos h]] at hc
  have ht := twin_pc (l := dig X) (by omega)
  rw [Nat.div_eq_of_lt h, Nat.mod_eq_of_lt h, dig_zero]
  have hp := dig_len_pos (X := Y) (by omega)
  clear hX hY h
  generalize dig X = xs at *
  generalize dig Y = ys at *
  refine PC_of_PW Tryz.func72 rfl rfl (rs := _) rfl (Nat.le_of_ble_eq_true (by kernel_rfl)) ?_
  (repeat (first|((first|refine qA ?_|refine qB ?_|refine xN ?_|refine xE ?_|refine xT ?_); try show PW _ _ _ _ _ _)|refine ro1 tabOk rfl rfl ?_|refine ro2 tabOk rfl rfl ?_|refine ro3 tabOk rfl rfl ?_|refine rd1 tabOk rfl rfl ?_|refine rd2 tabOk rfl rfl ?_|refine rd3 tabOk rfl rfl ?_|((first|apply oR rfl rfl|(apply dF rfl rfl rfl; intro _)|(apply dP rfl rfl rfl; intro _)|(apply dL rfl rfl rfl; intro _)|apply dC rfl rfl rfl rfl); (focus (first|exact cJ|exact mG|exact bT|exact nD)); try exact kQ)|refine xS ?_|refine xR ?_|refine qxa rfl rfl mixed ?_|refine qxb rfl rfl mixed ?_|refine qxi rfl rfl rfl rfl rfl mixed ?_|refine qxc rfl rfl mixed ?_|refine qxd rfl rfl mixed ?_|refine xB ?_|refine xt rfl ?_|refine xf rfl ?_))
  (first|refine POps_split rfl rfl (fun h => ?_) (fun h => ?_)|refine POpsD_split rfl rfl (fun h => ?_) (fun h => ?_)|refine PW_cond rfl (fun h => ?_) (fun h => ?_))
  · exfalso; have hh := beq_iff_eq.1 h; omega
  clear h
  (repeat (first|((first|refine qA ?_|refine qB ?_|refine xN ?_|refine xE ?_|refine xT ?_); try show PW _ _ _ _ _ _)|refine ro1 tabOk rfl rfl ?_|refine ro2 tabOk rfl rfl ?_|refine ro3 tabOk rfl rfl ?_|refine rd1 tabOk rfl rfl ?_|refine rd2 tabOk rfl rfl ?_|refine rd3 tabOk rfl rfl ?_|((first|apply oR rfl rfl|(apply dF rfl rfl rfl; intro _)|(apply dP rfl rfl rfl; intro _)|(apply dL rfl rfl rfl; intro _)|apply dC rfl rfl rfl rfl); (focus (first|exact cqP hc|exact cqP ht|exact cJ|exact mG|exact bT|exact nD)); try exact kQ)|refine xS ?_|refine xR ?_|refine qxa rfl rfl mixed ?_|refine qxb rfl rfl mixed ?_|refine qxi rfl rfl rfl rfl rfl mixed ?_|refine qxc rfl rfl mixed ?_|refine qxd rfl rfl mixed ?_|refine xB ?_|refine xt rfl ?_|refine xf rfl ?_))
  (first|refine Ret2 (vC vT (vC vT vN)) rfl ?_ ?_)
  all_goals rfl
theorem cmpN_ge {X Y : Nat} (h : Y ≤ X) : decide (cmpN X Y < 0) = false := by
  refine decide_eq_false ?_
  unfold cmpN
  rw [if_neg (by omega)]
  split <;> omega
theorem dig_two {X : Nat} (h : X < WB * WB) : (wsG (dig X)).length ≤ 2 := by
  rw [dig_wlen]
  exact dig_length_le (k := 2) (by rw [Nat.pow_succ, Nat.pow_one]; exact h)

set_option maxRecDepth 100000 in
set_option maxHeartbeats 8000000 in
theorem div_plain {X Y : Nat} (h0 : Y ≠ 0) (hXY : Y ≤ X) (hX : X < WB * WB) : PC Tryz.prog 72 [.g (.sl (wsG (dig X))), .g (.sl (wsG (dig Y)))] ⟨[], [], []⟩ (.tuple [.g (.sl (wsG (dig (X / Y)))), .g (.sl (wsG (dig (X % Y))))]) ⟨[], [], []⟩ := by
  have hYl : Y < WB * WB := by omega
  have lx := dig_two hX
  have ly := dig_two hYl
  have hc := cmp_pc (X := X) (Y := Y) (by rw [← dig_wlen]; omega) (by rw [← dig_wlen]; omega)
  have hr := cmpN_ge hXY
  generalize cmpN X Y = r at hc hr
  have p1 := plain_pc hX
  have p2 := plain_pc hYl
  have hq := words_pc (x := X / Y) (Nat.lt_of_le_of_lt (Nat.div_le_self _ _) hX)
  have hm := words_pc (x := X % Y) (Nat.lt_of_le_of_lt (Nat.mod_le _ _) hX)
  have hp := dig_len_pos h0
  have e1 := quo_nat (b := Y) hX
  have e2 := @rem_nat X Y
  have hz : (Y : Int) ≠ 0 := by omega
  generalize dig (X / Y) = qs at *
  generalize dig (X % Y) = ms at *
  generalize dig X = xs at *
  generalize dig Y = ys at *
  generalize X / Y = q at *
  generalize X % Y = m at *
  refine PC_of_PW Tryz.func72 rfl rfl (rs := _) rfl (Nat.le_of_ble_eq_true (by kernel_rfl)) ?_
  (repeat (first|((first|refine qA ?_|refine qB ?_|refine xN ?_|refine xE ?_|refine xT ?_); try show PW _ _ _ _ _ _)|refine ro1 tabOk rfl rfl ?_|refine ro2 tabOk rfl rfl ?_|refine ro3 tabOk rfl rfl ?_|refine rd1 tabOk rfl rfl ?_|refine rd2 tabOk rfl rfl ?_|refine rd3 tabOk rfl rfl ?_|((first|apply oR rfl rfl|(apply dF rfl rfl rfl; intro _)|(apply dP rfl rfl rfl; intro _)|(apply dL rfl rfl rfl; intro _)|apply dC rfl rfl rfl rfl); (focus (first|exact cJ|exact mG|exact bT|exact nD)); try exact kQ)|refine xS ?_|refine xR ?_|refine qxa rfl rfl mixed ?_|refine qxb rfl rfl mixed ?_|refine qxi rfl rfl rfl rfl rfl mixed ?_|refine qxc rfl rfl mixed ?_|refine qxd rfl rfl mixed ?_|refine xB ?_|refine xt rfl ?_|refine xf rfl ?_))
  (first|refine POps_split rfl rfl (fun h => ?_) (fun h => ?_)|refine POpsD_split rfl rfl (fun h => ?_) (fun h => ?_)|refine PW_cond rfl (fun h => ?_) (fun h => ?_))
  · exfalso; have hh := beq_iff_eq.1 h; omega
  clear h
  (repeat (first|((first|refine qA ?_|refine qB ?_|refine xN ?_|refine xE ?_|refine xT ?_); try show PW _ _ _ _ _ _)|refine ro1 tabOk rfl rfl ?_|refine ro2 tabOk rfl rfl ?_|refine ro3 tabOk rfl rfl ?_|refine rd1 tabOk rfl rfl ?_|refine rd2 tabOk rfl rfl ?_|refine rd3 tabOk rfl rfl ?_|((first|apply oR rfl rfl|(apply dF rfl rfl rfl; intro _)|(apply dP rfl rfl rfl; intro _)|(apply dL rfl rfl rfl; intro _)|apply dC rfl rfl rfl rfl); (focus (first|exact cqP hc|exact cJ|exact mG|exact bT|exact nD)); try exact kQ)|refine xS ?_|refine xR ?_|refine qxa rfl rfl mixed ?_|refine qxb rfl rfl mixed ?_|refine qxi rfl rfl rfl rfl rfl mixed ?_|refine qxc rfl rfl mixed ?_|refine qxd rfl rfl mixed ?_|refine xB ?_|refine xt rfl ?_|refine xf rfl ?_))
  (first|refine POps_split rfl rfl (fun h => ?_) (fun h => ?_)|refine POpsD_split rfl rfl (fun h => ?_) (fun h => ?_)|refine PW_cond rfl (fun h => ?_) (fun h => ?_))
  · exfalso; rw [hr] at h; cases h
  clear h
  (repeat (first|((first|refine qA ?_|refine qB ?_|refine xN ?_|refine xE ?_|refine xT ?_); try show PW _ _ _ _ _ _)|refine ro1 tabOk rfl rfl ?_|refine ro2 tabOk rfl rfl ?_|refine ro3 tabOk rfl rfl ?_|refine rd1 tabOk rfl rfl ?_|refine rd2 tabOk rfl rfl ?_|refine rd3 tabOk rfl rfl ?_|((first|apply oR rfl rfl|(apply dF rfl rfl rfl; intro _)|(apply dP rfl rfl rfl; intro _)|(apply dL rfl rfl rfl; intro _)|apply dC rfl rfl rfl rfl); (focus (first|exact cJ|exact mG|exact bT|exact nD)); try exact kQ)|refine xS ?_|refine xR ?_|refine qxa rfl rfl mixed ?_|refine qxb rfl rfl mixed ?_|refine qxi rfl rfl rfl rfl rfl mixed ?_|refine qxc rfl rfl mixed ?_|refine qxd rfl rfl mixed ?_|refine xB ?_|refine xt rfl ?_|refine xf rfl ?_))
  (first|refine POps_split rfl rfl (fun h => ?_) (fun h => ?_)|refine POpsD_split rfl rfl (fun h => ?_) (fun h => ?_)|refine PW_cond rfl (fun h => ?_) (fun h => ?_))
  · clear h
    (repeat (first|((first|refine qA ?_|refine qB ?_|refine xN ?_|refine xE ?_|refine xT ?_); try show PW _ _ _ _ _ _)|refine ro1 tabOk rfl rfl ?_|refine ro2 tabOk rfl rfl ?_|refine ro3 tabOk rfl rfl ?_|refine rd1 tabOk rfl rfl ?_|refine rd2 tabOk rfl rfl ?_|refine rd3 tabOk rfl rfl ?_|((first|apply oR rfl rfl|(apply dF rfl rfl rfl; intro _)|(apply dP rfl rfl rfl; intro _)|(apply dL rfl rfl rfl; intro _)|apply dC rfl rfl rfl rfl); (focus (first|exact cqP p1|exact cqP p2|exact PO_as (PO_quo rfl rfl rfl hz) (congrArg (fun k => PV.g (.int .u64 k)) e1)|exact PO_as (PO_rem rfl rfl rfl hz) (congrArg (fun k => PV.g (.int .u64 k)) e2)|exact cqP hq|exact cqP hm|exact cJ|exact mG|exact bT|exact nD)); try exact kQ)|refine xS ?_|refine xR ?_|refine qxa rfl rfl mixed ?_|refine qxb rfl rfl mixed ?_|refine qxi rfl rfl rfl rfl rfl mixed ?_|refine qxc rfl rfl mixed ?_|refine qxd rfl rfl mixed ?_|refine xB ?_|refine xt rfl ?_|refine xf rfl ?_))
    (first|refine Ret2 (vC vT (vC vT vN)) rfl ?_ ?_)
    all_goals rfl
  · exfalso; have hh := of_decide_eq_false h; omega

set_option maxRecDepth 100000 in
set_option maxHeartbeats 8000000 in
theorem div_one {X Y : Nat} (h0 : Y ≠ 0) (hY : Y < WB) (hX : WB * WB ≤ X) (hm : (dig X).length ≤ 100000) : PC Tryz.prog 72 [.g (.sl (wsG (dig X))), .g (.sl (wsG (dig Y)))] ⟨[], [], []⟩ (.tuple [.g (.sl (wsG (dig (X / Y)))), .g (.sl (wsG (dig (X % Y))))]) ⟨[], [], []⟩ := by
  have hc := cmp_pc (X := X) (Y := Y) hm (by rw [← dig_wlen]; have := dig_two (X := Y) (by unfold WB at *; omega); omega)
  have hr := cmpN_ge (X := X) (Y := Y) (by unfold WB at *; omega)
  generalize cmpN X Y = r at hc hr
  have hs := small_pc hm h0 hY
  have ht := trim_g (l := [X % Y]) (okW_cons.2 ⟨Nat.lt_trans (Nat.mod_lt _ (by omega)) hY, okW_nil⟩) (by unfold maxLen; simp)
  rw [val_cons, val_nil, Nat.mul_zero, Nat.add_zero] at ht
  have hl : 2 < (wsG (dig X)).length := by
    rw [dig_wlen]
    refine Classical.byContradiction fun hc => ?_
    have h1 := val_lt (okW_dig X)
    rw [val_dig] at h1
    have h2 : WB ^ (dig X).length ≤ WB ^ 2 := Nat.pow_le_pow_right (by decide) (by omega)
    have : WB ^ 2 = WB * WB := by rw [Nat.pow_succ, Nat.pow_one]
    omega
  rw [dig_one h0 hY] at hc ⊢
  generalize dig (X / Y) = qs at *
  generalize dig (X % Y) = ms at *
  generalize dig X = xs at *
  generalize X % Y = m at *
  refine PC_of_PW Tryz.func72 rfl rfl (rs := _) rfl (Nat.le_of_ble_eq_true (by kernel_rfl)) ?_
  (repeat (first|((first|refine qA ?_|refine qB ?_|refine xN ?_|refine xE ?_|refine xT ?_); try show PW _ _ _ _ _ _)|refine ro1 tabOk rfl rfl ?_|refine ro2 tabOk rfl rfl ?_|refine ro3 tabOk rfl rfl ?_|refine rd1 tabOk rfl rfl ?_|refine rd2 tabOk rfl rfl ?_|refine rd3 tabOk rfl rfl ?_|((first|apply oR rfl rfl|(apply dF rfl rfl rfl; intro _)|(apply dP rfl rfl rfl; intro _)|(apply dL rfl rfl rfl; intro _)|apply dC rfl rfl rfl rfl); (focus (first|exact cqP hc|exact cJ|exact mG|exact bT|exact nD)); try exact kQ)|refine xS ?_|refine xR ?_|refine qxa rfl rfl mixed ?_|refine qxb rfl rfl mixed ?_|refine qxi rfl rfl rfl rfl rfl mixed ?_|refine qxc rfl rfl mixed ?_|refine qxd rfl rfl mixed ?_|refine xB ?_|refine xt rfl ?_|refine xf rfl ?_))
  (first|refine POps_split rfl rfl (fun h => ?_) (fun h => ?_)|refine POpsD_split rfl rfl (fun h => ?_) (fun h => ?_)|refine PW_cond rfl (fun h => ?_) (fun h => ?_))
  · exfalso; rw [hr] at h; cases h
  clear h
  (repeat (first|((first|refine qA ?_|refine qB ?_|refine xN ?_|refine xE ?_|refine xT ?_); try show PW _ _ _ _ _ _)|refine ro1 tabOk rfl rfl ?_|refine ro2 tabOk rfl rfl ?_|refine ro3 tabOk rfl rfl ?_|refine rd1 tabOk rfl rfl ?_|refine rd2 tabOk rfl rfl ?_|refine rd3 tabOk rfl rfl ?_|((first|apply oR rfl rfl|(apply dF rfl rfl rfl; intro _)|(apply dP rfl rfl rfl; intro _)|(apply dL rfl rfl rfl; intro _)|apply dC rfl rfl rfl rfl); (focus (first|exact cJ|exact mG|exact bT|exact nD)); try exact kQ)|refine xS ?_|refine xR ?_|refine qxa rfl rfl mixed ?_|refine qxb rfl rfl mixed ?_|refine qxi rfl rfl rfl rfl rfl mixed ?_|refine qxc rfl rfl mixed ?_|refine qxd rfl rfl mixed ?_|refine xB ?_|refine xt rfl ?_|refine xf rfl ?_))
  (first|refine POps_split rfl rfl (fun h => ?_) (fun h => ?_)|refine POpsD_split rfl rfl (fun h => ?_) (fun h => ?_)|refine PW_cond rfl (fun h => ?_) (fun h => ?_))
  · exfalso; have hh := of_decide_eq_true h; omega
  clear h
  (repeat (first|((first|refine qA ?_|refine qB ?_|refine xN ?_|refine xE ?_|refine xT ?_); try show PW _ _ _ _ _ _)|refine ro1 tabOk rfl rfl ?_|refine ro2 tabOk rfl rfl ?_|refine ro3 tabOk rfl rfl ?_|refine rd1 tabOk rfl rfl ?_|refine rd2 tabOk rfl rfl ?_|refine rd3 tabOk rfl rfl ?_|((first|apply oR rfl rfl|(apply dF rfl rfl rfl; intro _)|(apply dP rfl rfl rfl; intro _)|(apply dL rfl rfl rfl; intro _)|apply dC rfl rfl rfl rfl); (focus (first|exact iA (g := wG Y) rfl (EL rfl) (SZ rfl) rfl rfl (by decide) rfl rfl|exact cqP hs|exact cqP ht|exact cJ|exact mG|exact bT|exact nD)); try exact kQ)|refine xS ?_|refine xR ?_|refine qxa rfl rfl mixed ?_|refine qxb rfl rfl mixed ?_|refine qxi rfl rfl rfl rfl rfl mixed ?_|refine qxc rfl rfl mixed ?_|refine qxd rfl rfl mixed ?_|refine xB ?_|refine xt rfl ?_|refine xf rfl ?_))
  (first|refine Ret2 (vC vT (vC vT vN)) rfl ?_ ?_)
  all_goals rfl
end Go.Pure.V


namespace Go.Pure.V
open Go Go.Proofs Go.Proofs.YtdicineiaifahaaGreatDoor
attribute [local irreducible] PW POps POpsD PO PC Cond

def qV (D : Nat) (l : List Nat) (n k : Nat) : List Nat := List.replicate k 0 ++ padD (n - k) (val (l.drop k) / D)
theorem qV_length {D n k : Nat} {l : List Nat} (h : k ≤ n) : (qV D l n k).length = n := by
  unfold qV
  rw [List.length_append, List.length_replicate, padD_length]
  omega
theorem qV_step {D n k x : Nat} {l : List Nat} (hD : 0 < D) (hx : x < WB) (hk : k < n) (h : l[k]? = some x) : (qV D l n (k + 1)).set k ((x + WB * (val (l.drop (k + 1)) % D)) / D) = qV D l n k := by
  have hs := (div_step D x (val (l.drop (k + 1))) hD).1
  have hd := digit_lt (x := x) hx (Nat.mod_lt (val (l.drop (k + 1))) hD)
  unfold qV
  rw [val_drop h, hs, show n - k = (n - (k + 1)) + 1 by omega, padD, Nat.add_mul_mod_self_left, Nat.mod_eq_of_lt hd, Nat.add_mul_div_left _ _ (by decide), Nat.div_eq_of_lt hd, Nat.zero_add]
  rw [List.replicate_succ', List.append_assoc]
  have := @set_mid (List.replicate k 0) (padD (n - (k + 1)) (val (l.drop (k + 1)) / D)) 0 ((x + WB * (val (l.drop (k + 1)) % D)) / D)
  rw [List.length_replicate] at this
  exact this
theorem uW_ok {D : Nat} {l : List Nat} (hD : 0 < D) (hD2 : D < WB * WB) : okW (uW D l 0) := by
  unfold uW
  have := Nat.mod_lt (val (l.drop 0)) hD
  refine okW_append.2 ⟨?_, okW_cons.2 ⟨Nat.mod_lt _ (by decide), okW_cons.2 ⟨(Nat.div_lt_iff_lt_mul (by decide)).2 (by omega), okW_rep _⟩⟩⟩
  rw [List.take_zero]; exact okW_nil
theorem two_dig {V : Nat} (h1 : WB ≤ V) (h2 : V < WB * WB) : dig V = [V % WB, V / WB] := by
  have h0 : V / WB ≠ 0 := by
    have := Nat.div_pos h1 (show 0 < WB by decide)
    omega
  rw [dig_pos (by unfold WB at *; omega), dig_one h0 ((Nat.div_lt_iff_lt_mul (by decide)).2 h2)]
theorem val_top {l : List Nat} {k : Nat} (hk : k ≤ l.length) : WB ^ k * val (l.drop k) ≤ val l := by
  have := val_append (l.take k) (l.drop k)
  rw [List.take_append_drop, List.length_take, Nat.min_eq_left hk] at this
  omega
theorem up_two {Y : Nat} (h1 : WB ≤ Y) (h2 : Y < WB * WB) : (Y / WB).log2 < 32 ∧ 2147483648 ≤ (Y * 2 ^ (31 - (Y / WB).log2)) / WB ∧ Y * 2 ^ (31 - (Y / WB).log2) < WB * WB := by
  have h0 : Y / WB ≠ 0 := by
    have := Nat.div_pos h1 (show 0 < WB by decide)
    omega
  have hb : Y / WB < WB := (Nat.div_lt_iff_lt_mul (by decide)).2 h2
  have k1 := Nat.log2_self_le h0
  have k2 := Nat.lt_log2_self (n := Y / WB)
  have k3 : (Y / WB).log2 < 32 := by
    refine Classical.byContradiction fun hc => ?_
    have : 2 ^ 32 ≤ 2 ^ (Y / WB).log2 := Nat.pow_le_pow_right (by decide) (by omega)
    unfold WB at *
    omega
  have hy := Nat.mod_add_div Y WB
  have hyl := Nat.mod_lt Y (show 0 < WB by decide)
  generalize Y / WB = b at *
  generalize Y % WB = a at *
  generalize b.log2 = N at *
  refine ⟨k3, ?_, ?_⟩
  · refine (Nat.le_div_iff_mul_le (by decide)).2 ?_
    have e1 : 2 ^ N * 2 ^ (31 - N) ≤ b * 2 ^ (31 - N) := Nat.mul_le_mul_right _ k1
    rw [← Nat.pow_add, show N + (31 - N) = 31 by omega] at e1
    have e2 : WB * b * 2 ^ (31 - N) ≤ Y * 2 ^ (31 - N) := Nat.mul_le_mul_right _ (by omega)
    have e3 : WB * (b * 2 ^ (31 - N)) = WB * b * 2 ^ (31 - N) := by rw [Nat.mul_assoc]
    have e4 : WB * 2147483648 ≤ WB * (b * 2 ^ (31 - N)) := Nat.mul_le_mul_left _ e1
    rw [Nat.mul_comm 2147483648]
    omega
  · have e1 : Y + 1 ≤ WB * 2 ^ (N + 1) := by
      have : WB * (b + 1) ≤ WB * 2 ^ (N + 1) := Nat.mul_le_mul_left _ k2
      rw [Nat.mul_add, Nat.mul_one] at this
      omega
    have e2 : (Y + 1) * 2 ^ (31 - N) ≤ WB * 2 ^ (N + 1) * 2 ^ (31 - N) := Nat.mul_le_mul_right _ e1
    rw [Nat.mul_assoc, ← Nat.pow_add, show N + 1 + (31 - N) = 32 by omega, Nat.add_mul, Nat.one_mul] at e2
    have e3 : 0 < 2 ^ (31 - N) := Nat.pow_pos (by decide)
    have e4 : (2 : Nat) ^ 32 = WB := rfl
    rw [e4] at e2
    omega
theorem sub_raw32 {u p d : Nat} (hu : u < WB) (hd : d ≤ 1) :
    IntKind.u32.wrap (IntKind.u64.wrap (IntKind.u64.wrap (IntKind.u64.wrap (u : Int) - IntKind.u64.wrap (IntKind.u32.wrap (p : Int))) - (d : Int))) = (((u + (WB + WB) - p % WB - d) % WB : Nat) : Int) ∧
    (IntKind.u64.wrap (IntKind.u64.wrap (IntKind.u64.wrap (u : Int) - IntKind.u64.wrap (IntKind.u32.wrap (p : Int))) - (d : Int))).fdiv (2 ^ min (63 : Int).toNat IntKind.u64.bits) = ((if u < p % WB + d then 1 else 0 : Nat) : Int) := by
  have hl := Nat.mod_lt p (show 0 < WB by decide)
  rw [u32_wrap (n := p), u64_id (n := u) (by unfold WB at *; omega), u64_id (n := p % WB) (by unfold WB at *; omega)]
  generalize p % WB = l at *
  have hT : IntKind.u64.wrap (IntKind.u64.wrap ((u : Int) - (l : Int)) - (d : Int)) = ((if u < l + d then u + 18446744073709551616 - l - d else u - l - d : Nat) : Int) := by
    simp only [IntKind.wrap, IntKind.signed, IntKind.bits, Bool.false_and, Bool.false_eq_true, if_false]
    unfold WB at *
    split <;> omega
  rw [hT]
  refine ⟨?_, ?_⟩
  · rw [u32_wrap]
    congr 1
    unfold WB at *
    split <;> omega
  · have := shr_nat (n := if u < l + d then u + 18446744073709551616 - l - d else u - l - d) (s := 63) (by decide)
    rw [show (((if u < l + d then u + 18446744073709551616 - l - d else u - l - d : Nat) : Int)).fdiv (2 ^ min (63 : Int).toNat IntKind.u64.bits) = _ from this]
    congr 1
    unfold WB at *
    by_cases hc : u < l + d
    · rw [if_pos hc, if_pos hc]; omega
    · rw [if_neg hc, if_neg hc]; omega
end Go.Pure.V

