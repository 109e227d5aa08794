/- What the program's functions compute, each shown once; and plain laws of it. -/
import Derived.Test.YtdicineiaifahaaGreatDoorOwnM
namespace Go.Pure.V
open Go Go.Proofs Go.Proofs.YtdicineiaifahaaGreatDoor
attribute [local irreducible] PW POps POpsD PO PC Cond

def subIs (A : List Nat) (j v1 v0 g x1 x0 d0 d1 i c d : Nat) (ws : List Nat) : Prop :=
  (i = 0 ∧ c = 0 ∧ d = 0 ∧ ws = A) ∨ (i = 1 ∧ c = g * v0 / WB ∧ d = d0 ∧ ws = A.set j x0) ∨ (i = 2 ∧ c = (g * v0 / WB + g * v1) / WB ∧ d = d1 ∧ ws = (A.set j x0).set (j + 1) x1)
theorem sub_round {A ws : List Nat} {j v1 v0 g u2 u1 u0 x1 x0 d0 d1 i c d : Nat} (hW : Win u2 u1 u0 v1 v0 g x1 x0 d0 d1) (hA0 : A[j]? = some u0) (hA1 : A[j + 1]? = some u1) (hu0 : u0 < WB) (hu1 : u1 < WB) (hv0 : v0 < WB) (hv1 : v1 < WB) (hg : g < WB) (hs : subIs A j v1 v0 g x1 x0 d0 d1 i c d ws) (hi : i < 2) :
    ∃ vi ui, [v0, v1][i]? = some vi ∧ ws[i + j]? = some ui ∧ vi < WB ∧ ui < WB ∧ c + g * vi < WB * WB ∧ d ≤ 1 ∧ subIs A j v1 v0 g x1 x0 d0 d1 (i + 1) ((c + g * vi) / WB) (if ui < (c + g * vi) % WB + d then 1 else 0) (ws.set (i + j) ((ui + (WB + WB) - (c + g * vi) % WB - d) % WB)) := by
  have q0 : g * v0 ≤ (WB - 1) * (WB - 1) := Nat.mul_le_mul (by omega) (by omega)
  rcases hs with ⟨rfl, rfl, rfl, rfl⟩ | ⟨rfl, rfl, rfl, rfl⟩ | ⟨rfl, _⟩
  · refine ⟨v0, u0, rfl, by rw [Nat.zero_add]; exact hA0, hv0, hu0, by unfold WB at *; omega, by omega, .inr (.inl ⟨rfl, by rw [Nat.zero_add], ?_, ?_⟩)⟩
    · rw [hW.hd0, Nat.zero_add, Nat.add_zero]
    · rw [hW.hx0, Nat.zero_add, Nat.zero_add, Nat.sub_zero]
      congr 1
      have := Nat.mod_lt (g * v0) (show 0 < WB by decide)
      generalize g * v0 % WB = l at *
      unfold WB at *
      omega
  · refine ⟨v1, u1, rfl, by rw [List.getElem?_set_ne (by omega), Nat.add_comm]; exact hA1, hv1, hu1, hW.hp, by rw [hW.hd0]; split <;> omega, .inr (.inr ⟨rfl, rfl, hW.hd1.symm, ?_⟩)⟩
    rw [hW.hx1, Nat.add_comm 1 j]
  · omega
theorem mulc_raw {c g v : Nat} (hv : v < WB) (h : c + g * v < WB * WB) : IntKind.u64.wrap ((c : Int) + IntKind.u64.wrap ((g : Int) * IntKind.u64.wrap (v : Int))) = ((c + g * v : Nat) : Int) := by
  rw [u64_id (n := v) (by unfold WB at *; omega), ← Int.natCast_mul]
  generalize g * v = p at *
  rw [u64_id (n := p) (by omega), ← Int.natCast_add, u64_id h]

set_option maxRecDepth 100000 in
set_option maxHeartbeats 16000000 in
theorem div_two {X Y : Nat} (hY1 : WB ≤ Y) (hY2 : Y < WB * WB) (hX : WB * WB ≤ X) (hm : (dig X).length ≤ 10000) : PC Tryz.prog 72 [.g (.sl (wsG (dig X))), .g (.sl (wsG (dig Y)))] ⟨[], [], []⟩ (.tuple [.g (.sl (wsG (dig (X / Y)))), .g (.sl (wsG (dig (X % Y))))]) ⟨[], [], []⟩ := by
  have hb0 : Y / WB ≠ 0 := by have := Nat.div_pos hY1 (show 0 < WB by decide); omega
  have hb1 : Y / WB < WB := (Nat.div_lt_iff_lt_mul (by decide)).2 hY2
  have hYd := two_dig hY1 hY2
  obtain ⟨k3, kt, kV⟩ := up_two hY1 hY2
  have hlen := length_pc (x := Y % WB) hb0 hb1
  have hl2 := dig_two hY2
  have hc := cmp_pc (X := X) (Y := Y) (by omega) (by rw [← dig_wlen]; omega)
  have hr := cmpN_ge (X := X) (Y := Y) (by omega)
  generalize cmpN X Y = rr at hc hr
  generalize (Y / WB).log2 = N at *
  have hs32 : 31 - N < 32 := by omega
  have hs0 : IntKind.u64.wrap (IntKind.i64.wrap (IntKind.i64.wrap (32 - (IntKind.i64.wrap (((33 + N : Nat) : Int) - 1)).tmod 32) - 1)) = ((31 - N : Nat) : Int) := by
    rw [w64 (n := ((33 + N : Nat) : Int) - 1) (by omega), show ((33 + N : Nat) : Int) - 1 = ((32 + N : Nat) : Int) by omega, show ((32 + N : Nat) : Int).tmod 32 = (((32 + N) % 32 : Nat) : Int) by rw [show (32 : Int) = ((32 : Nat) : Int) from rfl, ← Int.ofNat_tmod], show (32 + N) % 32 = N by omega, w64 (n := 32 - (N : Int)) (by omega), w64 (by omega), show (32 - (N : Int) - 1) = ((31 - N : Nat) : Int) by omega]
    exact u64_id (by unfold WB; omega)
  generalize hs : 31 - N = s at *
  have hpow : 0 < 2 ^ s := Nat.pow_pos (by decide)
  have hpow2 : 2 ^ s ≤ 2147483648 := by
    have : 2 ^ s ≤ 2 ^ 31 := Nat.pow_le_pow_right (by decide) (by omega)
    have e : (2 : Nat) ^ 31 = 2147483648 := by decide
    omega
  have hVge : WB ≤ Y * 2 ^ s := Nat.le_trans hY1 (Nat.le_mul_of_pos_right _ hpow)
  have hVd := two_dig hVge kV
  have hlv := left_pc (X := Y) (s := s) (by rw [← dig_wlen]; omega) hs32
  have hlx := left_pc (X := X) (s := s) (by omega) hs32
  have f1 : X / Y = X * 2 ^ s / (Y * 2 ^ s) := (Nat.mul_div_mul_right X Y hpow).symm
  have f2 : X % Y = X * 2 ^ s % (Y * 2 ^ s) / 2 ^ s := by rw [Nat.mul_mod_mul_right, Nat.mul_div_cancel _ hpow]
  have hL2 : 2 < (dig X).length := by
    refine Classical.byContradiction fun hc => ?_
    have h1 := val_lt (okW_dig X)
    rw [val_dig] at h1
    have h2 : WB ^ (dig X).length ≤ WB ^ 2 := Nat.pow_le_pow_right (by decide) (by omega)
    have : WB ^ 2 = WB * WB := by rw [Nat.pow_succ, Nat.pow_one]
    omega
  have hXL : X < WB ^ (dig X).length := by have := val_lt (okW_dig X); rwa [val_dig] at this
  have hZL : X * 2 ^ s < WB ^ (dig X).length * 2 ^ s := Nat.mul_lt_mul_of_pos_right hXL hpow
  have hZL1 : X * 2 ^ s < WB ^ ((dig X).length + 1) := Nat.lt_of_lt_of_le hZL (by rw [Nat.pow_succ]; exact Nat.mul_le_mul_left _ (by unfold WB; omega))
  have hQL : X * 2 ^ s / (Y * 2 ^ s) < WB ^ (dig X).length := by rw [← f1]; exact Nat.lt_of_le_of_lt (Nat.div_le_self _ _) hXL
  have hdl := dig_length_le hZL1
  have hwl := wsG_length (dig X)
  rw [hYd] at hc hlv
  rw [hYd, f1, f2]
  rw [hVd] at hlv
  generalize hL : (dig X).length = L at *
  clear hYd hVd f1 f2
  generalize dig X = xs at *
  generalize hV : Y * 2 ^ s = V at *
  generalize hZ : X * 2 ^ s = Z at *
  have hv0 : V % WB < WB := Nat.mod_lt _ (by decide)
  have hv1 : V / WB < WB := (Nat.div_lt_iff_lt_mul (by decide)).2 kV
  have hVe := Nat.mod_add_div V WB
  generalize V % WB = v0 at *
  generalize V / WB = v1 at *
  generalize Y % WB = b0 at *
  generalize Y / WB = b1 at *
  have hVp : 0 < V := by omega
  -- the dividend's row
  have hUl := padD_length (L + 2) Z
  have hUo := padD_ok (L + 2) Z
  have hUv : val (padD (L + 2) Z) = Z := val_padD (Nat.lt_trans hZL1 (Nat.pow_lt_pow_right (by decide) (by omega)))
  have hput : putAt (wsG (List.replicate (L + 2) 0)) 0 ((wsG (dig Z)).take (L + 2)) = wsG (padD (L + 2) Z) := by
    have e : padD (L + 2) Z = dig Z ++ List.replicate (L + 2 - (dig Z).length) 0 := by
      refine val_inj hUo (okW_append.2 ⟨okW_dig _, okW_rep _⟩) (by rw [hUl, List.length_append, List.length_replicate]; omega) ?_
      rw [hUv, val_append, val_rep, val_dig]
      omega
    rw [e, List.take_of_length_le (by rw [wsG_length]; omega)]
    unfold putAt wsG
    simp
  have hstart : uW V (padD (L + 2) Z) L = padD (L + 2) Z := by
    have := uW_start (D := V) hUo (by omega) (by
      rw [hUl, Nat.add_sub_cancel]
      have h1 := val_top (l := padD (L + 2) Z) (k := L) (by omega)
      rw [hUv] at h1
      have h2 : WB ^ L * val ((padD (L + 2) Z).drop L) < WB ^ L * 2 ^ s := by omega
      have h3 := Nat.lt_of_mul_lt_mul_left h2
      unfold WB at hVge
      omega)
    rwa [hUl, Nat.add_sub_cancel] at this
  have hqstart : qV V (padD (L + 2) Z) L L = List.replicate L 0 := by
    unfold qV
    rw [Nat.sub_self]
    simp [padD]
  have hright := right_pc (X := Z % V) (s := s) (by rw [← dig_wlen]; have := dig_two (X := Z % V) (by have := Nat.mod_lt Z hVp; omega); omega) hs32
  have htu := trim_g (uW_ok (l := padD (L + 2) Z) hVp kV) (by rw [uW_length (by omega), hUl]; unfold maxLen; omega)
  rw [uW_done, hUv] at htu
  have htq := trim_g (padD_ok L (Z / V)) (by rw [padD_length]; unfold maxLen; omega)
  rw [val_padD hQL] at htq
  have hqend : qV V (padD (L + 2) Z) L 0 = padD L (Z / V) := by
    unfold qV
    rw [List.drop_zero, hUv, Nat.sub_zero, List.replicate_zero, List.nil_append]
  have hlenu : IntKind.i64.wrap (((wsG xs).length : Int) + 2) = ((L + 2 : Nat) : Int) := by rw [w64 (by omega)]; omega
  have hmm : IntKind.i64.wrap (IntKind.i64.wrap (((L + 2 : Nat) : Int) - 2) - 1) = ((L - 1 : Nat) : Int) := by rw [w64 (n := ((L + 2 : Nat) : Int) - 2) (by omega), w64 (by omega)]; omega
  have hm1 : IntKind.i64.wrap (((L - 1 : Nat) : Int) + 1) = ((L : Nat) : Int) := by rw [w64 (by omega)]; omega
  have hw0 := u64_id (n := v0) (by unfold WB at *; omega)
  have hw1 := u64_id (n := v1) (by unfold WB at *; omega)
  generalize padD (L + 2) Z = U at *
  refine PC_of_PW Tryz.func72 rfl rfl (rs := _) rfl (Nat.le_of_ble_eq_true (by kernel_rfl)) ?_
  (repeat (first|((first|refine qA ?_|refine qB ?_|refine xN ?_|refine xE ?_|refine xT ?_); try show PW _ _ _ _ _ _)|refine ro1 tabOk rfl rfl ?_|refine ro2 tabOk rfl rfl ?_|refine ro3 tabOk rfl rfl ?_|refine rd1 tabOk rfl rfl ?_|refine rd2 tabOk rfl rfl ?_|refine rd3 tabOk rfl rfl ?_|((first|apply oR rfl rfl|(apply dF rfl rfl rfl; intro _)|(apply dP rfl rfl rfl; intro _)|(apply dL rfl rfl rfl; intro _)|apply dC rfl rfl rfl rfl); (focus (first|exact cqP hc|exact cJ|exact mG|exact bT|exact nD)); try exact kQ)|refine xS ?_|refine xR ?_|refine qxa rfl rfl mixed ?_|refine qxb rfl rfl mixed ?_|refine qxi rfl rfl rfl rfl rfl mixed ?_|refine qxc rfl rfl mixed ?_|refine qxd rfl rfl mixed ?_|refine xB ?_|refine xt rfl ?_|refine xf rfl ?_))
  (first|refine POps_split rfl rfl (fun h => ?_) (fun h => ?_)|refine POpsD_split rfl rfl (fun h => ?_) (fun h => ?_)|refine PW_cond rfl (fun h => ?_) (fun h => ?_))
  · exfalso; rw [hr] at h; cases h
  clear h
  (repeat (first|((first|refine qA ?_|refine qB ?_|refine xN ?_|refine xE ?_|refine xT ?_); try show PW _ _ _ _ _ _)|refine ro1 tabOk rfl rfl ?_|refine ro2 tabOk rfl rfl ?_|refine ro3 tabOk rfl rfl ?_|refine rd1 tabOk rfl rfl ?_|refine rd2 tabOk rfl rfl ?_|refine rd3 tabOk rfl rfl ?_|((first|apply oR rfl rfl|(apply dF rfl rfl rfl; intro _)|(apply dP rfl rfl rfl; intro _)|(apply dL rfl rfl rfl; intro _)|apply dC rfl rfl rfl rfl); (focus (first|exact cJ|exact mG|exact bT|exact nD)); try exact kQ)|refine xS ?_|refine xR ?_|refine qxa rfl rfl mixed ?_|refine qxb rfl rfl mixed ?_|refine qxi rfl rfl rfl rfl rfl mixed ?_|refine qxc rfl rfl mixed ?_|refine qxd rfl rfl mixed ?_|refine xB ?_|refine xt rfl ?_|refine xf rfl ?_))
  (first|refine POps_split rfl rfl (fun h => ?_) (fun h => ?_)|refine POpsD_split rfl rfl (fun h => ?_) (fun h => ?_)|refine PW_cond rfl (fun h => ?_) (fun h => ?_))
  · exfalso; have hh := of_decide_eq_true h; omega
  clear h
  (repeat (first|((first|refine qA ?_|refine qB ?_|refine xN ?_|refine xE ?_|refine xT ?_); try show PW _ _ _ _ _ _)|refine ro1 tabOk rfl rfl ?_|refine ro2 tabOk rfl rfl ?_|refine ro3 tabOk rfl rfl ?_|refine rd1 tabOk rfl rfl ?_|refine rd2 tabOk rfl rfl ?_|refine rd3 tabOk rfl rfl ?_|((first|apply oR rfl rfl|(apply dF rfl rfl rfl; intro _)|(apply dP rfl rfl rfl; intro _)|(apply dL rfl rfl rfl; intro _)|apply dC rfl rfl rfl rfl); (focus (first|exact cqP hlen|exact PO_rem rfl rfl rfl (by decide)|exact cJ|exact mG|exact bT|exact nD)); try exact kQ)|refine xU [12] rfl ?_|refine xR ?_|refine qxa rfl rfl mixed ?_|refine qxb rfl rfl mixed ?_|refine qxi rfl rfl rfl rfl rfl mixed ?_|refine qxc rfl rfl mixed ?_|refine qxd rfl rfl mixed ?_|refine xB ?_|refine xt rfl ?_|refine xf rfl ?_))
  refine PW_weak (env' := slots [(0, .g (.sl (wsG xs))), (1, .g (.sl (wsG [b0, b1]))), (10, .g (.int .u64 s))]) (H' := ⟨[], [], []⟩) (SlotsOk.le ⟨.inl rfl, .inl rfl, .inl (congrArg (fun k => PV.g (.int .u64 k)) hs0), trivial⟩) (HLe.of_eq rfl) ?_
  (repeat (first|((first|refine qA ?_|refine qB ?_|refine xN ?_|refine xE ?_|refine xT ?_); try show PW _ _ _ _ _ _)|refine ro1 tabOk rfl rfl ?_|refine ro2 tabOk rfl rfl ?_|refine ro3 tabOk rfl rfl ?_|refine rd1 tabOk rfl rfl ?_|refine rd2 tabOk rfl rfl ?_|refine rd3 tabOk rfl rfl ?_|((first|apply oR rfl rfl|(apply dF rfl rfl rfl; intro _)|(apply dP rfl rfl rfl; intro _)|(apply dL rfl rfl rfl; intro _)|apply dC rfl rfl rfl rfl); (focus (first|exact cqP hlv|exact vmakeV (n := L + 2) rfl rfl rfl hlenu hlenu (EL rfl) (by omega)|exact cqP hlx|exact PO_asH (PO_vcopy (ys := wsG (dig Z)) rfl (EL rfl) (SZ rfl) (SZ rfl) rfl rfl rfl (fun _ _ _ _ _ e => by cases e) wsG_cells (by simp [wsG_length])) (congrArg (fun l => (⟨[], [], [MO.arr 0 W32 l]⟩ : PH)) hput)|exact cJ|exact mG|exact bT|exact nD)); try exact kQ)|refine xU [16] rfl ?_|refine xR ?_|refine qxa rfl rfl mixed ?_|refine qxb rfl rfl mixed ?_|refine qxi rfl rfl rfl rfl rfl mixed ?_|refine qxc rfl rfl mixed ?_|refine qxd rfl rfl mixed ?_|refine xB ?_|refine xt rfl ?_|refine xf rfl ?_))
  refine PW_weak (env' := slots [(10, .g (.int .u64 s)), (11, .g (.sl (wsG [v0, v1]))), (12, .vw 0 0 0 (L + 2) (L + 2)), (13, .g (.int .i64 2))]) (H' := ⟨[], [], [AR 0 U]⟩) (SlotsOk.le ⟨.inl rfl, .inl rfl, .inl rfl, .inl rfl, trivial⟩) (HLe.of_eq rfl) ?_
  (repeat (first|((first|refine qA ?_|refine qB ?_|refine xN ?_|refine xE ?_|refine xT ?_); try show PW _ _ _ _ _ _)|refine ro1 tabOk rfl rfl ?_|refine ro2 tabOk rfl rfl ?_|refine ro3 tabOk rfl rfl ?_|refine rd1 tabOk rfl rfl ?_|refine rd2 tabOk rfl rfl ?_|refine rd3 tabOk rfl rfl ?_|((first|apply oR rfl rfl|(apply dF rfl rfl rfl; intro _)|(apply dP rfl rfl rfl; intro _)|(apply dL rfl rfl rfl; intro _)|apply dC rfl rfl rfl rfl); (focus (first|exact PO_vlen rfl (EL rfl) rfl|exact cJ|exact mG|exact bT|exact nD)); try exact kQ)|refine xU [17] rfl ?_|refine xR ?_|refine qxa rfl rfl mixed ?_|refine qxb rfl rfl mixed ?_|refine qxi rfl rfl rfl rfl rfl mixed ?_|refine qxc rfl rfl mixed ?_|refine qxd rfl rfl mixed ?_|refine xB ?_|refine xt rfl ?_|refine xf rfl ?_))
  refine PW_weak (env' := slots [(10, .g (.int .u64 s)), (11, .g (.sl (wsG [v0, v1]))), (12, .vw 0 0 0 (L + 2) (L + 2)), (13, .g (.int .i64 2)), (14, .g (.int .i64 ((L - 1 : Nat) : Int)))]) (H' := ⟨[], [], [AR 0 U]⟩) (SlotsOk.le ⟨.inl rfl, .inl rfl, .inl rfl, .inl rfl, .inl (congrArg (fun k => PV.g (.int .i64 k)) hmm), trivial⟩) (HLe.of_eq rfl) ?_
  (repeat (first|((first|refine qA ?_|refine qB ?_|refine xN ?_|refine xE ?_|refine xT ?_); try show PW _ _ _ _ _ _)|refine ro1 tabOk rfl rfl ?_|refine ro2 tabOk rfl rfl ?_|refine ro3 tabOk rfl rfl ?_|refine rd1 tabOk rfl rfl ?_|refine rd2 tabOk rfl rfl ?_|refine rd3 tabOk rfl rfl ?_|((first|apply oR rfl rfl|(apply dF rfl rfl rfl; intro _)|(apply dP rfl rfl rfl; intro _)|(apply dL rfl rfl rfl; intro _)|apply dC rfl rfl rfl rfl); (focus (first|exact vmakeV (n := L) rfl rfl rfl hm1 hm1 (EL rfl) (by omega)|exact iA (g := wG v1) rfl (EL rfl) (SZ rfl) rfl rfl (show (0 : Int) ≤ IntKind.i64.wrap (2 - 1) by decide) rfl rfl|exact iA (g := wG v0) rfl (EL rfl) (SZ rfl) rfl rfl (show (0 : Int) ≤ IntKind.i64.wrap (2 - 2) by decide) rfl rfl|exact cJ|exact mG|exact bT|exact nD)); try exact kQ)|refine xS ?_|refine xR ?_|refine qxa rfl rfl mixed ?_|refine qxb rfl rfl mixed ?_|refine qxi rfl rfl rfl rfl rfl mixed ?_|refine qxc rfl rfl mixed ?_|refine qxd rfl rfl mixed ?_|refine xB ?_|refine xt rfl ?_|refine xf rfl ?_))
  refine PW_loop (S := Nat) (fun k => slots [(10, .g (.int .u64 s)), (11, .g (.sl (wsG [v0, v1]))), (12, .vw 0 0 0 (L + 2) (L + 2)), (13, .g (.int .i64 2)), (15, .vw 1 0 0 L L), (16, .g (.int .u64 v1)), (17, .g (.int .u64 v0)), (18, .g (.int .i64 ((k : Int) - 1)))]) (fun k => ⟨[], [], [AR 0 (uW V U k), AR 0 (qV V U L k)]⟩) (fun k => k ≤ L) (fun k => k) L (Nat.le_refl _)
    (SlotsOk.le ⟨.inl rfl, .inl rfl, .inl rfl, .inl rfl, .inl rfl, .inl (congrArg (fun k => PV.g (.int .u64 k)) hw1), .inl (congrArg (fun k => PV.g (.int .u64 k)) hw0), .inl (congrArg (fun k => PV.g (.int .i64 k)) (show ((L - 1 : Nat) : Int) = (L : Int) - 1 by omega)), trivial⟩) (HLe.of_eq (by rw [hstart, hqstart]; rfl)) (fun k hk => ?_)
  cases k with
  | zero =>
    (repeat (first|((first|refine qA ?_|refine qB ?_|refine xN ?_|refine xE ?_|refine xT ?_); try show PW _ _ _ _ _ _)|refine ro1 tabOk rfl rfl ?_|refine ro2 tabOk rfl rfl ?_|refine ro3 tabOk rfl rfl ?_|refine rd1 tabOk rfl rfl ?_|refine rd2 tabOk rfl rfl ?_|refine rd3 tabOk rfl rfl ?_|((first|apply oR rfl rfl|(apply dF rfl rfl rfl; intro _)|(apply dP rfl rfl rfl; intro _)|(apply dL rfl rfl rfl; intro _)|apply dC rfl rfl rfl rfl); (focus (first|exact cJ|exact mG|exact bT|exact nD)); try exact kQ)|refine xU [50] rfl ?_|refine xR ?_|refine qxa rfl rfl mixed ?_|refine qxb rfl rfl mixed ?_|refine qxi rfl rfl rfl rfl rfl mixed ?_|refine qxc rfl rfl mixed ?_|refine qxd rfl rfl mixed ?_|refine xB ?_|refine xt rfl ?_|refine xf rfl ?_))
    refine PW_freeze 0 rfl (PW_freeze 1 rfl (PW_weak (env' := slots [(10, .g (.int .u64 s)), (12, .g (.sl (wsG (uW V U 0)))), (15, .g (.sl (wsG (padD L (Z / V)))))]) (H' := ⟨[], [], [.gone (0 + 1), .gone (0 + 1)]⟩) (SlotsOk.le ⟨.inl rfl, .inl ?_, .inl ?_, trivial⟩) (HLe.of_eq rfl) ?_))
    · exact congrArg (fun l => PV.g (.sl l)) (take_all (by rw [wsG_length, uW_length (by omega), hUl]))
    · rw [← hqend]
      exact congrArg (fun l => PV.g (.sl l)) (take_all (by rw [wsG_length, qV_length (Nat.zero_le _)]))
    (repeat (first|((first|refine qA ?_|refine qB ?_|refine xN ?_|refine xE ?_|refine xT ?_); try show PW _ _ _ _ _ _)|refine ro1 tabOk rfl rfl ?_|refine ro2 tabOk rfl rfl ?_|refine ro3 tabOk rfl rfl ?_|refine rd1 tabOk rfl rfl ?_|refine rd2 tabOk rfl rfl ?_|refine rd3 tabOk rfl rfl ?_|((first|apply oR rfl rfl|(apply dF rfl rfl rfl; intro _)|(apply dP rfl rfl rfl; intro _)|(apply dL rfl rfl rfl; intro _)|apply dC rfl rfl rfl rfl); (focus (first|exact cqP htq|exact cqP htu|exact cqP hright|exact cJ|exact mG|exact bT|exact nD)); try exact kQ)|refine xS ?_|refine xR ?_|refine qxa rfl rfl mixed ?_|refine qxb rfl rfl mixed ?_|refine qxi rfl rfl rfl rfl rfl mixed ?_|refine qxc rfl rfl mixed ?_|refine qxd rfl rfl mixed ?_|refine xB ?_|refine xt rfl ?_|refine xf rfl ?_))
    (first|refine Ret2 (vC vT (vC vT vN)) rfl ?_ ?_)
    all_goals rfl
  | succ j =>
    have hjx : U[j]? = some (U[j]'(by omega)) := List.getElem?_eq_getElem (by omega)
    generalize U[j]'(by omega) = x at hjx
    have hxw := hUo.at hjx
    obtain ⟨g0, g1, g2⟩ := uW_get (D := V) hjx
    have hAl := uW_length (D := V) (l := U) (k := j + 1) (by omega)
    have hR := Nat.mod_lt (val (U.drop (j + 1))) hVp
    have hust := fun a b => uW_step (D := V) (a := a) (b := b) hVp hjx (by omega)
    have hqst := qV_step (n := L) hVp hxw (by omega) hjx
    have hql := qV_length (D := V) (l := U) hk
    have hgq : (wsG (qV V U L (j + 1)))[0 + j]? = some (wG ((qV V U L (j + 1))[j]'(by omega))) := wsG_get (by rw [Nat.zero_add]; exact List.getElem?_eq_getElem _)
    generalize (qV V U L (j + 1))[j]'(by omega) = zq at hgq
    generalize hRe : val (U.drop (j + 1)) % V = R at *
    generalize hA : uW V U (j + 1) = A at *
    generalize qV V U L (j + 1) = B at *
    have hGw := digit_lt (D := V) hxw hR
    have hR2 : R / WB < WB := (Nat.div_lt_iff_lt_mul (by decide)).2 (by omega)
    have hR1 : R % WB < WB := Nat.mod_lt _ (by decide)
    have hRd := Nat.mod_add_div R WB
    generalize hu2 : R / WB = u2 at *
    generalize hu1 : R % WB = u1 at *
    generalize hG : (x + WB * R) / V = G at *
    have hGd : G = (x + WB * R) / V := hG.symm
    have hwin := Win.mk' (u2 := u2) (u1 := u1) (u0 := x) (v1 := v1) (v0 := v0) (g := G) hxw hR1 hv0 hv1 hGw (by omega) (by rw [hRd, hVe]; exact hGd)
    obtain ⟨x1, x0, d0, d1, hW⟩ := hwin
    have hgA1 : (wsG A)[0 + (j + 1)]? = some (wG u1) := wsG_get (by rw [Nat.zero_add]; exact g1)
    have hgA2 : (wsG A)[0 + (j + 2)]? = some (wG u2) := wsG_get (by rw [Nat.zero_add]; exact g2)
    have hgA0 : (wsG A)[0 + j]? = some (wG x) := wsG_get (by rw [Nat.zero_add]; exact g0)
    have hj2 : IntKind.i64.wrap ((j : Int) + 2) = ((j + 2 : Nat) : Int) := by rw [w64 (by omega)]; omega
    have hj1 : IntKind.i64.wrap (IntKind.i64.wrap ((j : Int) + 2) - 1) = ((j + 1 : Nat) : Int) := by rw [hj2, w64 (by omega)]; omega
    have hj0 : IntKind.i64.wrap (IntKind.i64.wrap ((j : Int) + 2) - 2) = ((j : Nat) : Int) := by rw [hj2, w64 (by omega)]; omega
    have hor : IntKind.u64.wrap (((BitVec.ofInt IntKind.u64.bits (IntKind.u64.wrap (IntKind.u64.wrap (u2 : Int) * 2 ^ min (32 : Int).toNat IntKind.u64.bits)) ||| BitVec.ofInt IntKind.u64.bits (IntKind.u64.wrap (u1 : Int))).toNat : Nat) : Int) = ((R : Nat) : Int) := by
      rw [u64_id (n := u2) (by unfold WB at *; omega), u64_id (n := u1) (by unfold WB at *; omega), or_lo hR1 hR2, hRd]
    have hv1z : (v1 : Int) ≠ 0 := by omega
    have eq1 := quo_nat (a := R) (b := v1) (by omega)
    have eq2 := @rem_nat R v1
    (repeat (first|((first|refine qA ?_|refine qB ?_|refine xN ?_|refine xE ?_|refine xT ?_); try show PW _ _ _ _ _ _)|refine ro1 tabOk rfl rfl ?_|refine ro2 tabOk rfl rfl ?_|refine ro3 tabOk rfl rfl ?_|refine rd1 tabOk rfl rfl ?_|refine rd2 tabOk rfl rfl ?_|refine rd3 tabOk rfl rfl ?_|((first|apply oR rfl rfl|(apply dF rfl rfl rfl; intro _)|(apply dP rfl rfl rfl; intro _)|(apply dL rfl rfl rfl; intro _)|apply dC rfl rfl rfl rfl); (focus (first|exact cJ|exact mG|exact bT|exact nD)); try exact kQ)|refine xS ?_|refine xR ?_|refine qxa rfl rfl mixed ?_|refine qxb rfl rfl mixed ?_|refine qxi rfl rfl rfl rfl rfl mixed ?_|refine qxc rfl rfl mixed ?_|refine qxd rfl rfl mixed ?_|refine xB ?_|refine xt rfl ?_|refine xf rfl ?_))
    (first|refine POps_split rfl rfl (fun h => ?_) (fun h => ?_)|refine POpsD_split rfl rfl (fun h => ?_) (fun h => ?_)|refine PW_cond rfl (fun h => ?_) (fun h => ?_))
    · clear h
      refine PW_weak (env' := slots [(10, .g (.int .u64 s)), (11, .g (.sl (wsG [v0, v1]))), (12, .vw 0 0 0 (L + 2) (L + 2)), (13, .g (.int .i64 2)), (15, .vw 1 0 0 L L), (16, .g (.int .u64 v1)), (17, .g (.int .u64 v0)), (18, .g (.int .i64 j))]) (H' := ⟨[], [], [AR 0 A, AR 0 B]⟩) (SlotsOk.le ⟨.inl rfl, .inl rfl, .inl rfl, .inl rfl, .inl rfl, .inl rfl, .inl rfl, .inl (congrArg (fun k => PV.g (.int .i64 k)) (show ((j + 1 : Nat) : Int) - 1 = (j : Int) by omega)), trivial⟩) (HLe.of_eq rfl) ?_
      (repeat (first|((first|refine qA ?_|refine qB ?_|refine xN ?_|refine xE ?_|refine xT ?_); try show PW _ _ _ _ _ _)|refine ro1 tabOk rfl rfl ?_|refine ro2 tabOk rfl rfl ?_|refine ro3 tabOk rfl rfl ?_|refine rd1 tabOk rfl rfl ?_|refine rd2 tabOk rfl rfl ?_|refine rd3 tabOk rfl rfl ?_|(apply dR rfl rfl; focus (first|exact Cond_mload rfl rfl (AG rfl) rfl rfl hgA2 rfl|exact Cond_mload rfl rfl (AG rfl) rfl rfl hgA1 rfl))|((first|apply oR rfl rfl|(apply dF rfl rfl rfl; intro _)|(apply dP rfl rfl rfl; intro _)|(apply dL rfl rfl rfl; intro _)|apply dC rfl rfl rfl rfl); (focus (first|exact PO_vindex (j + 2) rfl (EL rfl) (SZ rfl) rfl rfl hj2 (by omega)|exact PO_vindex (j + 1) rfl (EL rfl) (SZ rfl) rfl rfl hj1 (by omega)|exact PO_shl rfl rfl rfl (by decide)|exact cJ|exact mG|exact bT|exact nD)); try exact kQ)|refine xU [23] rfl ?_|refine xR ?_|refine xK false false [10000, 10001] rfl mixed (by decide +kernel) ?_|refine xK false true [10000, 10001] rfl mixed (by decide +kernel) ?_|refine xK true false [10000, 10001] rfl mixed (by decide +kernel) ?_|refine xK true true [10000, 10001] rfl mixed (by decide +kernel) ?_|refine xB ?_|refine xt rfl ?_|refine xf rfl ?_))
      refine PW_weak (env' := slots [(10, .g (.int .u64 s)), (11, .g (.sl (wsG [v0, v1]))), (12, .vw 0 0 0 (L + 2) (L + 2)), (13, .g (.int .i64 2)), (15, .vw 1 0 0 L L), (16, .g (.int .u64 v1)), (17, .g (.int .u64 v0)), (18, .g (.int .i64 j)), (19, .g (.int .u64 R))]) (H' := ⟨[], [], [AR 0 A, AR 0 B]⟩) (SlotsOk.le ⟨.inl rfl, .inl rfl, .inl rfl, .inl rfl, .inl rfl, .inl rfl, .inl rfl, .inl rfl, .inl (congrArg (fun k => PV.g (.int .u64 k)) hor), trivial⟩) (HLe.of_eq rfl) ?_
      (repeat (first|((first|refine qA ?_|refine qB ?_|refine xN ?_|refine xE ?_|refine xT ?_); try show PW _ _ _ _ _ _)|refine ro1 tabOk rfl rfl ?_|refine ro2 tabOk rfl rfl ?_|refine ro3 tabOk rfl rfl ?_|refine rd1 tabOk rfl rfl ?_|refine rd2 tabOk rfl rfl ?_|refine rd3 tabOk rfl rfl ?_|((first|apply oR rfl rfl|(apply dF rfl rfl rfl; intro _)|(apply dP rfl rfl rfl; intro _)|(apply dL rfl rfl rfl; intro _)|apply dC rfl rfl rfl rfl); (focus (first|exact PO_as (PO_quo rfl rfl rfl hv1z) (congrArg (fun k => PV.g (.int .u64 k)) eq1)|exact PO_as (PO_rem rfl rfl rfl hv1z) (congrArg (fun k => PV.g (.int .u64 k)) eq2)|exact cJ|exact mG|exact bT|exact nD)); try exact kQ)|refine xU [24] rfl ?_|refine xR ?_|refine qxa rfl rfl mixed ?_|refine qxb rfl rfl mixed ?_|refine qxi rfl rfl rfl rfl rfl mixed ?_|refine qxc rfl rfl mixed ?_|refine qxd rfl rfl mixed ?_|refine xB ?_|refine xt rfl ?_|refine xf rfl ?_))
      have hH : R < v1 * HB + v0 := by unfold HB; unfold WB at hVe; omega
      have hv1b : 2147483648 ≤ v1 := kt
      refine PW_cut (slots [(10, .g (.int .u64 s)), (11, .g (.sl (wsG [v0, v1]))), (12, .vw 0 0 0 (L + 2) (L + 2)), (13, .g (.int .i64 2)), (15, .vw 1 0 0 L L), (16, .g (.int .u64 v1)), (17, .g (.int .u64 v0)), (18, .g (.int .i64 j)), (20, .g (.int .u64 G))]) ⟨[], [], [AR 0 A, AR 0 B]⟩ ?_ ?_
      · (repeat (first|((first|refine qA ?_|refine qB ?_|refine xN ?_|refine xE ?_|refine xT ?_); try show PW _ _ _ _ _ _)|refine ro1 tabOk rfl rfl ?_|refine ro2 tabOk rfl rfl ?_|refine ro3 tabOk rfl rfl ?_|refine rd1 tabOk rfl rfl ?_|refine rd2 tabOk rfl rfl ?_|refine rd3 tabOk rfl rfl ?_|((first|apply oR rfl rfl|(apply dF rfl rfl rfl; intro _)|(apply dP rfl rfl rfl; intro _)|(apply dL rfl rfl rfl; intro _)|apply dC rfl rfl rfl rfl); (focus (first|exact cJ|exact mG|exact bT|exact nD)); try exact kQ)|refine xS ?_|refine xR ?_|refine qxa rfl rfl mixed ?_|refine qxb rfl rfl mixed ?_|refine qxi rfl rfl rfl rfl rfl mixed ?_|refine qxc rfl rfl mixed ?_|refine qxd rfl rfl mixed ?_|refine xB ?_|refine xt rfl ?_|refine xf rfl ?_))
        refine PW_loop (S := Nat × Nat) (fun q => slots [(10, .g (.int .u64 s)), (11, .g (.sl (wsG [v0, v1]))), (12, .vw 0 0 0 (L + 2) (L + 2)), (13, .g (.int .i64 2)), (15, .vw 1 0 0 L L), (16, .g (.int .u64 v1)), (17, .g (.int .u64 v0)), (18, .g (.int .i64 j)), (20, .g (.int .u64 q.1)), (21, .g (.int .u64 q.2))]) (fun _ => ⟨[], [], [AR 0 A, AR 0 B]⟩) (fun q => HInv R x v1 v0 q.1 q.2 ∧ q.2 < WB) (fun q => q.1) (R / v1, R % v1) ⟨HInv.start hH hv1b hv1 hv0 hxw, Nat.lt_trans (Nat.mod_lt _ (by omega)) hv1⟩
          (SlotsOk.le ⟨.inl rfl, .inl rfl, .inl rfl, .inl rfl, .inl rfl, .inl rfl, .inl rfl, .inl rfl, .inl rfl, .inl rfl, trivial⟩) (HLe.of_eq rfl) (fun q hq => ?_)
        obtain ⟨g, r⟩ := q
        obtain ⟨hI, hrw⟩ := hq
        dsimp only at hI hrw
        have hgb := hI.b
        have hmul : IntKind.u64.wrap ((g : Int) * (v0 : Int)) = ((g * v0 : Nat) : Int) := by
          rw [← Int.natCast_mul]
          refine u64_id ?_
          have m1 : g * v0 ≤ (HB + 1) * (HB - 1) := Nat.mul_le_mul hgb (by unfold WB at hv0; unfold HB; omega)
          have m2 : (HB + 1) * (HB - 1) < WB * WB := by decide
          omega
        have hor2 : IntKind.u64.wrap (((BitVec.ofInt IntKind.u64.bits (IntKind.u64.wrap ((r : Int) * 2 ^ min (32 : Int).toNat IntKind.u64.bits)) ||| BitVec.ofInt IntKind.u64.bits (IntKind.u64.wrap (x : Int))).toNat : Nat) : Int) = ((x + WB * r : Nat) : Int) := by
          rw [u64_id (n := x) (by unfold WB at *; omega)]
          exact or_lo hxw hrw
        (repeat (first|((first|refine qA ?_|refine qB ?_|refine xN ?_|refine xE ?_|refine xT ?_); try show PW _ _ _ _ _ _)|refine ro1 tabOk rfl rfl ?_|refine ro2 tabOk rfl rfl ?_|refine ro3 tabOk rfl rfl ?_|refine rd1 tabOk rfl rfl ?_|refine rd2 tabOk rfl rfl ?_|refine rd3 tabOk rfl rfl ?_|((first|apply oR rfl rfl|(apply dF rfl rfl rfl; intro _)|(apply dP rfl rfl rfl; intro _)|(apply dL rfl rfl rfl; intro _)|apply dC rfl rfl rfl rfl); (focus (first|exact cJ|exact mG|exact bT|exact nD)); try exact kQ)|refine xS ?_|refine xR ?_|refine qxa rfl rfl mixed ?_|refine qxb rfl rfl mixed ?_|refine qxi rfl rfl rfl rfl rfl mixed ?_|refine qxc rfl rfl mixed ?_|refine qxd rfl rfl mixed ?_|refine xB ?_|refine xt rfl ?_|refine xf rfl ?_))
        (first|refine POps_split rfl rfl (fun h => ?_) (fun h => ?_)|refine POpsD_split rfl rfl (fun h => ?_) (fun h => ?_)|refine PW_cond rfl (fun h => ?_) (fun h => ?_))
        · have hover : HB ≤ g ∨ r * HB + x < g * v0 := .inl (by have := of_decide_eq_true h; unfold HB; omega)
          obtain ⟨hg1, hI'⟩ := hI.over hH hxw hover
          have e1 : IntKind.u64.wrap ((g : Int) - 1) = ((g - 1 : Nat) : Int) := by rw [show ((g : Int) - 1) = ((g - 1 : Nat) : Int) by omega]; exact u64_id (by have := hI.b; unfold HB at this; unfold WB; omega)
          have e2 : IntKind.u64.wrap ((r : Int) + (v1 : Int)) = ((r + v1 : Nat) : Int) := by rw [← Int.natCast_add]; exact u64_id (by unfold WB at *; omega)
          clear h
          (repeat (first|((first|refine qA ?_|refine qB ?_|refine xN ?_|refine xE ?_|refine xT ?_); try show PW _ _ _ _ _ _)|refine ro1 tabOk rfl rfl ?_|refine ro2 tabOk rfl rfl ?_|refine ro3 tabOk rfl rfl ?_|refine rd1 tabOk rfl rfl ?_|refine rd2 tabOk rfl rfl ?_|refine rd3 tabOk rfl rfl ?_|((first|apply oR rfl rfl|(apply dF rfl rfl rfl; intro _)|(apply dP rfl rfl rfl; intro _)|(apply dL rfl rfl rfl; intro _)|apply dC rfl rfl rfl rfl); (focus (first|exact cJ|exact mG|exact bT|exact nD)); try exact kQ)|refine xS ?_|refine xR ?_|refine qxa rfl rfl mixed ?_|refine qxb rfl rfl mixed ?_|refine qxi rfl rfl rfl rfl rfl mixed ?_|refine qxc rfl rfl mixed ?_|refine qxd rfl rfl mixed ?_|refine xB ?_|refine xt rfl ?_|refine xf rfl ?_))
          (first|refine POps_split rfl rfl (fun h => ?_) (fun h => ?_)|refine POpsD_split rfl rfl (fun h => ?_) (fun h => ?_)|refine PW_cond rfl (fun h => ?_) (fun h => ?_))
          · have hr2 : WB ≤ r + v1 := by rw [e2] at h; have := of_decide_eq_true h; unfold WB; omega
            have hG2 := hI'.done (by omega) (by
              have hb := hI.b
              have m1 : (g - 1) * v0 ≤ HB * (HB - 1) := Nat.mul_le_mul (by omega) (by unfold WB at hv0; unfold HB; omega)
              have m2 : HB * HB ≤ (r + v1) * HB := Nat.mul_le_mul_right _ hr2
              have m3 : HB * (HB - 1) ≤ HB * HB := by decide
              omega)
            have hGe : g - 1 = G := by rw [← hG2, hGd, show R * HB + x = x + WB * R by unfold HB WB; omega, show v1 * HB + v0 = V by unfold HB; unfold WB at hVe; omega]
            clear h
            (repeat (first|((first|refine qA ?_|refine qB ?_|refine xN ?_|refine xE ?_|refine xT ?_); try show PW _ _ _ _ _ _)|refine ro1 tabOk rfl rfl ?_|refine ro2 tabOk rfl rfl ?_|refine ro3 tabOk rfl rfl ?_|refine rd1 tabOk rfl rfl ?_|refine rd2 tabOk rfl rfl ?_|refine rd3 tabOk rfl rfl ?_|((first|apply oR rfl rfl|(apply dF rfl rfl rfl; intro _)|(apply dP rfl rfl rfl; intro _)|(apply dL rfl rfl rfl; intro _)|apply dC rfl rfl rfl rfl); (focus (first|exact cJ|exact mG|exact bT|exact nD)); try exact kQ)|refine xS ?_|refine xR ?_|refine qxa rfl rfl mixed ?_|refine qxb rfl rfl mixed ?_|refine qxi rfl rfl rfl rfl rfl mixed ?_|refine qxc rfl rfl mixed ?_|refine qxd rfl rfl mixed ?_|refine xB ?_|refine xt rfl ?_|refine xf rfl ?_))
            exact ⟨SlotsOk.le ⟨.inl rfl, .inl rfl, .inl rfl, .inl rfl, .inl rfl, .inl rfl, .inl rfl, .inl rfl, .inl (congrArg (fun k => PV.g (.int .u64 k)) (by rw [e1, hGe])), trivial⟩, HLe.of_eq rfl⟩
          · have hr2 : r + v1 < WB := by rw [e2] at h; have := of_decide_eq_false h; unfold WB; omega
            clear h
            (repeat (first|((first|refine qA ?_|refine qB ?_|refine xN ?_|refine xE ?_|refine xT ?_); try show PW _ _ _ _ _ _)|refine ro1 tabOk rfl rfl ?_|refine ro2 tabOk rfl rfl ?_|refine ro3 tabOk rfl rfl ?_|refine rd1 tabOk rfl rfl ?_|refine rd2 tabOk rfl rfl ?_|refine rd3 tabOk rfl rfl ?_|((first|apply oR rfl rfl|(apply dF rfl rfl rfl; intro _)|(apply dP rfl rfl rfl; intro _)|(apply dL rfl rfl rfl; intro _)|apply dC rfl rfl rfl rfl); (focus (first|exact cJ|exact mG|exact bT|exact nD)); try exact kQ)|refine xS ?_|refine xR ?_|refine qxa rfl rfl mixed ?_|refine qxb rfl rfl mixed ?_|refine qxi rfl rfl rfl rfl rfl mixed ?_|refine qxc rfl rfl mixed ?_|refine qxd rfl rfl mixed ?_|refine xB ?_|refine xt rfl ?_|refine xf rfl ?_))
            exact ⟨(g - 1, r + v1), ⟨hI', hr2⟩, by dsimp only; omega, SlotsOk.le ⟨.inl rfl, .inl rfl, .inl rfl, .inl rfl, .inl rfl, .inl rfl, .inl rfl, .inl rfl, .inl (congrArg (fun k => PV.g (.int .u64 k)) e1), .inl (congrArg (fun k => PV.g (.int .u64 k)) e2), trivial⟩, HLe.of_eq rfl⟩
        · have hgl : g < WB := by have := of_decide_eq_false h; unfold WB; omega
          clear h
          (repeat (first|((first|refine qA ?_|refine qB ?_|refine xN ?_|refine xE ?_|refine xT ?_); try show PW _ _ _ _ _ _)|refine ro1 tabOk rfl rfl ?_|refine ro2 tabOk rfl rfl ?_|refine ro3 tabOk rfl rfl ?_|refine rd1 tabOk rfl rfl ?_|refine rd2 tabOk rfl rfl ?_|refine rd3 tabOk rfl rfl ?_|((first|apply oR rfl rfl|(apply dF rfl rfl rfl; intro _)|(apply dP rfl rfl rfl; intro _)|(apply dL rfl rfl rfl; intro _)|apply dC rfl rfl rfl rfl); (focus (first|exact PO_shl rfl rfl rfl (by decide)|exact PO_vindex j rfl (EL rfl) (SZ rfl) rfl rfl hj0 (by omega)|exact PO_load_mref_one rfl (AG rfl) rfl rfl hgA0 rfl|exact cJ|exact mG|exact bT|exact nD)); try exact kQ)|refine xS ?_|refine xR ?_|refine qxa rfl rfl mixed ?_|refine qxb rfl rfl mixed ?_|refine qxi rfl rfl rfl rfl rfl mixed ?_|refine qxc rfl rfl mixed ?_|refine qxd rfl rfl mixed ?_|refine xB ?_|refine xt rfl ?_|refine xf rfl ?_))
          (first|refine POps_split rfl rfl (fun h => ?_) (fun h => ?_)|refine POpsD_split rfl rfl (fun h => ?_) (fun h => ?_)|refine PW_cond rfl (fun h => ?_) (fun h => ?_))
          · have hover : HB ≤ g ∨ r * HB + x < g * v0 := .inr (by rw [hmul, hor2] at h; have := of_decide_eq_true h; unfold HB; unfold WB at this; omega)
            obtain ⟨hg1, hI'⟩ := hI.over hH hxw hover
            have e1 : IntKind.u64.wrap ((g : Int) - 1) = ((g - 1 : Nat) : Int) := by rw [show ((g : Int) - 1) = ((g - 1 : Nat) : Int) by omega]; exact u64_id (by have := hI.b; unfold HB at this; unfold WB; omega)
            have e2 : IntKind.u64.wrap ((r : Int) + (v1 : Int)) = ((r + v1 : Nat) : Int) := by rw [← Int.natCast_add]; exact u64_id (by unfold WB at *; omega)
            clear h
            (repeat (first|((first|refine qA ?_|refine qB ?_|refine xN ?_|refine xE ?_|refine xT ?_); try show PW _ _ _ _ _ _)|refine ro1 tabOk rfl rfl ?_|refine ro2 tabOk rfl rfl ?_|refine ro3 tabOk rfl rfl ?_|refine rd1 tabOk rfl rfl ?_|refine rd2 tabOk rfl rfl ?_|refine rd3 tabOk rfl rfl ?_|((first|apply oR rfl rfl|(apply dF rfl rfl rfl; intro _)|(apply dP rfl rfl rfl; intro _)|(apply dL rfl rfl rfl; intro _)|apply dC rfl rfl rfl rfl); (focus (first|exact cJ|exact mG|exact bT|exact nD)); try exact kQ)|refine xS ?_|refine xR ?_|refine qxa rfl rfl mixed ?_|refine qxb rfl rfl mixed ?_|refine qxi rfl rfl rfl rfl rfl mixed ?_|refine qxc rfl rfl mixed ?_|refine qxd rfl rfl mixed ?_|refine xB ?_|refine xt rfl ?_|refine xf rfl ?_))
            (first|refine POps_split rfl rfl (fun h => ?_) (fun h => ?_)|refine POpsD_split rfl rfl (fun h => ?_) (fun h => ?_)|refine PW_cond rfl (fun h => ?_) (fun h => ?_))
            · have hr2 : WB ≤ r + v1 := by rw [e2] at h; have := of_decide_eq_true h; unfold WB; omega
              have hG2 := hI'.done (by omega) (by
                have hb := hI.b
                have m1 : (g - 1) * v0 ≤ HB * (HB - 1) := Nat.mul_le_mul (by omega) (by unfold WB at hv0; unfold HB; omega)
                have m2 : HB * HB ≤ (r + v1) * HB := Nat.mul_le_mul_right _ hr2
                have m3 : HB * (HB - 1) ≤ HB * HB := by decide
                omega)
              have hGe : g - 1 = G := by rw [← hG2, hGd, show R * HB + x = x + WB * R by unfold HB WB; omega, show v1 * HB + v0 = V by unfold HB; unfold WB at hVe; omega]
              clear h
              (repeat (first|((first|refine qA ?_|refine qB ?_|refine xN ?_|refine xE ?_|refine xT ?_); try show PW _ _ _ _ _ _)|refine ro1 tabOk rfl rfl ?_|refine ro2 tabOk rfl rfl ?_|refine ro3 tabOk rfl rfl ?_|refine rd1 tabOk rfl rfl ?_|refine rd2 tabOk rfl rfl ?_|refine rd3 tabOk rfl rfl ?_|((first|apply oR rfl rfl|(apply dF rfl rfl rfl; intro _)|(apply dP rfl rfl rfl; intro _)|(apply dL rfl rfl rfl; intro _)|apply dC rfl rfl rfl rfl); (focus (first|exact cJ|exact mG|exact bT|exact nD)); try exact kQ)|refine xS ?_|refine xR ?_|refine qxa rfl rfl mixed ?_|refine qxb rfl rfl mixed ?_|refine qxi rfl rfl rfl rfl rfl mixed ?_|refine qxc rfl rfl mixed ?_|refine qxd rfl rfl mixed ?_|refine xB ?_|refine xt rfl ?_|refine xf rfl ?_))
              exact ⟨SlotsOk.le ⟨.inl rfl, .inl rfl, .inl rfl, .inl rfl, .inl rfl, .inl rfl, .inl rfl, .inl rfl, .inl (congrArg (fun k => PV.g (.int .u64 k)) (by rw [e1, hGe])), trivial⟩, HLe.of_eq rfl⟩
            · have hr2 : r + v1 < WB := by rw [e2] at h; have := of_decide_eq_false h; unfold WB; omega
              clear h
              (repeat (first|((first|refine qA ?_|refine qB ?_|refine xN ?_|refine xE ?_|refine xT ?_); try show PW _ _ _ _ _ _)|refine ro1 tabOk rfl rfl ?_|refine ro2 tabOk rfl rfl ?_|refine ro3 tabOk rfl rfl ?_|refine rd1 tabOk rfl rfl ?_|refine rd2 tabOk rfl rfl ?_|refine rd3 tabOk rfl rfl ?_|((first|apply oR rfl rfl|(apply dF rfl rfl rfl; intro _)|(apply dP rfl rfl rfl; intro _)|(apply dL rfl rfl rfl; intro _)|apply dC rfl rfl rfl rfl); (focus (first|exact cJ|exact mG|exact bT|exact nD)); try exact kQ)|refine xS ?_|refine xR ?_|refine qxa rfl rfl mixed ?_|refine qxb rfl rfl mixed ?_|refine qxi rfl rfl rfl rfl rfl mixed ?_|refine qxc rfl rfl mixed ?_|refine qxd rfl rfl mixed ?_|refine xB ?_|refine xt rfl ?_|refine xf rfl ?_))
              exact ⟨(g - 1, r + v1), ⟨hI', hr2⟩, by dsimp only; omega, SlotsOk.le ⟨.inl rfl, .inl rfl, .inl rfl, .inl rfl, .inl rfl, .inl rfl, .inl rfl, .inl rfl, .inl (congrArg (fun k => PV.g (.int .u64 k)) e1), .inl (congrArg (fun k => PV.g (.int .u64 k)) e2), trivial⟩, HLe.of_eq rfl⟩
          · have hG2 := hI.done (by omega) (by rw [hmul, hor2] at h; have := of_decide_eq_false h; unfold HB; unfold WB at this; omega)
            have hGe : g = G := by rw [← hG2, hGd, show R * HB + x = x + WB * R by unfold HB WB; omega, show v1 * HB + v0 = V by unfold HB; unfold WB at hVe; omega]
            clear h
            (repeat (first|((first|refine qA ?_|refine qB ?_|refine xN ?_|refine xE ?_|refine xT ?_); try show PW _ _ _ _ _ _)|refine ro1 tabOk rfl rfl ?_|refine ro2 tabOk rfl rfl ?_|refine ro3 tabOk rfl rfl ?_|refine rd1 tabOk rfl rfl ?_|refine rd2 tabOk rfl rfl ?_|refine rd3 tabOk rfl rfl ?_|((first|apply oR rfl rfl|(apply dF rfl rfl rfl; intro _)|(apply dP rfl rfl rfl; intro _)|(apply dL rfl rfl rfl; intro _)|apply dC rfl rfl rfl rfl); (focus (first|exact cJ|exact mG|exact bT|exact nD)); try exact kQ)|refine xS ?_|refine xR ?_|refine qxa rfl rfl mixed ?_|refine qxb rfl rfl mixed ?_|refine qxi rfl rfl rfl rfl rfl mixed ?_|refine qxc rfl rfl mixed ?_|refine qxd rfl rfl mixed ?_|refine xB ?_|refine xt rfl ?_|refine xf rfl ?_))
            exact ⟨SlotsOk.le ⟨.inl rfl, .inl rfl, .inl rfl, .inl rfl, .inl rfl, .inl rfl, .inl rfl, .inl rfl, .inl (congrArg (fun k : Nat => PV.g (.int .u64 k)) hGe), trivial⟩, HLe.of_eq rfl⟩
      · (repeat (first|((first|refine qA ?_|refine qB ?_|refine xN ?_|refine xE ?_|refine xT ?_); try show PW _ _ _ _ _ _)|refine ro1 tabOk rfl rfl ?_|refine ro2 tabOk rfl rfl ?_|refine ro3 tabOk rfl rfl ?_|refine rd1 tabOk rfl rfl ?_|refine rd2 tabOk rfl rfl ?_|refine rd3 tabOk rfl rfl ?_|((first|apply oR rfl rfl|(apply dF rfl rfl rfl; intro _)|(apply dP rfl rfl rfl; intro _)|(apply dL rfl rfl rfl; intro _)|apply dC rfl rfl rfl rfl); (focus (first|exact cJ|exact mG|exact bT|exact nD)); try exact kQ)|refine xS ?_|refine xR ?_|refine qxa rfl rfl mixed ?_|refine qxb rfl rfl mixed ?_|refine qxi rfl rfl rfl rfl rfl mixed ?_|refine qxc rfl rfl mixed ?_|refine qxd rfl rfl mixed ?_|refine xB ?_|refine xt rfl ?_|refine xf rfl ?_))
        refine PW_loop (S := Nat × Nat × Nat × List Nat) (fun q => slots [(10, .g (.int .u64 s)), (11, .g (.sl (wsG [v0, v1]))), (12, .vw 0 0 0 (L + 2) (L + 2)), (13, .g (.int .i64 2)), (15, .vw 1 0 0 L L), (16, .g (.int .u64 v1)), (17, .g (.int .u64 v0)), (18, .g (.int .i64 j)), (20, .g (.int .u64 G)), (22, .g (.int .u64 q.2.1)), (23, .g (.int .u64 q.2.2.1)), (24, .g (.int .i64 q.1))]) (fun q => ⟨[], [], [AR 0 q.2.2.2, AR 0 B]⟩) (fun q => q.1 ≤ 2 ∧ subIs A j v1 v0 G x1 x0 d0 d1 q.1 q.2.1 q.2.2.1 q.2.2.2) (fun q => 2 - q.1) (0, 0, 0, A) ⟨Nat.zero_le _, .inl ⟨rfl, rfl, rfl, rfl⟩⟩
          (SlotsOk.le ⟨.inl rfl, .inl rfl, .inl rfl, .inl rfl, .inl rfl, .inl rfl, .inl rfl, .inl rfl, .inl rfl, .inl rfl, .inl rfl, .inl rfl, trivial⟩) (HLe.of_eq rfl) (fun q hq => ?_)
        obtain ⟨i, cc, dd, ws⟩ := q
        obtain ⟨hi, hI⟩ := hq
        dsimp only at hi hI
        (repeat (first|((first|refine qA ?_|refine qB ?_|refine xN ?_|refine xE ?_|refine xT ?_); try show PW _ _ _ _ _ _)|refine ro1 tabOk rfl rfl ?_|refine ro2 tabOk rfl rfl ?_|refine ro3 tabOk rfl rfl ?_|refine rd1 tabOk rfl rfl ?_|refine rd2 tabOk rfl rfl ?_|refine rd3 tabOk rfl rfl ?_|((first|apply oR rfl rfl|(apply dF rfl rfl rfl; intro _)|(apply dP rfl rfl rfl; intro _)|(apply dL rfl rfl rfl; intro _)|apply dC rfl rfl rfl rfl); (focus (first|exact cJ|exact mG|exact bT|exact nD)); try exact kQ)|refine xS ?_|refine xR ?_|refine qxa rfl rfl mixed ?_|refine qxb rfl rfl mixed ?_|refine qxi rfl rfl rfl rfl rfl mixed ?_|refine qxc rfl rfl mixed ?_|refine qxd rfl rfl mixed ?_|refine xB ?_|refine xt rfl ?_|refine xf rfl ?_))
        (first|refine POps_split rfl rfl (fun h => ?_) (fun h => ?_)|refine POpsD_split rfl rfl (fun h => ?_) (fun h => ?_)|refine PW_cond rfl (fun h => ?_) (fun h => ?_))
        · have hi2 : i < 2 := by have := of_decide_eq_true h; omega
          obtain ⟨vi, ui, r1, r2, r3, r4, r5, r6, r7⟩ := sub_round hW g0 g1 hxw hR1 hv0 hv1 hGw hI hi2
          have hgv : (wsG [v0, v1])[(i : Int).toNat]? = some (wG vi) := wsG_get r1
          have hgu : (wsG ws)[0 + (i + j)]? = some (wG ui) := wsG_get (by rw [Nat.zero_add]; exact r2)
          have hij : IntKind.i64.wrap ((i : Int) + (j : Int)) = ((i + j : Nat) : Int) := by rw [w64 (by omega)]; omega
          have hmc := mulc_raw (c := cc) (g := G) r3 r5
          obtain ⟨t1, t2⟩ := sub_raw32 (u := ui) (p := cc + G * vi) (d := dd) r4 r6
          clear h
          (repeat (first|((first|refine qA ?_|refine qB ?_|refine xN ?_|refine xE ?_|refine xT ?_); try show PW _ _ _ _ _ _)|refine ro1 tabOk rfl rfl ?_|refine ro2 tabOk rfl rfl ?_|refine ro3 tabOk rfl rfl ?_|refine rd1 tabOk rfl rfl ?_|refine rd2 tabOk rfl rfl ?_|refine rd3 tabOk rfl rfl ?_|((first|apply oR rfl rfl|(apply dF rfl rfl rfl; intro _)|(apply dP rfl rfl rfl; intro _)|(apply dL rfl rfl rfl; intro _)|apply dC rfl rfl rfl rfl); (focus (first|exact iA rfl (EL rfl) (SZ rfl) rfl rfl (Int.natCast_nonneg _) hgv rfl|exact cJ|exact mG|exact bT|exact nD)); try exact kQ)|refine xU [33] rfl ?_|refine xR ?_|refine qxa rfl rfl mixed ?_|refine qxb rfl rfl mixed ?_|refine qxi rfl rfl rfl rfl rfl mixed ?_|refine qxc rfl rfl mixed ?_|refine qxd rfl rfl mixed ?_|refine xB ?_|refine xt rfl ?_|refine xf rfl ?_))
          refine PW_weak (env' := slots [(10, .g (.int .u64 s)), (11, .g (.sl (wsG [v0, v1]))), (12, .vw 0 0 0 (L + 2) (L + 2)), (13, .g (.int .i64 2)), (15, .vw 1 0 0 L L), (16, .g (.int .u64 v1)), (17, .g (.int .u64 v0)), (18, .g (.int .i64 j)), (20, .g (.int .u64 G)), (22, .g (.int .u64 ((cc + G * vi : Nat) : Int))), (23, .g (.int .u64 dd)), (24, .g (.int .i64 i))]) (H' := ⟨[], [], [AR 0 ws, AR 0 B]⟩) (SlotsOk.le ⟨.inl rfl, .inl rfl, .inl rfl, .inl rfl, .inl rfl, .inl rfl, .inl rfl, .inl rfl, .inl rfl, .inl (congrArg (fun k => PV.g (.int .u64 k)) hmc), .inl rfl, .inl rfl, trivial⟩) (HLe.of_eq rfl) ?_
          (repeat (first|((first|refine qA ?_|refine qB ?_|refine xN ?_|refine xE ?_|refine xT ?_); try show PW _ _ _ _ _ _)|refine ro1 tabOk rfl rfl ?_|refine ro2 tabOk rfl rfl ?_|refine ro3 tabOk rfl rfl ?_|refine rd1 tabOk rfl rfl ?_|refine rd2 tabOk rfl rfl ?_|refine rd3 tabOk rfl rfl ?_|((first|apply oR rfl rfl|(apply dF rfl rfl rfl; intro _)|(apply dP rfl rfl rfl; intro _)|(apply dL rfl rfl rfl; intro _)|apply dC rfl rfl rfl rfl); (focus (first|exact PO_vindex (i + j) rfl (EL rfl) (SZ rfl) rfl rfl hij (by omega)|exact PO_load_mref_one rfl (AG rfl) rfl rfl hgu rfl|exact PO_store_mref rfl (SZ rfl) rfl rfl rfl rfl (by decide) rfl hgu (Nat.le_refl _)|exact PO_shr rfl rfl rfl (by decide)|exact cJ|exact mG|exact bT|exact nD)); try exact kQ)|refine xS ?_|refine xR ?_|refine qxa rfl rfl mixed ?_|refine qxb rfl rfl mixed ?_|refine qxi rfl rfl rfl rfl rfl mixed ?_|refine qxc rfl rfl mixed ?_|refine qxd rfl rfl mixed ?_|refine xB ?_|refine xt rfl ?_|refine xf rfl ?_))
          exact ⟨(i + 1, (cc + G * vi) / WB, (if ui < (cc + G * vi) % WB + dd then 1 else 0), ws.set (i + j) ((ui + (WB + WB) - (cc + G * vi) % WB - dd) % WB)), ⟨hi2, r7⟩, by dsimp only; omega, SlotsOk.le ⟨.inl rfl, .inl rfl, .inl rfl, .inl rfl, .inl rfl, .inl rfl, .inl rfl, .inl rfl, .inl rfl, .inl (congrArg (fun k => PV.g (.int .u64 k)) (shr_nat (s := 32) (by decide))), .inl (congrArg (fun k => PV.g (.int .u64 k)) t2), .inl (congrArg (fun k => PV.g (.int .i64 k)) (w64 (by omega))), trivial⟩,
            HLe.of_eq (congrArg (fun l => (⟨[], [], [MO.arr 0 W32 l, AR 0 B]⟩ : PH)) (show (wsG ws).set (0 + (i + j)) (GV.int .u32 (IntKind.u32.wrap (IntKind.u64.wrap (IntKind.u64.wrap (IntKind.u64.wrap (ui : Int) - IntKind.u64.wrap (IntKind.u32.wrap ((cc + G * vi : Nat) : Int))) - (dd : Int))))) = wsG (ws.set (i + j) ((ui + (WB + WB) - (cc + G * vi) % WB - dd) % WB)) from by
              rw [Nat.zero_add, t1]; exact wsG_set))⟩
        · have hi2 : i = 2 := by have := of_decide_eq_false h; omega
          subst hi2
          clear h
          rcases hI with ⟨e, _⟩ | ⟨e, _⟩ | ⟨_, rfl, rfl, rfl⟩
          · cases e
          · cases e
          have hgu : (wsG ((A.set j x0).set (j + 1) x1))[0 + (j + 2)]? = some (wG u2) := wsG_get (by rw [Nat.zero_add, List.getElem?_set_ne (by omega), List.getElem?_set_ne (by omega)]; exact g2)
          have hzero : IntKind.u64.wrap (IntKind.u64.wrap (IntKind.u64.wrap (u2 : Int) - (((G * v0 / WB + G * v1) / WB : Nat) : Int)) - (dd : Int)) = 0 := by
            have h2 := hW.h2
            generalize (G * v0 / WB + G * v1) / WB = w at *
            rw [u64_id (n := u2) (by unfold WB at *; omega), show (u2 : Int) - (w : Int) = ((u2 - w : Nat) : Int) by omega, u64_id (n := u2 - w) (by unfold WB at *; omega), show ((u2 - w : Nat) : Int) - (dd : Int) = ((0 : Nat) : Int) by omega]
            rfl
          have hx0w : x0 < WB := by rw [hW.hx0]; exact Nat.mod_lt _ (by decide)
          have hset := hust x0 x1 hx0w (by rw [hW.hv, hRd, hVe])
          (repeat (first|((first|refine qA ?_|refine qB ?_|refine xN ?_|refine xE ?_|refine xT ?_); try show PW _ _ _ _ _ _)|refine ro1 tabOk rfl rfl ?_|refine ro2 tabOk rfl rfl ?_|refine ro3 tabOk rfl rfl ?_|refine rd1 tabOk rfl rfl ?_|refine rd2 tabOk rfl rfl ?_|refine rd3 tabOk rfl rfl ?_|((first|apply oR rfl rfl|(apply dF rfl rfl rfl; intro _)|(apply dP rfl rfl rfl; intro _)|(apply dL rfl rfl rfl; intro _)|apply dC rfl rfl rfl rfl); (focus (first|exact PO_vindex (j + 2) rfl (EL rfl) (SZ rfl) rfl rfl hj2 (by omega)|exact PO_load_mref_one rfl (AG rfl) rfl rfl hgu rfl|exact cJ|exact mG|exact bT|exact nD)); try exact kQ)|refine xU [38] rfl ?_|refine xR ?_|refine qxa rfl rfl mixed ?_|refine qxb rfl rfl mixed ?_|refine qxi rfl rfl rfl rfl rfl mixed ?_|refine qxc rfl rfl mixed ?_|refine qxd rfl rfl mixed ?_|refine xB ?_|refine xt rfl ?_|refine xf rfl ?_))
          refine PW_weak (env' := slots [(10, .g (.int .u64 s)), (11, .g (.sl (wsG [v0, v1]))), (12, .vw 0 0 0 (L + 2) (L + 2)), (13, .g (.int .i64 2)), (15, .vw 1 0 0 L L), (16, .g (.int .u64 v1)), (17, .g (.int .u64 v0)), (18, .g (.int .i64 j)), (20, .g (.int .u64 G)), (26, .g (.int .u64 0))]) (H' := ⟨[], [], [AR 0 ((A.set j x0).set (j + 1) x1), AR 0 B]⟩) (SlotsOk.le ⟨.inl rfl, .inl rfl, .inl rfl, .inl rfl, .inl rfl, .inl rfl, .inl rfl, .inl rfl, .inl rfl, .inl (congrArg (fun k => PV.g (.int .u64 k)) hzero), trivial⟩) (HLe.of_eq rfl) ?_
          (repeat (first|((first|refine qA ?_|refine qB ?_|refine xN ?_|refine xE ?_|refine xT ?_); try show PW _ _ _ _ _ _)|refine ro1 tabOk rfl rfl ?_|refine ro2 tabOk rfl rfl ?_|refine ro3 tabOk rfl rfl ?_|refine rd1 tabOk rfl rfl ?_|refine rd2 tabOk rfl rfl ?_|refine rd3 tabOk rfl rfl ?_|((first|apply oR rfl rfl|(apply dF rfl rfl rfl; intro _)|(apply dP rfl rfl rfl; intro _)|(apply dL rfl rfl rfl; intro _)|apply dC rfl rfl rfl rfl); (focus (first|exact PO_vindex (j + 2) rfl (EL rfl) (SZ rfl) rfl rfl hj2 (by omega)|exact PO_store_mref rfl (SZ rfl) rfl rfl rfl rfl (by decide) rfl hgu (Nat.le_refl _)|exact cJ|exact mG|exact bT|exact nD)); try exact kQ)|refine xU [39] rfl ?_|refine xR ?_|refine qxa rfl rfl mixed ?_|refine qxb rfl rfl mixed ?_|refine qxi rfl rfl rfl rfl rfl mixed ?_|refine qxc rfl rfl mixed ?_|refine qxd rfl rfl mixed ?_|refine xB ?_|refine xt rfl ?_|refine xf rfl ?_))
          refine PW_weak (env' := slots [(10, .g (.int .u64 s)), (11, .g (.sl (wsG [v0, v1]))), (12, .vw 0 0 0 (L + 2) (L + 2)), (13, .g (.int .i64 2)), (15, .vw 1 0 0 L L), (16, .g (.int .u64 v1)), (17, .g (.int .u64 v0)), (18, .g (.int .i64 j)), (20, .g (.int .u64 G)), (26, .g (.int .u64 0))]) (H' := ⟨[], [], [AR 0 (uW V U j), AR 0 B]⟩) (SlotsOk.le ⟨.inl rfl, .inl rfl, .inl rfl, .inl rfl, .inl rfl, .inl rfl, .inl rfl, .inl rfl, .inl rfl, .inl rfl, trivial⟩)
            (HLe.of_eq (congrArg (fun l => (⟨[], [], [MO.arr 0 W32 l, AR 0 B]⟩ : PH)) (show (wsG ((A.set j x0).set (j + 1) x1)).set (0 + (j + 2)) (GV.int .u32 (IntKind.u32.wrap 0)) = wsG (uW V U j) from by
              rw [Nat.zero_add, ← hset]; exact wsG_set (w := 0)))) ?_
          (repeat (first|((first|refine qA ?_|refine qB ?_|refine xN ?_|refine xE ?_|refine xT ?_); try show PW _ _ _ _ _ _)|refine ro1 tabOk rfl rfl ?_|refine ro2 tabOk rfl rfl ?_|refine ro3 tabOk rfl rfl ?_|refine rd1 tabOk rfl rfl ?_|refine rd2 tabOk rfl rfl ?_|refine rd3 tabOk rfl rfl ?_|((first|apply oR rfl rfl|(apply dF rfl rfl rfl; intro _)|(apply dP rfl rfl rfl; intro _)|(apply dL rfl rfl rfl; intro _)|apply dC rfl rfl rfl rfl); (focus (first|exact PO_shr rfl rfl rfl (by decide)|exact PO_vindex j rfl (EL rfl) (SZ rfl) rfl rfl rfl (by omega)|exact PO_store_mref rfl (SZ rfl) rfl rfl rfl rfl (by decide) rfl hgq (Nat.le_refl _)|exact cJ|exact mG|exact bT|exact nD)); try exact kQ)|refine xS ?_|refine xR ?_|refine qxa rfl rfl mixed ?_|refine qxb rfl rfl mixed ?_|refine qxi rfl rfl rfl rfl rfl mixed ?_|refine qxc rfl rfl mixed ?_|refine qxd rfl rfl mixed ?_|refine xB ?_|refine xt rfl ?_|refine xf rfl ?_))
          exact ⟨j, by omega, by omega, SlotsOk.le ⟨.inl rfl, .inl rfl, .inl rfl, .inl rfl, .inl rfl, .inl rfl, .inl rfl, .inl (congrArg (fun k => PV.g (.int .i64 k)) (w64 (by omega))), trivial⟩,
            HLe.of_eq (congrArg (fun l => (⟨[], [], [AR 0 (uW V U j), MO.arr 0 W32 l]⟩ : PH)) (show (wsG B).set (0 + j) (GV.int .u32 (IntKind.u32.wrap (G : Int))) = wsG (qV V U L j) from by
              rw [Nat.zero_add, u32_wrap, Nat.mod_eq_of_lt hGw, ← hqst]; exact wsG_set))⟩
    · exfalso; have := of_decide_eq_false h; omega
end Go.Pure.V

