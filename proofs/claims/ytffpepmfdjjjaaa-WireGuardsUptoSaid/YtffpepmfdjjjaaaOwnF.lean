/- The law WireGuards holds in the second form: for every tree, place and number of bulk at most 1048576 the program returns true, and leaves them as they were. Conditions: the bulk's bound, nothing else. -/
import Derived.Test.YtffpepmfdjjjaaaOwnD
import Derived.Test.YtffpepmfdjjjaaaPureE
namespace Go.Proofs.Ytffpepmfdjjjaaa
open Go.Pure
attribute [local irreducible] PW POps POpsD PO PC Cond

theorem xor_byte (a : UInt8) (x : BitVec 32) (k : Nat) (hk : k < 4) :
    IntKind.u8.wrap ((BitVec.ofInt IntKind.u8.bits (a.toNat : Int) ^^^ BitVec.ofInt IntKind.u8.bits (IntKind.u8.wrap ((x.toNat : Int).fdiv (2 ^ min (IntKind.i64.wrap (8 * (k : Int))).toNat IntKind.u32.bits)))).toNat : Int) = ((a ^^^ xb x k).toNat : Int) := by
  have hxl := x.isLt
  have e1 : min (IntKind.i64.wrap (8 * (k : Int))).toNat IntKind.u32.bits = 8 * k := by
    rw [wrap64 (by omega)]
    have : IntKind.u32.bits = 32 := rfl
    rw [this]; omega
  have e2 : (x.toNat : Int).fdiv (2 ^ (8 * k)) = ((x.toNat / 2 ^ (8 * k) : Nat) : Int) := by
    have : (2 : Int) ^ (8 * k) = ((2 ^ (8 * k) : Nat) : Int) := by push_cast; rfl
    rw [this, fdivN]
  rw [e1, e2, u8wrap]
  have ha := a.toNat_lt
  have hy : x.toNat / 2 ^ (8 * k) % 256 < 256 := Nat.mod_lt _ (by decide)
  show IntKind.u8.wrap ((BitVec.ofInt 8 (a.toNat : Int) ^^^ BitVec.ofInt 8 ((x.toNat / 2 ^ (8 * k) % 256 : Nat) : Int)).toNat : Int) = _
  rw [BitVec.ofInt_natCast, BitVec.ofInt_natCast, u8wrap, BitVec.toNat_xor, BitVec.toNat_ofNat, BitVec.toNat_ofNat, UInt8.toNat_xor]
  unfold xb
  rw [u8of _ hy]
  have hx8 : a.toNat ^^^ (x.toNat / 2 ^ (8 * k) % 256) < 2 ^ 8 := Nat.xor_lt_two_pow (by omega) (by omega)
  rw [Nat.mod_eq_of_lt (by omega : a.toNat < 2 ^ 8), Nat.mod_eq_of_lt (by omega : x.toNat / 2 ^ (8 * k) % 256 < 2 ^ 8), Nat.mod_eq_of_lt hx8]
theorem bys_set (l : List UInt8) (n : Nat) (v : UInt8) : (bys l).set n (byteG v) = bys (l.set n v) := by simp [bys, List.map_set]
theorem bys_at (l : List UInt8) (n : Nat) (h : n < l.length) : (bys l)[n]? = some (byteG (l.getD n 0)) := by simp [bys, h]

set_option maxRecDepth 100000 in
set_option maxHeartbeats 8000000 in
theorem guards_pc (tag tn : Int) (text : ByteArray) (kids : List Tr) (at_ : Int) (x : BitVec 32) (hk : (Tr.mk tag tn text kids).ok) (hb : (enc (.mk tag tn text kids)).length ≤ 900000000) :
    PC Try.prog 6 [.g (Tr.mk tag tn text kids).g, .g (.int .i64 at_), .g (w32 x)] ⟨[], [], []⟩ (.g (.bool true)) ⟨[], [], []⟩ := by
  have h1 := bytes_pc tag tn text kids hk hb
  cases hx : bytesT (.mk tag tn text kids) with
  | mk l e =>
  rw [hx] at h1
  dsimp only at h1
  have hlen : (bys l).length = l.length := bys_len l
  refine PC_of_PW Try.func6 rfl rfl (rs := _) rfl (Nat.le_of_ble_eq_true (by kernel_rfl)) ?_
  (repeat' (first | (first | (refine POps_nil ?_; try show PW _ _ _ _ _ _) | (refine POpsD_nil ?_; try show PW _ _ _ _ _ _) | refine runO_ok tabOk 300 rfl rfl ?_ | refine runO_ok tabOk 6 rfl rfl ?_ | refine runO_ok tabOk 1 rfl rfl ?_ | refine runD_ok tabOk 300 rfl rfl ?_ | refine runD_ok tabOk 6 rfl rfl ?_ | refine runD_ok tabOk 1 rfl rfl ?_ | (apply POps_run rfl rfl; focus (first | exact call_pure rfl rfl (EN rfl) (alive_pc) rfl rfl rfl | exact call_pure rfl rfl (EN rfl) (h1) rfl rfl rfl | exact PO_conv_int rfl (IK rfl) (IK rfl) rfl | exact PO_makeFunc rfl | exact PO_buildSlice rfl (EL rfl) (SZ rfl) (AG rfl) (ZR rfl) rfl rfl rfl rfl rfl rfl rfl | exact PO_nilCheck rfl rfl | exact PO_conv_int rfl (IK rfl) (IK rfl) rfl)) | (apply POpsD_run rfl rfl; focus (first | exact Cond_c (call_pure rfl rfl (EN rfl) (alive_pc) rfl rfl rfl) | exact Cond_c (call_pure rfl rfl (EN rfl) (h1) rfl rfl rfl) | exact Cond_c (PO_conv_int rfl (IK rfl) (IK rfl) rfl) | exact Cond_c (PO_makeFunc rfl) | exact Cond_c (PO_buildSlice rfl (EL rfl) (SZ rfl) (AG rfl) (ZR rfl) rfl rfl rfl rfl rfl rfl rfl) | exact Cond_f (fun _ => call_pure rfl rfl (EN rfl) (alive_pc) rfl rfl rfl) | exact Cond_f (fun _ => call_pure rfl rfl (EN rfl) (h1) rfl rfl rfl) | exact Cond_f (fun _ => PO_conv_int rfl (IK rfl) (IK rfl) rfl) | exact Cond_f (fun _ => PO_makeFunc rfl) | exact Cond_f (fun _ => PO_buildSlice rfl (EL rfl) (SZ rfl) (AG rfl) (ZR rfl) rfl rfl rfl rfl rfl rfl rfl) | exact Cond_f (fun _ => PO_nilCheck rfl rfl) | exact Cond_f (fun _ => PO_conv_int rfl (IK rfl) (IK rfl) rfl))) | refine PW_seq_unless [6] rfl ?_ | refine PW_region ?_ | refine PW_draw_all mixed (by kernel_rfl) ?_ | refine PW_block ?_ | (refine PW_skip ?_; try show PW _ _ _ _ _ _) | (refine PW_exit ?_; try show PW _ _ _ _ _ _) | (refine PW_ret ?_; try show PW _ _ _ _ _ _) | refine PW_cond_t rfl ?_ | refine PW_cond_f rfl ?_) | refine POps_split rfl rfl (fun h => ?_) (fun h => ?_) | refine POpsD_split rfl rfl (fun h => ?_) (fun h => ?_) | refine PW_cond rfl (fun h => ?_) (fun h => ?_)))
  · (first | refine Ret_int (resVs_cons resV_tmp resVs_nil) rfl ?_ | refine Ret_bool (resVs_cons resV_tmp resVs_nil) rfl ?_ | refine Ret_g (resVs_cons resV_tmp resVs_nil) rfl ?_ | refine Ret_int (resVs_cons (resV_agg (AG rfl) (SZ rfl) rfl rfl (Nat.le_of_ble_eq_true rfl)) resVs_nil) rfl ?_ | refine Ret_bool (resVs_cons (resV_agg (AG rfl) (SZ rfl) rfl rfl (Nat.le_of_ble_eq_true rfl)) resVs_nil) rfl ?_ | refine Ret_g (resVs_cons (resV_agg (AG rfl) (SZ rfl) rfl rfl (Nat.le_of_ble_eq_true rfl)) resVs_nil) rfl ?_)
    rfl
  · (first | refine Ret_int (resVs_cons resV_tmp resVs_nil) rfl ?_ | refine Ret_bool (resVs_cons resV_tmp resVs_nil) rfl ?_ | refine Ret_g (resVs_cons resV_tmp resVs_nil) rfl ?_ | refine Ret_int (resVs_cons (resV_agg (AG rfl) (SZ rfl) rfl rfl (Nat.le_of_ble_eq_true rfl)) resVs_nil) rfl ?_ | refine Ret_bool (resVs_cons (resV_agg (AG rfl) (SZ rfl) rfl rfl (Nat.le_of_ble_eq_true rfl)) resVs_nil) rfl ?_ | refine Ret_g (resVs_cons (resV_agg (AG rfl) (SZ rfl) rfl rfl (Nat.le_of_ble_eq_true rfl)) resVs_nil) rfl ?_)
    rfl
  · (first | refine Ret_int (resVs_cons resV_tmp resVs_nil) rfl ?_ | refine Ret_bool (resVs_cons resV_tmp resVs_nil) rfl ?_ | refine Ret_g (resVs_cons resV_tmp resVs_nil) rfl ?_ | refine Ret_int (resVs_cons (resV_agg (AG rfl) (SZ rfl) rfl rfl (Nat.le_of_ble_eq_true rfl)) resVs_nil) rfl ?_ | refine Ret_bool (resVs_cons (resV_agg (AG rfl) (SZ rfl) rfl rfl (Nat.le_of_ble_eq_true rfl)) resVs_nil) rfl ?_ | refine Ret_g (resVs_cons (resV_agg (AG rfl) (SZ rfl) rfl rfl (Nat.le_of_ble_eq_true rfl)) resVs_nil) rfl ?_)
    rfl
  · (first | refine Ret_int (resVs_cons resV_tmp resVs_nil) rfl ?_ | refine Ret_bool (resVs_cons resV_tmp resVs_nil) rfl ?_ | refine Ret_g (resVs_cons resV_tmp resVs_nil) rfl ?_ | refine Ret_int (resVs_cons (resV_agg (AG rfl) (SZ rfl) rfl rfl (Nat.le_of_ble_eq_true rfl)) resVs_nil) rfl ?_ | refine Ret_bool (resVs_cons (resV_agg (AG rfl) (SZ rfl) rfl rfl (Nat.le_of_ble_eq_true rfl)) resVs_nil) rfl ?_ | refine Ret_g (resVs_cons (resV_agg (AG rfl) (SZ rfl) rfl rfl (Nat.le_of_ble_eq_true rfl)) resVs_nil) rfl ?_)
    rfl
  · rename_i q1 q2 q3
    have he : e = 0 := by simpa [bne] using q1
    have ha := of_decide_eq_false q2
    have hx0 : x ≠ 0#32 := by
      rintro rfl
      simp [w32] at h
    subst he
    have hl2 := (bytes_enc hx).2
    have hq3 : ¬ at_ > (l.length : Int) - 4 := by
      have := of_decide_eq_false q3
      rw [hlen, wrap64 (by omega)] at this
      exact this
    obtain ⟨n, rfl⟩ : ∃ n : Nat, at_ = (n : Int) := ⟨at_.toNat, by omega⟩
    have hn : n + 4 ≤ l.length := by
      rcases Nat.lt_or_ge l.length 4 with hh | hh
      · exfalso
        unfold bytesT at hx
        split at hx
        · split at hx
          · simp at hx
          · cases hx
            simp [four] at hh
            omega
        · rename_i h0
          exact h0 (congrArg (fun x => x.2) hx)
      · omega
    clear h q1 q2 q3
    have hp := parse_all (fl l n x 4) (by rw [fl_len]; omega)
    have hg := guards hx hn hx0
    rw [parse_err hg] at hp
    (repeat (first | (refine POps_nil ?_; try show PW _ _ _ _ _ _) | (refine POpsD_nil ?_; try show PW _ _ _ _ _ _) | refine runO_ok tabOk 300 rfl rfl ?_ | refine runO_ok tabOk 6 rfl rfl ?_ | refine runO_ok tabOk 1 rfl rfl ?_ | refine runD_ok tabOk 300 rfl rfl ?_ | refine runD_ok tabOk 6 rfl rfl ?_ | refine runD_ok tabOk 1 rfl rfl ?_ | (apply POps_run rfl rfl; focus (first | exact PO_buildSlice_mar rfl (EL rfl) (SZ rfl) (AG rfl) (ZR rfl) rfl rfl rfl rfl rfl rfl rfl | exact PO_mappb (b := []) l rfl (EL rfl) (SZ rfl) (BY rfl) (ZR rfl) rfl rfl rfl rfl rfl (by simp; omega) (by simp [maxLen]; omega) | exact PO_conv_int rfl (IK rfl) (IK rfl) rfl | exact PO_makeFunc rfl | exact PO_buildSlice rfl (EL rfl) (SZ rfl) (AG rfl) (ZR rfl) rfl rfl rfl rfl rfl rfl rfl | exact PO_nilCheck rfl rfl | exact PO_conv_int rfl (IK rfl) (IK rfl) rfl)) | (apply POpsD_run rfl rfl; focus (first | exact Cond_c (PO_buildSlice_mar rfl (EL rfl) (SZ rfl) (AG rfl) (ZR rfl) rfl rfl rfl rfl rfl rfl rfl) | exact Cond_c (PO_mappb (b := []) l rfl (EL rfl) (SZ rfl) (BY rfl) (ZR rfl) rfl rfl rfl rfl rfl (by simp; omega) (by simp [maxLen]; omega)) | exact Cond_c (PO_conv_int rfl (IK rfl) (IK rfl) rfl) | exact Cond_c (PO_makeFunc rfl) | exact Cond_c (PO_buildSlice rfl (EL rfl) (SZ rfl) (AG rfl) (ZR rfl) rfl rfl rfl rfl rfl rfl rfl) | exact Cond_f (fun _ => PO_buildSlice_mar rfl (EL rfl) (SZ rfl) (AG rfl) (ZR rfl) rfl rfl rfl rfl rfl rfl rfl) | exact Cond_f (fun _ => PO_mappb (b := []) l rfl (EL rfl) (SZ rfl) (BY rfl) (ZR rfl) rfl rfl rfl rfl rfl (by simp; omega) (by simp [maxLen]; omega)) | exact Cond_f (fun _ => PO_conv_int rfl (IK rfl) (IK rfl) rfl) | exact Cond_f (fun _ => PO_makeFunc rfl) | exact Cond_f (fun _ => PO_buildSlice rfl (EL rfl) (SZ rfl) (AG rfl) (ZR rfl) rfl rfl rfl rfl rfl rfl rfl) | exact Cond_f (fun _ => PO_nilCheck rfl rfl) | exact Cond_f (fun _ => PO_conv_int rfl (IK rfl) (IK rfl) rfl))) | refine PW_seq ?_ | refine PW_region ?_ | refine PW_draw_all mixed (by kernel_rfl) ?_ | refine PW_block ?_ | (refine PW_skip ?_; try show PW _ _ _ _ _ _) | (refine PW_exit ?_; try show PW _ _ _ _ _ _) | (refine PW_ret ?_; try show PW _ _ _ _ _ _) | refine PW_cond_t rfl ?_ | refine PW_cond_f rfl ?_))
    refine PW_loop (S := Nat) (fun k => slots [(1, .g (.int .i64 n)), (2, .g (w32 x)), (9, .mar 0 (0 + l.length)), (10, .g (.int .i64 k))])
      (fun k => ⟨[[.g (.int .i64 tag), .g (.int .i64 tn), .g (.str text), .g (.sl (Tr.gs kids))]], [], [.arr (0 + l.length) 5 (bys (fl l n x k))]⟩)
      (fun k => k ≤ 4) (fun k => 4 - k) 0 (Nat.zero_le _) (SlotsOk.le ⟨.inl rfl, .inl rfl, .inl rfl, .inl rfl, trivial⟩) (HLe.refl _) (fun k hk4 => ?_)
    (repeat (first | (refine POps_nil ?_; try show PW _ _ _ _ _ _) | (refine POpsD_nil ?_; try show PW _ _ _ _ _ _) | refine runO_ok tabOk 300 rfl rfl ?_ | refine runO_ok tabOk 6 rfl rfl ?_ | refine runO_ok tabOk 1 rfl rfl ?_ | refine runD_ok tabOk 300 rfl rfl ?_ | refine runD_ok tabOk 6 rfl rfl ?_ | refine runD_ok tabOk 1 rfl rfl ?_ | (apply POps_run rfl rfl; focus (first | exact PO_conv_int rfl (IK rfl) (IK rfl) rfl | exact PO_makeFunc rfl | exact PO_buildSlice rfl (EL rfl) (SZ rfl) (AG rfl) (ZR rfl) rfl rfl rfl rfl rfl rfl rfl | exact PO_nilCheck rfl rfl | exact PO_conv_int rfl (IK rfl) (IK rfl) rfl)) | (apply POpsD_run rfl rfl; focus (first | exact Cond_c (PO_conv_int rfl (IK rfl) (IK rfl) rfl) | exact Cond_c (PO_makeFunc rfl) | exact Cond_c (PO_buildSlice rfl (EL rfl) (SZ rfl) (AG rfl) (ZR rfl) rfl rfl rfl rfl rfl rfl rfl) | exact Cond_f (fun _ => PO_conv_int rfl (IK rfl) (IK rfl) rfl) | exact Cond_f (fun _ => PO_makeFunc rfl) | exact Cond_f (fun _ => PO_buildSlice rfl (EL rfl) (SZ rfl) (AG rfl) (ZR rfl) rfl rfl rfl rfl rfl rfl rfl) | exact Cond_f (fun _ => PO_nilCheck rfl rfl) | exact Cond_f (fun _ => PO_conv_int rfl (IK rfl) (IK rfl) rfl))) | refine PW_seq ?_ | refine PW_region ?_ | refine PW_draw_all mixed (by kernel_rfl) ?_ | refine PW_block ?_ | (refine PW_skip ?_; try show PW _ _ _ _ _ _) | (refine PW_exit ?_; try show PW _ _ _ _ _ _) | (refine PW_ret ?_; try show PW _ _ _ _ _ _) | refine PW_cond_t rfl ?_ | refine PW_cond_f rfl ?_))
    (first | refine POps_split rfl rfl (fun h => ?_) (fun h => ?_) | refine POpsD_split rfl rfl (fun h => ?_) (fun h => ?_) | refine PW_cond rfl (fun h => ?_) (fun h => ?_))
    · have hlt : k < 4 := by have := of_decide_eq_true h; omega
      have hw : IntKind.i64.wrap ((n : Int) + (k : Int)) = ((n + k : Nat) : Int) := by rw [wrap64 (by omega)]; omega
      have hat := bys_at (fl l n x k) (n + k) (by rw [fl_len]; omega)
      have hfl : (bys (fl l n x k)).length = l.length := by rw [bys_len, fl_len]
      have i0 : 0 ≤ IntKind.i64.wrap ((n : Int) + (k : Int)) := by rw [hw]; omega
      have i1 : IntKind.i64.wrap ((n : Int) + (k : Int)) < ((bys (fl l n x k)).length : Int) := by rw [hw, hfl]; omega
      have i2 : (bys (fl l n x k))[(IntKind.i64.wrap ((n : Int) + (k : Int))).toNat]? = some (byteG ((fl l n x k).getD (n + k) 0)) := by rw [hw]; exact hat
      have i3 : 0 ≤ IntKind.i64.wrap (8 * (k : Int)) := by rw [wrap64 (by omega)]; omega
      (repeat (first | (refine POps_nil ?_; try show PW _ _ _ _ _ _) | (refine POpsD_nil ?_; try show PW _ _ _ _ _ _) | refine runO_ok tabOk 300 rfl rfl ?_ | refine runO_ok tabOk 6 rfl rfl ?_ | refine runO_ok tabOk 1 rfl rfl ?_ | refine runD_ok tabOk 300 rfl rfl ?_ | refine runD_ok tabOk 6 rfl rfl ?_ | refine runD_ok tabOk 1 rfl rfl ?_ | (apply POps_run rfl rfl; focus (first | exact PO_shr rfl rfl rfl i3 | exact PO_conv_int rfl (IK rfl) (IK rfl) rfl | exact PO_makeFunc rfl | exact PO_buildSlice rfl (EL rfl) (SZ rfl) (AG rfl) (ZR rfl) rfl rfl rfl rfl rfl rfl rfl | exact PO_nilCheck rfl rfl | exact PO_conv_int rfl (IK rfl) (IK rfl) rfl)) | (apply POpsD_run rfl rfl; focus (first | exact Cond_mindex (K := [10000]) rfl rfl (EL rfl) (SZ rfl) rfl rfl rfl (SZ rfl) i0 i1 | exact Cond_mload (K := [10000]) rfl rfl (AG rfl) rfl rfl i2 rfl | exact Cond_mstore rfl (SZ rfl) rfl rfl rfl rfl Nat.one_pos rfl i2 (Nat.le_refl _) | exact Cond_c (PO_shr rfl rfl rfl i3) | exact Cond_c (PO_conv_int rfl (IK rfl) (IK rfl) rfl) | exact Cond_c (PO_makeFunc rfl) | exact Cond_c (PO_buildSlice rfl (EL rfl) (SZ rfl) (AG rfl) (ZR rfl) rfl rfl rfl rfl rfl rfl rfl) | exact Cond_f (fun _ => PO_shr rfl rfl rfl i3) | exact Cond_f (fun _ => PO_conv_int rfl (IK rfl) (IK rfl) rfl) | exact Cond_f (fun _ => PO_makeFunc rfl) | exact Cond_f (fun _ => PO_buildSlice rfl (EL rfl) (SZ rfl) (AG rfl) (ZR rfl) rfl rfl rfl rfl rfl rfl rfl) | exact Cond_f (fun _ => PO_nilCheck rfl rfl) | exact Cond_f (fun _ => PO_conv_int rfl (IK rfl) (IK rfl) rfl))) | refine PW_seq ?_ | refine PW_region ?_ | refine PW_draw [10000] mixed (by kernel_rfl) ?_ | refine PW_block ?_ | (refine PW_skip ?_; try show PW _ _ _ _ _ _) | (refine PW_exit ?_; try show PW _ _ _ _ _ _) | (refine PW_ret ?_; try show PW _ _ _ _ _ _) | refine PW_cond_t rfl ?_ | refine PW_cond_f rfl ?_))
      refine ⟨k + 1, hlt, by omega, SlotsOk.le ⟨.inl rfl, .inl rfl, .inl rfl, .inl (congrArg (fun x => PV.g (.int .i64 x)) (wrap64 (by omega))), trivial⟩, HLe.of_eq ?_⟩
      rw [hw]
      have := xor_byte ((fl l n x k).getD (n + k) 0) x k hlt
      rw [this]
      exact congrArg (fun z => (⟨_, [], [.arr (0 + l.length) 5 z]⟩ : PH)) (bys_set _ _ _)
    · have hk : k = 4 := by have := of_decide_eq_false h; omega
      subst hk
      (repeat (first | (refine POps_nil ?_; try show PW _ _ _ _ _ _) | (refine POpsD_nil ?_; try show PW _ _ _ _ _ _) | refine runO_ok tabOk 300 rfl rfl ?_ | refine runO_ok tabOk 6 rfl rfl ?_ | refine runO_ok tabOk 1 rfl rfl ?_ | refine runD_ok tabOk 300 rfl rfl ?_ | refine runD_ok tabOk 6 rfl rfl ?_ | refine runD_ok tabOk 1 rfl rfl ?_ | (apply POps_run rfl rfl; focus (first | exact PO_conv_int rfl (IK rfl) (IK rfl) rfl | exact PO_makeFunc rfl | exact PO_buildSlice rfl (EL rfl) (SZ rfl) (AG rfl) (ZR rfl) rfl rfl rfl rfl rfl rfl rfl | exact PO_nilCheck rfl rfl | exact PO_conv_int rfl (IK rfl) (IK rfl) rfl)) | (apply POpsD_run rfl rfl; focus (first | exact Cond_c (PO_conv_int rfl (IK rfl) (IK rfl) rfl) | exact Cond_c (PO_makeFunc rfl) | exact Cond_c (PO_buildSlice rfl (EL rfl) (SZ rfl) (AG rfl) (ZR rfl) rfl rfl rfl rfl rfl rfl rfl) | exact Cond_f (fun _ => PO_conv_int rfl (IK rfl) (IK rfl) rfl) | exact Cond_f (fun _ => PO_makeFunc rfl) | exact Cond_f (fun _ => PO_buildSlice rfl (EL rfl) (SZ rfl) (AG rfl) (ZR rfl) rfl rfl rfl rfl rfl rfl rfl) | exact Cond_f (fun _ => PO_nilCheck rfl rfl) | exact Cond_f (fun _ => PO_conv_int rfl (IK rfl) (IK rfl) rfl))) | refine PW_seq_unless [11] rfl ?_ | refine PW_region ?_ | refine PW_draw_all mixed (by kernel_rfl) ?_ | refine PW_block ?_ | (refine PW_skip ?_; try show PW _ _ _ _ _ _) | (refine PW_exit ?_; try show PW _ _ _ _ _ _) | (refine PW_ret ?_; try show PW _ _ _ _ _ _) | refine PW_cond_t rfl ?_ | refine PW_cond_f rfl ?_))
      refine PW_freeze 0 rfl (PW_weak (env' := slots [(9, .g (.sl (bys (fl l n x 4))))]) (H' := ⟨[[.g (.int .i64 tag), .g (.int .i64 tn), .g (.str text), .g (.sl (Tr.gs kids))]], [], [.gone (0 + l.length + 1)]⟩) (SlotsOk.le ⟨.inl ?_, trivial⟩) (HLe.of_eq rfl) ?_)
      · show frz 0 (0 + l.length) _ (.mar 0 (0 + l.length)) = _
        simp [frz]
      (repeat' (first | (first | (refine POps_nil ?_; try show PW _ _ _ _ _ _) | (refine POpsD_nil ?_; try show PW _ _ _ _ _ _) | refine runO_ok tabOk 300 rfl rfl ?_ | refine runO_ok tabOk 6 rfl rfl ?_ | refine runO_ok tabOk 1 rfl rfl ?_ | refine runD_ok tabOk 300 rfl rfl ?_ | refine runD_ok tabOk 6 rfl rfl ?_ | refine runD_ok tabOk 1 rfl rfl ?_ | (apply POps_run rfl rfl; focus (first | exact call_pure rfl rfl (EN rfl) (hp) rfl rfl rfl | exact PO_conv_int rfl (IK rfl) (IK rfl) rfl | exact PO_makeFunc rfl | exact PO_buildSlice rfl (EL rfl) (SZ rfl) (AG rfl) (ZR rfl) rfl rfl rfl rfl rfl rfl rfl | exact PO_nilCheck rfl rfl | exact PO_conv_int rfl (IK rfl) (IK rfl) rfl)) | (apply POpsD_run rfl rfl; focus (first | exact Cond_c (call_pure rfl rfl (EN rfl) (hp) rfl rfl rfl) | exact Cond_c (PO_conv_int rfl (IK rfl) (IK rfl) rfl) | exact Cond_c (PO_makeFunc rfl) | exact Cond_c (PO_buildSlice rfl (EL rfl) (SZ rfl) (AG rfl) (ZR rfl) rfl rfl rfl rfl rfl rfl rfl) | exact Cond_f (fun _ => call_pure rfl rfl (EN rfl) (hp) rfl rfl rfl) | exact Cond_f (fun _ => PO_conv_int rfl (IK rfl) (IK rfl) rfl) | exact Cond_f (fun _ => PO_makeFunc rfl) | exact Cond_f (fun _ => PO_buildSlice rfl (EL rfl) (SZ rfl) (AG rfl) (ZR rfl) rfl rfl rfl rfl rfl rfl rfl) | exact Cond_f (fun _ => PO_nilCheck rfl rfl) | exact Cond_f (fun _ => PO_conv_int rfl (IK rfl) (IK rfl) rfl))) | refine PW_seq ?_ | refine PW_region ?_ | refine PW_draw_all mixed (by kernel_rfl) ?_ | refine PW_block ?_ | (refine PW_skip ?_; try show PW _ _ _ _ _ _) | (refine PW_exit ?_; try show PW _ _ _ _ _ _) | (refine PW_ret ?_; try show PW _ _ _ _ _ _) | refine PW_cond_t rfl ?_ | refine PW_cond_f rfl ?_) | refine POps_split rfl rfl (fun h => ?_) (fun h => ?_) | refine POpsD_split rfl rfl (fun h => ?_) (fun h => ?_) | refine PW_cond rfl (fun h => ?_) (fun h => ?_)))
      · (first | refine Ret_int (resVs_cons resV_tmp resVs_nil) rfl ?_ | refine Ret_bool (resVs_cons resV_tmp resVs_nil) rfl ?_ | refine Ret_g (resVs_cons resV_tmp resVs_nil) rfl ?_ | refine Ret_int (resVs_cons (resV_agg (AG rfl) (SZ rfl) rfl rfl (Nat.le_of_ble_eq_true rfl)) resVs_nil) rfl ?_ | refine Ret_bool (resVs_cons (resV_agg (AG rfl) (SZ rfl) rfl rfl (Nat.le_of_ble_eq_true rfl)) resVs_nil) rfl ?_ | refine Ret_g (resVs_cons (resV_agg (AG rfl) (SZ rfl) rfl rfl (Nat.le_of_ble_eq_true rfl)) resVs_nil) rfl ?_)
        rfl
      · exact absurd (by simpa [bne] using h) hg
end Go.Proofs.Ytffpepmfdjjjaaa

namespace Go.Proofs.Ytffpepmfdjjjaaa
open Go.Pure Go.ChangeShapes Go.WideShapes Go.ChangeAt Go.RowKit

set_option maxRecDepth 100000 in
theorem wireGuards_lifted (os : Os) (started : os.Started) (H : Type) (enc : TypeId × Value → H) (F : Stop.Interp) :
    ReturnsInHanded {} Try.checked os 6 .any ((Rows.OpenSpec.upto Rows.wireGuardsSpec).pre6 enc Try.prog Try.f6 Rows.wireGuardsUptoRow.domain false) (((Rows.OpenSpec.upto Rows.wireGuardsSpec).at F).post enc Try.prog Try.f6 false true false false) := by
  refine returnsInHanded_of_cond (C := Try.checked) (s := Rows.OpenSpec.upto Rows.wireGuardsSpec) (k := Rows.uptoSmall) rfl own started (by kernel_rfl) Try.func6
    (OpenSpec.witness (enc := enc) (C := Try.checked) (s := Rows.OpenSpec.upto Rows.wireGuardsSpec) (k := Rows.uptoSmall) rfl false ⟨#[], #[.agg #[.int .i64 0, .int .i64 0, .string ⟨#[]⟩, .slice none 0 0], .int .i64 0, .int .u32 0], []⟩ 8 (by kernel_rfl) (by kernel_rfl) (by kernel_rfl)
      (x := ([.agg [.lit (.int .i64 0), .lit (.int .i64 0), .lit (.string []), .nil], .lit (.int .i64 0), .lit (.int .u32 0)], [], [])) (by kernel_rfl) rfl (by kernel_rfl)) ?_
  intro W base args ds gs before hval hW _ hk _
  refine law_calls (s := Rows.wireGuardsSpec) (set := [2, 3, 9, 28, 30, 40]) (B := 4) (by kernel_rfl) (by kernel_rfl) laidOut rfl rfl Try.underlying4 (fun ds hl => ?_) W base args ds gs before hval hW (fun xs hl hl2 hD hT => ?_)
  · match ds, hl with
    | [a0, a1, a2], _ => rfl
  · match xs, hl with
    | [a0, a1, a2], _ =>
      have hbk := bulk_all hl2 hD
      have hs : Rows.uptoBulkAll (ds ++ gs) ≤ 1048576 := of_decide_eq_true hk
      rw [bulkAll_append] at hs
      obtain ⟨t, rfl, ht1, ht2⟩ := tree_inv _ _ (Nat.le_refl _) (hT 0 30 _ rfl rfl)
      obtain ⟨at_, rfl, _⟩ := GT.int_inv Try.underlying3 (hT 1 3 _ rfl rfl)
      obtain ⟨x, rfl, hx⟩ := GT.int_inv Try.underlying40 (hT 2 40 _ rfl rfl)
      have hr : 0 ≤ x ∧ x ≤ 4294967295 := by simpa [Lit.wf, IntKind.min, IntKind.max, IntKind.signed, IntKind.bits] using hx
      have hxe : GV.int .u32 x = w32 (BitVec.ofNat 32 x.toNat) := by unfold w32; congr 1; simp; omega
      rw [hxe]
      have he := enc_bulk t
      simp only [gbulks] at hbk
      obtain ⟨tag, tn, text, kids⟩ := t
      exact guards_pc tag tn text kids at_ (BitVec.ofNat 32 x.toNat) ht1 (by omega)

theorem wireGuards_holds : Rows.WireGuardsUptoSaid :=
  OpenClaim.holds_of_cond 6 Try.f6 rfl rfl rfl rfl rfl rfl rfl ⟨rfl, rfl, rfl, rfl, rfl⟩ rfl rfl rfl rfl rfl (by kernel_rfl) Try.func6 (by kernel_rfl)
    (of_decide_eq_true (by kernel_rfl)) (by unfold Func.isWrapper; first | (rw [if_pos (by decide +kernel)]; kernel_rfl) | (rw [if_neg (by decide +kernel)]; exact ⟨rfl, rfl⟩))
    (fun os started H enc _ F => wireGuards_lifted os started H enc F)
#print axioms wireGuards_holds
end Go.Proofs.Ytffpepmfdjjjaaa
