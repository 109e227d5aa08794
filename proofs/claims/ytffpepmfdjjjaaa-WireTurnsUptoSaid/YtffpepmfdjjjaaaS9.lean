import Derived.Test.YtffpepmfdjjjaaaS8
namespace Go.Proofs.Ytffpepmfdjjjaaa
open Go.Pure
attribute [local irreducible] PW POps POpsD PO PC Cond

/-- The next byte; none: bad. -/
def rdByte : List UInt8 → Bool → Nat × List UInt8 × Bool
  | [], _ => (0, [], true)
  | c :: r, b => (c.toNat, r, b)
def rdH (l : List UInt8) (b : Bool) : PH := ⟨[[.g (.sl (bys l)), .g (.bool b)]], [], []⟩

set_option maxRecDepth 100000 in
set_option maxHeartbeats 4000000 in
theorem byte_pc : ∀ (l : List UInt8) (b : Bool), PC Try.prog 81 [.ptr 0 0] (rdH l b) (.g (.int .u8 (rdByte l b).1)) (rdH (rdByte l b).2.1 (rdByte l b).2.2)
  | [], b => by
    refine PC_of_PW Try.func81 rfl rfl (rs := _) rfl (Nat.le_of_ble_eq_true (by kernel_rfl)) ?_
    (repeat (first | (refine POps_nil ?_; try show PW _ _ _ _ _ _) | (refine POpsD_nil ?_; try show PW _ _ _ _ _ _) | refine runO_ok tabOk 300 rfl rfl ?_ | refine runO_ok tabOk 6 rfl rfl ?_ | refine runO_ok tabOk 1 rfl rfl ?_ | refine runD_ok tabOk 300 rfl rfl ?_ | refine runD_ok tabOk 6 rfl rfl ?_ | refine runD_ok tabOk 1 rfl rfl ?_ | (apply POps_run rfl rfl; focus (first | exact PO_conv_int rfl (IK rfl) (IK rfl) rfl | exact PO_makeFunc rfl | exact PO_buildSlice rfl (EL rfl) (SZ rfl) (AG rfl) (ZR rfl) rfl rfl rfl rfl rfl rfl rfl | exact PO_nilCheck rfl rfl | exact PO_conv_int rfl (IK rfl) (IK rfl) rfl)) | (apply POpsD_run rfl rfl; focus (first | exact Cond_c (PO_conv_int rfl (IK rfl) (IK rfl) rfl) (by first | exact KEq.refl _ _ | (repeat (first | exact trivial | refine And.intro rfl ?_ | refine And.intro trivial ?_))) | exact Cond_c (PO_makeFunc rfl) (by first | exact KEq.refl _ _ | (repeat (first | exact trivial | refine And.intro rfl ?_ | refine And.intro trivial ?_))) | exact Cond_c (PO_buildSlice rfl (EL rfl) (SZ rfl) (AG rfl) (ZR rfl) rfl rfl rfl rfl rfl rfl rfl) (by first | exact KEq.refl _ _ | (repeat (first | exact trivial | refine And.intro rfl ?_ | refine And.intro trivial ?_))) | exact Cond_f (fun _ => PO_conv_int rfl (IK rfl) (IK rfl) rfl) | exact Cond_f (fun _ => PO_makeFunc rfl) | exact Cond_f (fun _ => PO_buildSlice rfl (EL rfl) (SZ rfl) (AG rfl) (ZR rfl) rfl rfl rfl rfl rfl rfl rfl) | exact Cond_f (fun _ => PO_nilCheck rfl rfl) | exact Cond_f (fun _ => PO_conv_int rfl (IK rfl) (IK rfl) rfl))) | refine PW_seq ?_ | refine PW_region ?_ | refine PW_draw_all mixed (by kernel_rfl) ?_ | refine PW_block ?_ | (refine PW_skip ?_; try show PW _ _ _ _ _ _) | (refine PW_exit ?_; try show PW _ _ _ _ _ _) | (refine PW_ret ?_; try show PW _ _ _ _ _ _) | refine PW_cond_t rfl ?_ | refine PW_cond_f rfl ?_))
    (first | refine Ret_box (resRs_cons resV_tmp resRs_nil) rfl rfl rfl rfl rfl rfl rfl rfl rfl ?_ ?_ ?_ rfl | refine Ret_box (resRs_cons (resV_agg (AG rfl) (SZ rfl) rfl rfl (Nat.le_of_ble_eq_true rfl)) resRs_nil) rfl rfl rfl rfl rfl rfl rfl rfl rfl ?_ ?_ ?_ rfl | refine Ret_box (resRs_cons resV_tmp (resRs_cons resV_tmp resRs_nil)) rfl rfl rfl rfl rfl rfl rfl rfl rfl ?_ ?_ ?_ rfl | refine Ret_box (resRs_cons (resV_agg (AG rfl) (SZ rfl) rfl rfl (Nat.le_of_ble_eq_true rfl)) (resRs_cons resV_tmp resRs_nil)) rfl rfl rfl rfl rfl rfl rfl rfl rfl ?_ ?_ ?_ rfl)
    · rfl
    · rfl
    · rfl
  | c :: r, b => by
    refine PC_of_PW Try.func81 rfl rfl (rs := _) rfl (Nat.le_of_ble_eq_true (by kernel_rfl)) ?_
    (repeat (first | (refine POps_nil ?_; try show PW _ _ _ _ _ _) | (refine POpsD_nil ?_; try show PW _ _ _ _ _ _) | refine runO_ok tabOk 300 rfl rfl ?_ | refine runO_ok tabOk 6 rfl rfl ?_ | refine runO_ok tabOk 1 rfl rfl ?_ | refine runD_ok tabOk 300 rfl rfl ?_ | refine runD_ok tabOk 6 rfl rfl ?_ | refine runD_ok tabOk 1 rfl rfl ?_ | (apply POps_run rfl rfl; focus (first | exact PO_conv_int rfl (IK rfl) (IK rfl) rfl | exact PO_makeFunc rfl | exact PO_buildSlice rfl (EL rfl) (SZ rfl) (AG rfl) (ZR rfl) rfl rfl rfl rfl rfl rfl rfl | exact PO_nilCheck rfl rfl | exact PO_conv_int rfl (IK rfl) (IK rfl) rfl)) | (apply POpsD_run rfl rfl; focus (first | exact Cond_c (PO_conv_int rfl (IK rfl) (IK rfl) rfl) (by first | exact KEq.refl _ _ | (repeat (first | exact trivial | refine And.intro rfl ?_ | refine And.intro trivial ?_))) | exact Cond_c (PO_makeFunc rfl) (by first | exact KEq.refl _ _ | (repeat (first | exact trivial | refine And.intro rfl ?_ | refine And.intro trivial ?_))) | exact Cond_c (PO_buildSlice rfl (EL rfl) (SZ rfl) (AG rfl) (ZR rfl) rfl rfl rfl rfl rfl rfl rfl) (by first | exact KEq.refl _ _ | (repeat (first | exact trivial | refine And.intro rfl ?_ | refine And.intro trivial ?_))) | exact Cond_f (fun _ => PO_conv_int rfl (IK rfl) (IK rfl) rfl) | exact Cond_f (fun _ => PO_makeFunc rfl) | exact Cond_f (fun _ => PO_buildSlice rfl (EL rfl) (SZ rfl) (AG rfl) (ZR rfl) rfl rfl rfl rfl rfl rfl rfl) | exact Cond_f (fun _ => PO_nilCheck rfl rfl) | exact Cond_f (fun _ => PO_conv_int rfl (IK rfl) (IK rfl) rfl))) | refine PW_seq ?_ | refine PW_region ?_ | refine PW_draw_all mixed (by kernel_rfl) ?_ | refine PW_block ?_ | (refine PW_skip ?_; try show PW _ _ _ _ _ _) | (refine PW_exit ?_; try show PW _ _ _ _ _ _) | (refine PW_ret ?_; try show PW _ _ _ _ _ _) | refine PW_cond_t rfl ?_ | refine PW_cond_f rfl ?_))
    have hg : (bys (c :: r))[(0 : Int).toNat]? = some (byteG c) := rfl
    have h2 : loOf (some (IntKind.i64, 1)) ≤ hiOf (bys (c :: r)).length none := by simp [loOf, hiOf, bys]; omega
    (repeat (first | (refine POps_nil ?_; try show PW _ _ _ _ _ _) | (refine POpsD_nil ?_; try show PW _ _ _ _ _ _) | refine runO_ok tabOk 300 rfl rfl ?_ | refine runO_ok tabOk 6 rfl rfl ?_ | refine runO_ok tabOk 1 rfl rfl ?_ | refine runD_ok tabOk 300 rfl rfl ?_ | refine runD_ok tabOk 6 rfl rfl ?_ | refine runD_ok tabOk 1 rfl rfl ?_ | (apply POps_run rfl rfl; focus (first | exact PO_indexAddr rfl (EL rfl) (SZ rfl) rfl rfl (Int.le_refl _) hg rfl | exact PO_slice_sl rfl (EL rfl) (SZ rfl) rfl rfl rfl (by decide) h2 (Int.le_refl _) (by intro x hx; obtain ⟨v, _, rfl⟩ := List.mem_map.1 hx; rfl) | exact PO_conv_int rfl (IK rfl) (IK rfl) rfl | exact PO_makeFunc rfl | exact PO_buildSlice rfl (EL rfl) (SZ rfl) (AG rfl) (ZR rfl) rfl rfl rfl rfl rfl rfl rfl | exact PO_nilCheck rfl rfl | exact PO_conv_int rfl (IK rfl) (IK rfl) rfl)) | (apply POpsD_run rfl rfl; focus (first | exact Cond_c (PO_indexAddr rfl (EL rfl) (SZ rfl) rfl rfl (Int.le_refl _) hg rfl) (by first | exact KEq.refl _ _ | (repeat (first | exact trivial | refine And.intro rfl ?_ | refine And.intro trivial ?_))) | exact Cond_c (PO_slice_sl rfl (EL rfl) (SZ rfl) rfl rfl rfl (by decide) h2 (Int.le_refl _) (by intro x hx; obtain ⟨v, _, rfl⟩ := List.mem_map.1 hx; rfl)) (by first | exact KEq.refl _ _ | (repeat (first | exact trivial | refine And.intro rfl ?_ | refine And.intro trivial ?_))) | exact Cond_c (PO_conv_int rfl (IK rfl) (IK rfl) rfl) (by first | exact KEq.refl _ _ | (repeat (first | exact trivial | refine And.intro rfl ?_ | refine And.intro trivial ?_))) | exact Cond_c (PO_makeFunc rfl) (by first | exact KEq.refl _ _ | (repeat (first | exact trivial | refine And.intro rfl ?_ | refine And.intro trivial ?_))) | exact Cond_c (PO_buildSlice rfl (EL rfl) (SZ rfl) (AG rfl) (ZR rfl) rfl rfl rfl rfl rfl rfl rfl) (by first | exact KEq.refl _ _ | (repeat (first | exact trivial | refine And.intro rfl ?_ | refine And.intro trivial ?_))) | exact Cond_f (fun _ => PO_indexAddr rfl (EL rfl) (SZ rfl) rfl rfl (Int.le_refl _) hg rfl) | exact Cond_f (fun _ => PO_slice_sl rfl (EL rfl) (SZ rfl) rfl rfl rfl (by decide) h2 (Int.le_refl _) (by intro x hx; obtain ⟨v, _, rfl⟩ := List.mem_map.1 hx; rfl)) | exact Cond_f (fun _ => PO_conv_int rfl (IK rfl) (IK rfl) rfl) | exact Cond_f (fun _ => PO_makeFunc rfl) | exact Cond_f (fun _ => PO_buildSlice rfl (EL rfl) (SZ rfl) (AG rfl) (ZR rfl) rfl rfl rfl rfl rfl rfl rfl) | exact Cond_f (fun _ => PO_nilCheck rfl rfl) | exact Cond_f (fun _ => PO_conv_int rfl (IK rfl) (IK rfl) rfl))) | refine PW_seq ?_ | refine PW_region ?_ | refine PW_draw_all mixed (by kernel_rfl) ?_ | refine PW_block ?_ | (refine PW_skip ?_; try show PW _ _ _ _ _ _) | (refine PW_exit ?_; try show PW _ _ _ _ _ _) | (refine PW_ret ?_; try show PW _ _ _ _ _ _) | refine PW_cond_t rfl ?_ | refine PW_cond_f rfl ?_))
    (first | refine Ret_box (resRs_cons resV_tmp resRs_nil) rfl rfl rfl rfl rfl rfl rfl rfl rfl ?_ ?_ ?_ rfl | refine Ret_box (resRs_cons (resV_agg (AG rfl) (SZ rfl) rfl rfl (Nat.le_of_ble_eq_true rfl)) resRs_nil) rfl rfl rfl rfl rfl rfl rfl rfl rfl ?_ ?_ ?_ rfl | refine Ret_box (resRs_cons resV_tmp (resRs_cons resV_tmp resRs_nil)) rfl rfl rfl rfl rfl rfl rfl rfl rfl ?_ ?_ ?_ rfl | refine Ret_box (resRs_cons (resV_agg (AG rfl) (SZ rfl) rfl rfl (Nat.le_of_ble_eq_true rfl)) (resRs_cons resV_tmp resRs_nil)) rfl rfl rfl rfl rfl rfl rfl rfl rfl ?_ ?_ ?_ rfl)
    · rfl
    · simp only [rdH, rdByte, loOf, hiOf]; simp [bys, List.take_of_length_le]
    · rfl

/-- Signs unfolded. -/
def unfold64 (x : Nat) : Int := if x % 2 = 0 then x / 2 else - (x / 2) - 1
theorem ofI (n : Nat) : BitVec.ofInt 64 (n : Int) = BitVec.ofNat 64 n := by simp
theorem unfold_eq (x : Nat) (hx : x < 2 ^ 64) : IntKind.i64.wrap (BitVec.ofInt IntKind.i64.bits (IntKind.i64.wrap ((x : Int).fdiv (2 ^ min (1 : Int).toNat IntKind.u64.bits))) ^^^
    BitVec.ofInt IntKind.i64.bits (IntKind.i64.wrap (0 - IntKind.i64.wrap (IntKind.u64.wrap (BitVec.ofInt IntKind.u64.bits (x : Int) &&& BitVec.ofInt IntKind.u64.bits 1).toNat)))).toNat = unfold64 x := by
  have e1 : (x : Int).fdiv (2 ^ min (1 : Int).toNat IntKind.u64.bits) = ((x / 2 : Nat) : Int) := by
    have : (2 : Int) ^ min (1 : Int).toNat IntKind.u64.bits = ((2 : Nat) : Int) := by decide
    rw [this, fdivN]
  rw [e1, wrap64 (n := ((x / 2 : Nat) : Int)) (by omega)]
  have e2 : (BitVec.ofInt IntKind.u64.bits (x : Int) &&& BitVec.ofInt IntKind.u64.bits 1).toNat = x % 2 := by
    show (BitVec.ofInt 64 (x : Int) &&& BitVec.ofInt 64 1).toNat = x % 2
    rw [ofI, show (BitVec.ofInt 64 1) = BitVec.ofNat 64 1 from rfl, BitVec.toNat_and, BitVec.toNat_ofNat, BitVec.toNat_ofNat, Nat.mod_eq_of_lt hx]
    exact Nat.and_one_is_mod x
  rw [e2]
  show IntKind.i64.wrap (BitVec.ofInt 64 _ ^^^ BitVec.ofInt 64 _).toNat = _
  rw [ofI]
  unfold unfold64
  rcases Nat.mod_two_eq_zero_or_one x with h | h
  · rw [h, if_pos rfl]
    have : IntKind.i64.wrap (0 - IntKind.i64.wrap (IntKind.u64.wrap ((0 : Nat) : Int))) = 0 := by decide
    rw [this]
    have : (BitVec.ofNat 64 (x / 2) ^^^ BitVec.ofInt 64 0).toNat = x / 2 := by
      simp; omega
    rw [this, wrap64 (by omega)]
    omega
  · rw [h, if_neg (by decide)]
    have : IntKind.i64.wrap (0 - IntKind.i64.wrap (IntKind.u64.wrap ((1 : Nat) : Int))) = -1 := by decide
    rw [this]
    have : (BitVec.ofNat 64 (x / 2) ^^^ BitVec.ofInt 64 (-1)).toNat = 18446744073709551615 - x / 2 := by
      have : BitVec.ofInt 64 (-1) = BitVec.allOnes 64 := by decide
      rw [this, BitVec.xor_allOnes, BitVec.toNat_not, BitVec.toNat_ofNat, Nat.mod_eq_of_lt (by omega)]
    rw [this]
    simp [IntKind.wrap, IntKind.bits, IntKind.signed]
    omega

set_option maxRecDepth 100000 in
set_option maxHeartbeats 4000000 in
theorem unfolded_pc (x : Nat) (hx : x < 2 ^ 64) : PC Try.prog 82 [.g (.int .u64 x)] ⟨[], [], []⟩ (.g (.int .i64 (unfold64 x))) ⟨[], [], []⟩ := by
  refine PC_of_PW Try.func82 rfl rfl (rs := _) rfl (Nat.le_of_ble_eq_true (by kernel_rfl)) ?_
  (repeat (first | (refine POps_nil ?_; try show PW _ _ _ _ _ _) | (refine POpsD_nil ?_; try show PW _ _ _ _ _ _) | refine runO_ok tabOk 300 rfl rfl ?_ | refine runO_ok tabOk 6 rfl rfl ?_ | refine runO_ok tabOk 1 rfl rfl ?_ | refine runD_ok tabOk 300 rfl rfl ?_ | refine runD_ok tabOk 6 rfl rfl ?_ | refine runD_ok tabOk 1 rfl rfl ?_ | (apply POps_run rfl rfl; focus (first | exact PO_shr rfl rfl rfl (by decide) | exact PO_conv_int rfl (IK rfl) (IK rfl) rfl | exact PO_makeFunc rfl | exact PO_buildSlice rfl (EL rfl) (SZ rfl) (AG rfl) (ZR rfl) rfl rfl rfl rfl rfl rfl rfl | exact PO_nilCheck rfl rfl | exact PO_conv_int rfl (IK rfl) (IK rfl) rfl)) | (apply POpsD_run rfl rfl; focus (first | exact Cond_c (PO_shr rfl rfl rfl (by decide)) (by first | exact KEq.refl _ _ | (repeat (first | exact trivial | refine And.intro rfl ?_ | refine And.intro trivial ?_))) | exact Cond_c (PO_conv_int rfl (IK rfl) (IK rfl) rfl) (by first | exact KEq.refl _ _ | (repeat (first | exact trivial | refine And.intro rfl ?_ | refine And.intro trivial ?_))) | exact Cond_c (PO_makeFunc rfl) (by first | exact KEq.refl _ _ | (repeat (first | exact trivial | refine And.intro rfl ?_ | refine And.intro trivial ?_))) | exact Cond_c (PO_buildSlice rfl (EL rfl) (SZ rfl) (AG rfl) (ZR rfl) rfl rfl rfl rfl rfl rfl rfl) (by first | exact KEq.refl _ _ | (repeat (first | exact trivial | refine And.intro rfl ?_ | refine And.intro trivial ?_))) | exact Cond_f (fun _ => PO_shr rfl rfl rfl (by decide)) | exact Cond_f (fun _ => PO_conv_int rfl (IK rfl) (IK rfl) rfl) | exact Cond_f (fun _ => PO_makeFunc rfl) | exact Cond_f (fun _ => PO_buildSlice rfl (EL rfl) (SZ rfl) (AG rfl) (ZR rfl) rfl rfl rfl rfl rfl rfl rfl) | exact Cond_f (fun _ => PO_nilCheck rfl rfl) | exact Cond_f (fun _ => PO_conv_int rfl (IK rfl) (IK rfl) rfl))) | refine PW_seq ?_ | refine PW_region ?_ | refine PW_draw_all mixed (by kernel_rfl) ?_ | refine PW_block ?_ | (refine PW_skip ?_; try show PW _ _ _ _ _ _) | (refine PW_exit ?_; try show PW _ _ _ _ _ _) | (refine PW_ret ?_; try show PW _ _ _ _ _ _) | refine PW_cond_t rfl ?_ | refine PW_cond_f rfl ?_))
  (first | refine Ret_int (resVs_cons resV_tmp resVs_nil) rfl ?_ | refine Ret_bool (resVs_cons resV_tmp resVs_nil) rfl ?_ | refine Ret_g (resVs_cons resV_tmp resVs_nil) rfl ?_ | refine Ret_int (resVs_cons (resV_agg (AG rfl) (SZ rfl) rfl rfl (Nat.le_of_ble_eq_true rfl)) resVs_nil) rfl ?_ | refine Ret_bool (resVs_cons (resV_agg (AG rfl) (SZ rfl) rfl rfl (Nat.le_of_ble_eq_true rfl)) resVs_nil) rfl ?_ | refine Ret_g (resVs_cons (resV_agg (AG rfl) (SZ rfl) rfl rfl (Nat.le_of_ble_eq_true rfl)) resVs_nil) rfl ?_)
  exact unfold_eq x hx

def numBad (k c : Nat) (b : Bool) : Bool := if (k = 9 ∧ 1 < c) ∨ (0 < k ∧ c = 0) then true else b
def numVal (k c x : Nat) : Nat := (x + c % 128 * 2 ^ (7 * k)) % 2 ^ 64
/-- A number in seven bits a byte: so many bytes may still come, so many have come. -/
def numGo : Nat → Nat → Nat → List UInt8 → Bool → Nat × List UInt8 × Bool
  | 0, _, _, l, _ => (0, l, true)
  | n + 1, k, x, l, b =>
    if (rdByte l b).1 < 128 ∨ numBad k (rdByte l b).1 (rdByte l b).2.2 = true then (numVal k (rdByte l b).1 x, (rdByte l b).2.1, numBad k (rdByte l b).1 (rdByte l b).2.2)
    else numGo n (k + 1) (numVal k (rdByte l b).1 x) (rdByte l b).2.1 (numBad k (rdByte l b).1 (rdByte l b).2.2)

theorem rdByte_lt (l : List UInt8) (b : Bool) : (rdByte l b).1 < 256 := by
  cases l with
  | nil => simp [rdByte]
  | cons c r => exact c.toNat_lt

theorem or_step (x c k : Nat) (hx : x < 2 ^ (7 * k)) (hc : c < 256) (hk : k ≤ 9) :
    IntKind.u64.wrap ((BitVec.ofInt IntKind.u64.bits (x : Int) ||| BitVec.ofInt IntKind.u64.bits (IntKind.u64.wrap (IntKind.u64.wrap (IntKind.u8.wrap ((BitVec.ofInt IntKind.u8.bits (c : Int) &&& BitVec.ofInt IntKind.u8.bits 127).toNat : Int)) * 2 ^ min (7 * (k : Int)).toNat IntKind.u64.bits))).toNat : Int)
      = ((numVal k c x : Nat) : Int) := by
  unfold numVal
  have e0 : IntKind.u8.wrap ((BitVec.ofInt IntKind.u8.bits (c : Int) &&& BitVec.ofInt IntKind.u8.bits 127).toNat : Int) = ((c % 128 : Nat) : Int) := by
    rw [u8wrap]
    have h1 : ∀ y : Fin 256, (BitVec.ofInt IntKind.u8.bits ((y.val : Nat) : Int) &&& BitVec.ofInt IntKind.u8.bits 127).toNat % 256 = y.val % 128 := by decide +kernel
    rw [h1 ⟨c, hc⟩]
  have u64n : ∀ n : Nat, IntKind.u64.wrap (n : Int) = ((n % 2 ^ 64 : Nat) : Int) := fun n => by
    simp [IntKind.wrap, IntKind.bits, IntKind.signed]
  have e1 : min (7 * (k : Int)).toNat IntKind.u64.bits = 7 * k := by
    have : IntKind.u64.bits = 64 := rfl
    rw [this]; omega
  have hpow : 2 ^ (7 * k) ≤ 2 ^ 63 := Nat.pow_le_pow_right (by decide) (by omega)
  rw [e0, e1, u64n (c % 128), Nat.mod_eq_of_lt (by omega : c % 128 < 2 ^ 64)]
  have e2 : ((c % 128 : Nat) : Int) * 2 ^ (7 * k) = ((c % 128 * 2 ^ (7 * k) : Nat) : Int) := by push_cast; rfl
  rw [e2, u64n]
  show IntKind.u64.wrap ((BitVec.ofInt 64 (x : Int) ||| BitVec.ofInt 64 ((c % 128 * 2 ^ (7 * k) % 2 ^ 64 : Nat) : Int)).toNat : Int) = _
  rw [ofI, ofI, u64n, BitVec.toNat_or, BitVec.toNat_ofNat, BitVec.toNat_ofNat, Nat.mod_eq_of_lt (by omega : x < 2 ^ 64), Nat.mod_mod]
  congr 1
  have hmod : c % 128 * 2 ^ (7 * k) % 2 ^ 64 = 2 ^ (7 * k) * (c % 128 % 2 ^ (64 - 7 * k)) := by
    have : (2 : Nat) ^ 64 = 2 ^ (7 * k) * 2 ^ (64 - 7 * k) := by rw [← Nat.pow_add]; congr 1; omega
    rw [Nat.mul_comm (c % 128), this, Nat.mul_mod_mul_left]
  have hor : (x ||| 2 ^ (7 * k) * (c % 128 % 2 ^ (64 - 7 * k))) = 2 ^ (7 * k) * (c % 128 % 2 ^ (64 - 7 * k)) + x := by
    rw [Nat.or_comm, ← Nat.two_pow_add_eq_or_of_lt hx]
  rw [hmod, hor, Nat.add_comm, ← hmod, Nat.add_mod, Nat.mod_mod, ← Nat.add_mod]

set_option maxRecDepth 100000 in
set_option maxHeartbeats 4000000 in
theorem number_rd (l : List UInt8) (b : Bool) : PC Try.prog 83 [.ptr 0 0] (rdH l b) (.g (.int .u64 (numGo 10 0 0 l b).1)) (rdH (numGo 10 0 0 l b).2.1 (numGo 10 0 0 l b).2.2) := by
  refine PC_of_PW Try.func83 rfl rfl (rs := _) rfl (Nat.le_of_ble_eq_true (by kernel_rfl)) ?_
  (repeat (first | (refine POps_nil ?_; try show PW _ _ _ _ _ _) | (refine POpsD_nil ?_; try show PW _ _ _ _ _ _) | refine runO_ok tabOk 300 rfl rfl ?_ | refine runO_ok tabOk 6 rfl rfl ?_ | refine runO_ok tabOk 1 rfl rfl ?_ | refine runD_ok tabOk 300 rfl rfl ?_ | refine runD_ok tabOk 6 rfl rfl ?_ | refine runD_ok tabOk 1 rfl rfl ?_ | (apply POps_run rfl rfl; focus (first | exact PO_conv_int rfl (IK rfl) (IK rfl) rfl | exact PO_makeFunc rfl | exact PO_buildSlice rfl (EL rfl) (SZ rfl) (AG rfl) (ZR rfl) rfl rfl rfl rfl rfl rfl rfl | exact PO_nilCheck rfl rfl | exact PO_conv_int rfl (IK rfl) (IK rfl) rfl)) | (apply POpsD_run rfl rfl; focus (first | exact Cond_c (PO_conv_int rfl (IK rfl) (IK rfl) rfl) (by first | exact KEq.refl _ _ | (repeat (first | exact trivial | refine And.intro rfl ?_ | refine And.intro trivial ?_))) | exact Cond_c (PO_makeFunc rfl) (by first | exact KEq.refl _ _ | (repeat (first | exact trivial | refine And.intro rfl ?_ | refine And.intro trivial ?_))) | exact Cond_c (PO_buildSlice rfl (EL rfl) (SZ rfl) (AG rfl) (ZR rfl) rfl rfl rfl rfl rfl rfl rfl) (by first | exact KEq.refl _ _ | (repeat (first | exact trivial | refine And.intro rfl ?_ | refine And.intro trivial ?_))) | exact Cond_f (fun _ => PO_conv_int rfl (IK rfl) (IK rfl) rfl) | exact Cond_f (fun _ => PO_makeFunc rfl) | exact Cond_f (fun _ => PO_buildSlice rfl (EL rfl) (SZ rfl) (AG rfl) (ZR rfl) rfl rfl rfl rfl rfl rfl rfl) | exact Cond_f (fun _ => PO_nilCheck rfl rfl) | exact Cond_f (fun _ => PO_conv_int rfl (IK rfl) (IK rfl) rfl))) | refine PW_seq ?_ | refine PW_region ?_ | refine PW_draw_all mixed (by kernel_rfl) ?_ | refine PW_block ?_ | (refine PW_skip ?_; try show PW _ _ _ _ _ _) | (refine PW_exit ?_; try show PW _ _ _ _ _ _) | (refine PW_ret ?_; try show PW _ _ _ _ _ _) | refine PW_cond_t rfl ?_ | refine PW_cond_f rfl ?_))
  refine PW_loop (S := Nat × Nat × List UInt8 × Bool) (fun s => slots [(0, .ptr 0 0), (4, .g (.int .i64 (7 * (s.1 : Int)))), (3, .g (.int .u64 s.2.1))]) (fun s => rdH s.2.2.1 s.2.2.2)
    (fun s => s.1 ≤ 10 ∧ s.2.1 < 2 ^ (7 * s.1) ∧ numGo (10 - s.1) s.1 s.2.1 s.2.2.1 s.2.2.2 = numGo 10 0 0 l b) (fun s => 10 - s.1) (0, 0, l, b) ⟨Nat.zero_le _, Nat.one_pos, rfl⟩
    (SlotsOk.le ⟨.inl rfl, .inl rfl, .inl rfl, trivial⟩) (HLe.refl _) (fun s hs => ?_)
  obtain ⟨k, x, l1, b1⟩ := s
  obtain ⟨hk, hx, hgo⟩ := hs
  dsimp only at hk hx hgo
  (repeat (first | (refine POps_nil ?_; try show PW _ _ _ _ _ _) | (refine POpsD_nil ?_; try show PW _ _ _ _ _ _) | refine runO_ok tabOk 300 rfl rfl ?_ | refine runO_ok tabOk 6 rfl rfl ?_ | refine runO_ok tabOk 1 rfl rfl ?_ | refine runD_ok tabOk 300 rfl rfl ?_ | refine runD_ok tabOk 6 rfl rfl ?_ | refine runD_ok tabOk 1 rfl rfl ?_ | (apply POps_run rfl rfl; focus (first | exact PO_conv_int rfl (IK rfl) (IK rfl) rfl | exact PO_makeFunc rfl | exact PO_buildSlice rfl (EL rfl) (SZ rfl) (AG rfl) (ZR rfl) rfl rfl rfl rfl rfl rfl rfl | exact PO_nilCheck rfl rfl | exact PO_conv_int rfl (IK rfl) (IK rfl) rfl)) | (apply POpsD_run rfl rfl; focus (first | exact Cond_c (PO_conv_int rfl (IK rfl) (IK rfl) rfl) (by first | exact KEq.refl _ _ | (repeat (first | exact trivial | refine And.intro rfl ?_ | refine And.intro trivial ?_))) | exact Cond_c (PO_makeFunc rfl) (by first | exact KEq.refl _ _ | (repeat (first | exact trivial | refine And.intro rfl ?_ | refine And.intro trivial ?_))) | exact Cond_c (PO_buildSlice rfl (EL rfl) (SZ rfl) (AG rfl) (ZR rfl) rfl rfl rfl rfl rfl rfl rfl) (by first | exact KEq.refl _ _ | (repeat (first | exact trivial | refine And.intro rfl ?_ | refine And.intro trivial ?_))) | exact Cond_f (fun _ => PO_conv_int rfl (IK rfl) (IK rfl) rfl) | exact Cond_f (fun _ => PO_makeFunc rfl) | exact Cond_f (fun _ => PO_buildSlice rfl (EL rfl) (SZ rfl) (AG rfl) (ZR rfl) rfl rfl rfl rfl rfl rfl rfl) | exact Cond_f (fun _ => PO_nilCheck rfl rfl) | exact Cond_f (fun _ => PO_conv_int rfl (IK rfl) (IK rfl) rfl))) | refine PW_seq ?_ | refine PW_region ?_ | refine PW_draw_all mixed (by kernel_rfl) ?_ | refine PW_block ?_ | (refine PW_skip ?_; try show PW _ _ _ _ _ _) | (refine PW_exit ?_; try show PW _ _ _ _ _ _) | (refine PW_ret ?_; try show PW _ _ _ _ _ _) | refine PW_cond_t rfl ?_ | refine PW_cond_f rfl ?_))
  (first | refine POps_split rfl rfl (fun h => ?_) (fun h => ?_) | refine POpsD_split rfl rfl (fun h => ?_) (fun h => ?_) | refine PW_cond rfl (fun h => ?_) (fun h => ?_))
  · have hk9 : k ≤ 9 := by have := of_decide_eq_true h; omega
    have hn : numGo 10 0 0 l b = numGo (10 - k - 1 + 1) k x l1 b1 := by rw [← hgo]; congr 1; omega
    replace hn := hn.trans (numGo.eq_2 ..)
    have hb := byte_pc l1 b1
    clear h
    (repeat (first | (refine POps_nil ?_; try show PW _ _ _ _ _ _) | (refine POpsD_nil ?_; try show PW _ _ _ _ _ _) | refine runO_ok tabOk 300 rfl rfl ?_ | refine runO_ok tabOk 6 rfl rfl ?_ | refine runO_ok tabOk 1 rfl rfl ?_ | refine runD_ok tabOk 300 rfl rfl ?_ | refine runD_ok tabOk 6 rfl rfl ?_ | refine runD_ok tabOk 1 rfl rfl ?_ | (apply POps_run rfl rfl; focus (first | exact call_box [] rfl rfl (EN rfl) (hb) rfl rfl rfl rfl rfl rfl rfl rfl rfl rfl rfl | exact PO_conv_int rfl (IK rfl) (IK rfl) rfl | exact PO_makeFunc rfl | exact PO_buildSlice rfl (EL rfl) (SZ rfl) (AG rfl) (ZR rfl) rfl rfl rfl rfl rfl rfl rfl | exact PO_nilCheck rfl rfl | exact PO_conv_int rfl (IK rfl) (IK rfl) rfl)) | (apply POpsD_run rfl rfl; focus (first | exact Cond_c (call_box [] rfl rfl (EN rfl) (hb) rfl rfl rfl rfl rfl rfl rfl rfl rfl rfl rfl) (by first | exact KEq.refl _ _ | (repeat (first | exact trivial | refine And.intro rfl ?_ | refine And.intro trivial ?_))) | exact Cond_c (PO_conv_int rfl (IK rfl) (IK rfl) rfl) (by first | exact KEq.refl _ _ | (repeat (first | exact trivial | refine And.intro rfl ?_ | refine And.intro trivial ?_))) | exact Cond_c (PO_makeFunc rfl) (by first | exact KEq.refl _ _ | (repeat (first | exact trivial | refine And.intro rfl ?_ | refine And.intro trivial ?_))) | exact Cond_c (PO_buildSlice rfl (EL rfl) (SZ rfl) (AG rfl) (ZR rfl) rfl rfl rfl rfl rfl rfl rfl) (by first | exact KEq.refl _ _ | (repeat (first | exact trivial | refine And.intro rfl ?_ | refine And.intro trivial ?_))) | exact Cond_f (fun _ => call_box [] rfl rfl (EN rfl) (hb) rfl rfl rfl rfl rfl rfl rfl rfl rfl rfl rfl) | exact Cond_f (fun _ => PO_conv_int rfl (IK rfl) (IK rfl) rfl) | exact Cond_f (fun _ => PO_makeFunc rfl) | exact Cond_f (fun _ => PO_buildSlice rfl (EL rfl) (SZ rfl) (AG rfl) (ZR rfl) rfl rfl rfl rfl rfl rfl rfl) | exact Cond_f (fun _ => PO_nilCheck rfl rfl) | exact Cond_f (fun _ => PO_conv_int rfl (IK rfl) (IK rfl) rfl))) | refine PW_seq_unless [6] rfl ?_ | refine PW_region ?_ | refine PW_draw_all mixed (by kernel_rfl) ?_ | refine PW_block ?_ | (refine PW_skip ?_; try show PW _ _ _ _ _ _) | (refine PW_exit ?_; try show PW _ _ _ _ _ _) | (refine PW_ret ?_; try show PW _ _ _ _ _ _) | refine PW_cond_t rfl ?_ | refine PW_cond_f rfl ?_))
    refine PW_cut (slots [(0, .ptr 0 0), (4, .g (.int .i64 (7 * (k : Int)))), (3, .g (.int .u64 x)), (5, .g (.int .u8 (rdByte l1 b1).1))]) (rdH (rdByte l1 b1).2.1 (numBad k (rdByte l1 b1).1 (rdByte l1 b1).2.2)) ?_ ?_
    · (repeat' (first | (first | (refine POps_nil ?_; try show PW _ _ _ _ _ _) | (refine POpsD_nil ?_; try show PW _ _ _ _ _ _) | refine runO_ok tabOk 300 rfl rfl ?_ | refine runO_ok tabOk 6 rfl rfl ?_ | refine runO_ok tabOk 1 rfl rfl ?_ | refine runD_ok tabOk 300 rfl rfl ?_ | refine runD_ok tabOk 6 rfl rfl ?_ | refine runD_ok tabOk 1 rfl rfl ?_ | (apply POps_run rfl rfl; focus (first | exact PO_conv_int rfl (IK rfl) (IK rfl) rfl | exact PO_makeFunc rfl | exact PO_buildSlice rfl (EL rfl) (SZ rfl) (AG rfl) (ZR rfl) rfl rfl rfl rfl rfl rfl rfl | exact PO_nilCheck rfl rfl | exact PO_conv_int rfl (IK rfl) (IK rfl) rfl)) | (apply POpsD_run rfl rfl; focus (first | exact Cond_c (PO_conv_int rfl (IK rfl) (IK rfl) rfl) (by first | exact KEq.refl _ _ | (repeat (first | exact trivial | refine And.intro rfl ?_ | refine And.intro trivial ?_))) | exact Cond_c (PO_makeFunc rfl) (by first | exact KEq.refl _ _ | (repeat (first | exact trivial | refine And.intro rfl ?_ | refine And.intro trivial ?_))) | exact Cond_c (PO_buildSlice rfl (EL rfl) (SZ rfl) (AG rfl) (ZR rfl) rfl rfl rfl rfl rfl rfl rfl) (by first | exact KEq.refl _ _ | (repeat (first | exact trivial | refine And.intro rfl ?_ | refine And.intro trivial ?_))) | exact Cond_f (fun _ => PO_conv_int rfl (IK rfl) (IK rfl) rfl) | exact Cond_f (fun _ => PO_makeFunc rfl) | exact Cond_f (fun _ => PO_buildSlice rfl (EL rfl) (SZ rfl) (AG rfl) (ZR rfl) rfl rfl rfl rfl rfl rfl rfl) | exact Cond_f (fun _ => PO_nilCheck rfl rfl) | exact Cond_f (fun _ => PO_conv_int rfl (IK rfl) (IK rfl) rfl))) | refine PW_seq ?_ | refine PW_region ?_ | refine PW_draw_all mixed (by kernel_rfl) ?_ | refine PW_block ?_ | (refine PW_skip ?_; try show PW _ _ _ _ _ _) | (refine PW_exit ?_; try show PW _ _ _ _ _ _) | (refine PW_ret ?_; try show PW _ _ _ _ _ _) | refine PW_cond_t rfl ?_ | refine PW_cond_f rfl ?_) | refine POps_split rfl rfl (fun h => ?_) (fun h => ?_) | refine POpsD_split rfl rfl (fun h => ?_) (fun h => ?_) | refine PW_cond rfl (fun h => ?_) (fun h => ?_)))
      all_goals ((refine ⟨SlotsOk.le ?_, HLe.of_eq ?_⟩; (repeat (first | exact meet_nil | refine meet_cons (.inl rfl) ?_ | refine meet_cons (.inr rfl) ?_ | refine meet_cons (.inl (by simp_all)) ?_))); (try simp only [decide_eq_true_eq, decide_eq_false_iff_not, beq_iff_eq, bne_iff_ne, beq_eq_false_iff_ne, bne_eq_false_iff_eq, Bool.not_eq_true', Bool.not_eq_false', gt_iff_lt, ge_iff_le, ne_eq] at *); unfold numBad; first | (rw [if_pos (by omega)]; rfl) | (rw [if_neg (by omega)]; rfl))
    · (repeat (first | (refine POps_nil ?_; try show PW _ _ _ _ _ _) | (refine POpsD_nil ?_; try show PW _ _ _ _ _ _) | refine runO_ok tabOk 300 rfl rfl ?_ | refine runO_ok tabOk 6 rfl rfl ?_ | refine runO_ok tabOk 1 rfl rfl ?_ | refine runD_ok tabOk 300 rfl rfl ?_ | refine runD_ok tabOk 6 rfl rfl ?_ | refine runD_ok tabOk 1 rfl rfl ?_ | (apply POps_run rfl rfl; focus (first | exact PO_shl rfl rfl rfl (by omega) | exact PO_conv_int rfl (IK rfl) (IK rfl) rfl | exact PO_makeFunc rfl | exact PO_buildSlice rfl (EL rfl) (SZ rfl) (AG rfl) (ZR rfl) rfl rfl rfl rfl rfl rfl rfl | exact PO_nilCheck rfl rfl | exact PO_conv_int rfl (IK rfl) (IK rfl) rfl)) | (apply POpsD_run rfl rfl; focus (first | exact Cond_c (PO_shl rfl rfl rfl (by omega)) (by first | exact KEq.refl _ _ | (repeat (first | exact trivial | refine And.intro rfl ?_ | refine And.intro trivial ?_))) | exact Cond_c (PO_conv_int rfl (IK rfl) (IK rfl) rfl) (by first | exact KEq.refl _ _ | (repeat (first | exact trivial | refine And.intro rfl ?_ | refine And.intro trivial ?_))) | exact Cond_c (PO_makeFunc rfl) (by first | exact KEq.refl _ _ | (repeat (first | exact trivial | refine And.intro rfl ?_ | refine And.intro trivial ?_))) | exact Cond_c (PO_buildSlice rfl (EL rfl) (SZ rfl) (AG rfl) (ZR rfl) rfl rfl rfl rfl rfl rfl rfl) (by first | exact KEq.refl _ _ | (repeat (first | exact trivial | refine And.intro rfl ?_ | refine And.intro trivial ?_))) | exact Cond_f (fun _ => PO_shl rfl rfl rfl (by omega)) | exact Cond_f (fun _ => PO_conv_int rfl (IK rfl) (IK rfl) rfl) | exact Cond_f (fun _ => PO_makeFunc rfl) | exact Cond_f (fun _ => PO_buildSlice rfl (EL rfl) (SZ rfl) (AG rfl) (ZR rfl) rfl rfl rfl rfl rfl rfl rfl) | exact Cond_f (fun _ => PO_nilCheck rfl rfl) | exact Cond_f (fun _ => PO_conv_int rfl (IK rfl) (IK rfl) rfl))) | refine PW_seq_unless [9] rfl ?_ | refine PW_region ?_ | refine PW_draw_all mixed (by kernel_rfl) ?_ | refine PW_block ?_ | (refine PW_skip ?_; try show PW _ _ _ _ _ _) | (refine PW_exit ?_; try show PW _ _ _ _ _ _) | (refine PW_ret ?_; try show PW _ _ _ _ _ _) | refine PW_cond_t rfl ?_ | refine PW_cond_f rfl ?_))
      have ho := or_step x (rdByte l1 b1).1 k hx (rdByte_lt l1 b1) hk9
      (repeat' (first | (first | (refine POps_nil ?_; try show PW _ _ _ _ _ _) | (refine POpsD_nil ?_; try show PW _ _ _ _ _ _) | refine runO_ok tabOk 300 rfl rfl ?_ | refine runO_ok tabOk 6 rfl rfl ?_ | refine runO_ok tabOk 1 rfl rfl ?_ | refine runD_ok tabOk 300 rfl rfl ?_ | refine runD_ok tabOk 6 rfl rfl ?_ | refine runD_ok tabOk 1 rfl rfl ?_ | (apply POps_run rfl rfl; focus (first | exact PO_conv_int rfl (IK rfl) (IK rfl) rfl | exact PO_makeFunc rfl | exact PO_buildSlice rfl (EL rfl) (SZ rfl) (AG rfl) (ZR rfl) rfl rfl rfl rfl rfl rfl rfl | exact PO_nilCheck rfl rfl | exact PO_conv_int rfl (IK rfl) (IK rfl) rfl)) | (apply POpsD_run rfl rfl; focus (first | exact Cond_c (PO_conv_int rfl (IK rfl) (IK rfl) rfl) (by first | exact KEq.refl _ _ | (repeat (first | exact trivial | refine And.intro rfl ?_ | refine And.intro trivial ?_))) | exact Cond_c (PO_makeFunc rfl) (by first | exact KEq.refl _ _ | (repeat (first | exact trivial | refine And.intro rfl ?_ | refine And.intro trivial ?_))) | exact Cond_c (PO_buildSlice rfl (EL rfl) (SZ rfl) (AG rfl) (ZR rfl) rfl rfl rfl rfl rfl rfl rfl) (by first | exact KEq.refl _ _ | (repeat (first | exact trivial | refine And.intro rfl ?_ | refine And.intro trivial ?_))) | exact Cond_f (fun _ => PO_conv_int rfl (IK rfl) (IK rfl) rfl) | exact Cond_f (fun _ => PO_makeFunc rfl) | exact Cond_f (fun _ => PO_buildSlice rfl (EL rfl) (SZ rfl) (AG rfl) (ZR rfl) rfl rfl rfl rfl rfl rfl rfl) | exact Cond_f (fun _ => PO_nilCheck rfl rfl) | exact Cond_f (fun _ => PO_conv_int rfl (IK rfl) (IK rfl) rfl))) | refine PW_seq ?_ | refine PW_region ?_ | refine PW_draw_all mixed (by kernel_rfl) ?_ | refine PW_block ?_ | (refine PW_skip ?_; try show PW _ _ _ _ _ _) | (refine PW_exit ?_; try show PW _ _ _ _ _ _) | (refine PW_ret ?_; try show PW _ _ _ _ _ _) | refine PW_cond_t rfl ?_ | refine PW_cond_f rfl ?_) | refine POps_split rfl rfl (fun h => ?_) (fun h => ?_) | refine POpsD_split rfl rfl (fun h => ?_) (fun h => ?_) | refine PW_cond rfl (fun h => ?_) (fun h => ?_)))
      · (try simp only [decide_eq_true_eq, decide_eq_false_iff_not, beq_iff_eq, bne_iff_ne, beq_eq_false_iff_ne, bne_eq_false_iff_eq, Bool.not_eq_true', Bool.not_eq_false', gt_iff_lt, ge_iff_le, ne_eq] at *)
        rw [if_pos (.inl (by omega))] at hn
        (first | refine Ret_box (resRs_cons resV_tmp resRs_nil) rfl rfl rfl rfl rfl rfl rfl rfl rfl ?_ ?_ ?_ rfl | refine Ret_box (resRs_cons (resV_agg (AG rfl) (SZ rfl) rfl rfl (Nat.le_of_ble_eq_true rfl)) resRs_nil) rfl rfl rfl rfl rfl rfl rfl rfl rfl ?_ ?_ ?_ rfl | refine Ret_box (resRs_cons resV_tmp (resRs_cons resV_tmp resRs_nil)) rfl rfl rfl rfl rfl rfl rfl rfl rfl ?_ ?_ ?_ rfl | refine Ret_box (resRs_cons (resV_agg (AG rfl) (SZ rfl) rfl rfl (Nat.le_of_ble_eq_true rfl)) (resRs_cons resV_tmp resRs_nil)) rfl rfl rfl rfl rfl rfl rfl rfl rfl ?_ ?_ ?_ rfl)
        · rw [hn, ← ho]
        · rw [hn]; rfl
        · rfl
      · rw [if_pos (.inr h)] at hn
        (first | refine Ret_box (resRs_cons resV_tmp resRs_nil) rfl rfl rfl rfl rfl rfl rfl rfl rfl ?_ ?_ ?_ rfl | refine Ret_box (resRs_cons (resV_agg (AG rfl) (SZ rfl) rfl rfl (Nat.le_of_ble_eq_true rfl)) resRs_nil) rfl rfl rfl rfl rfl rfl rfl rfl rfl ?_ ?_ ?_ rfl | refine Ret_box (resRs_cons resV_tmp (resRs_cons resV_tmp resRs_nil)) rfl rfl rfl rfl rfl rfl rfl rfl rfl ?_ ?_ ?_ rfl | refine Ret_box (resRs_cons (resV_agg (AG rfl) (SZ rfl) rfl rfl (Nat.le_of_ble_eq_true rfl)) (resRs_cons resV_tmp resRs_nil)) rfl rfl rfl rfl rfl rfl rfl rfl rfl ?_ ?_ ?_ rfl)
        · rw [hn, ← ho]
        · rw [hn]; rfl
        · rfl
      · (try simp only [decide_eq_true_eq, decide_eq_false_iff_not, beq_iff_eq, bne_iff_ne, beq_eq_false_iff_ne, bne_eq_false_iff_eq, Bool.not_eq_true', Bool.not_eq_false', gt_iff_lt, ge_iff_le, ne_eq] at *)
        rw [if_neg (by intro hh; rcases hh with hh | hh; (· omega); (· simp_all))] at hn
        refine ⟨(k + 1, numVal k (rdByte l1 b1).1 x, (rdByte l1 b1).2.1, numBad k (rdByte l1 b1).1 (rdByte l1 b1).2.2), ⟨by dsimp only; omega, ?_, ?_⟩, by dsimp only; omega, SlotsOk.le ⟨.inl rfl, .inl (congrArg (fun n => PV.g (.int .i64 n)) ?_), .inl (congrArg (fun n => PV.g (.int .u64 n)) ho), trivial⟩, HLe.refl _⟩
        · dsimp only
          unfold numVal
          refine Nat.lt_of_le_of_lt (Nat.mod_le _ _) ?_
          have h1 : (rdByte l1 b1).1 % 128 ≤ 127 := by omega
          have h2 := Nat.mul_le_mul_right (2 ^ (7 * k)) h1
          have h3 : 2 ^ (7 * (k + 1)) = 128 * 2 ^ (7 * k) := by rw [Nat.mul_add, Nat.pow_add, Nat.mul_comm]
          omega
        · dsimp only
          rw [hn]
          congr 1
        · rw [wrap64 (by omega)]; omega
  · have hk10 : k = 10 := by have := of_decide_eq_false h; omega
    subst hk10
    (repeat (first | (refine POps_nil ?_; try show PW _ _ _ _ _ _) | (refine POpsD_nil ?_; try show PW _ _ _ _ _ _) | refine runO_ok tabOk 300 rfl rfl ?_ | refine runO_ok tabOk 6 rfl rfl ?_ | refine runO_ok tabOk 1 rfl rfl ?_ | refine runD_ok tabOk 300 rfl rfl ?_ | refine runD_ok tabOk 6 rfl rfl ?_ | refine runD_ok tabOk 1 rfl rfl ?_ | (apply POps_run rfl rfl; focus (first | exact PO_conv_int rfl (IK rfl) (IK rfl) rfl | exact PO_makeFunc rfl | exact PO_buildSlice rfl (EL rfl) (SZ rfl) (AG rfl) (ZR rfl) rfl rfl rfl rfl rfl rfl rfl | exact PO_nilCheck rfl rfl | exact PO_conv_int rfl (IK rfl) (IK rfl) rfl)) | (apply POpsD_run rfl rfl; focus (first | exact Cond_c (PO_conv_int rfl (IK rfl) (IK rfl) rfl) (by first | exact KEq.refl _ _ | (repeat (first | exact trivial | refine And.intro rfl ?_ | refine And.intro trivial ?_))) | exact Cond_c (PO_makeFunc rfl) (by first | exact KEq.refl _ _ | (repeat (first | exact trivial | refine And.intro rfl ?_ | refine And.intro trivial ?_))) | exact Cond_c (PO_buildSlice rfl (EL rfl) (SZ rfl) (AG rfl) (ZR rfl) rfl rfl rfl rfl rfl rfl rfl) (by first | exact KEq.refl _ _ | (repeat (first | exact trivial | refine And.intro rfl ?_ | refine And.intro trivial ?_))) | exact Cond_f (fun _ => PO_conv_int rfl (IK rfl) (IK rfl) rfl) | exact Cond_f (fun _ => PO_makeFunc rfl) | exact Cond_f (fun _ => PO_buildSlice rfl (EL rfl) (SZ rfl) (AG rfl) (ZR rfl) rfl rfl rfl rfl rfl rfl rfl) | exact Cond_f (fun _ => PO_nilCheck rfl rfl) | exact Cond_f (fun _ => PO_conv_int rfl (IK rfl) (IK rfl) rfl))) | refine PW_seq ?_ | refine PW_region ?_ | refine PW_draw_all mixed (by kernel_rfl) ?_ | refine PW_block ?_ | (refine PW_skip ?_; try show PW _ _ _ _ _ _) | (refine PW_exit ?_; try show PW _ _ _ _ _ _) | (refine PW_ret ?_; try show PW _ _ _ _ _ _) | refine PW_cond_t rfl ?_ | refine PW_cond_f rfl ?_))
    have hn : numGo 10 0 0 l b = (0, l1, true) := by rw [← hgo]; rfl
    (first | refine Ret_box (resRs_cons resV_tmp resRs_nil) rfl rfl rfl rfl rfl rfl rfl rfl rfl ?_ ?_ ?_ rfl | refine Ret_box (resRs_cons (resV_agg (AG rfl) (SZ rfl) rfl rfl (Nat.le_of_ble_eq_true rfl)) resRs_nil) rfl rfl rfl rfl rfl rfl rfl rfl rfl ?_ ?_ ?_ rfl | refine Ret_box (resRs_cons resV_tmp (resRs_cons resV_tmp resRs_nil)) rfl rfl rfl rfl rfl rfl rfl rfl rfl ?_ ?_ ?_ rfl | refine Ret_box (resRs_cons (resV_agg (AG rfl) (SZ rfl) rfl rfl (Nat.le_of_ble_eq_true rfl)) (resRs_cons resV_tmp resRs_nil)) rfl rfl rfl rfl rfl rfl rfl rfl rfl ?_ ?_ ?_ rfl)
    · rw [hn]; rfl
    · rw [hn]; rfl
    · rfl

theorem numGo_lt : ∀ (n k x : Nat) (l : List UInt8) (b : Bool), (numGo n k x l b).1 < 2 ^ 64
  | 0, k, x, l, b => by simp [numGo]
  | n + 1, k, x, l, b => by
    rw [numGo]
    split
    · exact Nat.mod_lt _ (by decide)
    · exact numGo_lt n _ _ _ _

end Go.Proofs.Ytffpepmfdjjjaaa
