import Derived.Test.YtffpepmfdjjjaaaS4
namespace Go.Proofs.Ytffpepmfdjjjaaa
open Go.Pure
attribute [local irreducible] PW POps POpsD PO PC Cond

/-- A number with a sign as one without. -/
def fold64 (n : Int) : Nat := (BitVec.ofInt 64 (IntKind.u64.wrap (IntKind.i64.wrap (n * 2))) ^^^ BitVec.ofInt 64 (IntKind.u64.wrap (n.fdiv 9223372036854775808))).toNat
theorem fold64_lt (n : Int) : fold64 n < 18446744073709551616 := (BitVec.ofInt 64 _ ^^^ BitVec.ofInt 64 _).isLt

theorem wrapU64 (x : BitVec 64) : IntKind.u64.wrap x.toNat = x.toNat := by
  have := x.isLt
  simp [IntKind.wrap, IntKind.bits, IntKind.signed]; omega

set_option maxRecDepth 100000 in
set_option maxHeartbeats 4000000 in
theorem folded_pc (n : Int) : PC Try.prog 78 [.g (.int .i64 n)] ⟨[], [], []⟩ (.g (.int .u64 (fold64 n))) ⟨[], [], []⟩ := by
  refine PC_of_PW Try.func78 rfl rfl (rs := _) rfl (Nat.le_of_ble_eq_true (by kernel_rfl)) ?_
  (repeat (first | (refine POps_nil ?_; try show PW _ _ _ _ _ _) | (refine POpsD_nil ?_; try show PW _ _ _ _ _ _) | refine runO_ok tabOk 300 rfl rfl ?_ | refine runO_ok tabOk 6 rfl rfl ?_ | refine runO_ok tabOk 1 rfl rfl ?_ | refine runD_ok tabOk 300 rfl rfl ?_ | refine runD_ok tabOk 6 rfl rfl ?_ | refine runD_ok tabOk 1 rfl rfl ?_ | (apply POps_run rfl rfl; focus (first | exact PO_shr rfl rfl rfl (by decide) | exact PO_shl rfl rfl rfl (by decide) | exact PO_conv_int rfl (IK rfl) (IK rfl) rfl | exact PO_makeFunc rfl | exact PO_buildSlice rfl (EL rfl) (SZ rfl) (AG rfl) (ZR rfl) rfl rfl rfl rfl rfl rfl rfl | exact PO_nilCheck rfl rfl | exact PO_conv_int rfl (IK rfl) (IK rfl) rfl)) | (apply POpsD_run rfl rfl; focus (first | exact Cond_c (PO_shr rfl rfl rfl (by decide)) (by first | exact KEq.refl _ _ | (repeat (first | exact trivial | refine And.intro rfl ?_ | refine And.intro trivial ?_))) | exact Cond_c (PO_shl rfl rfl rfl (by decide)) (by first | exact KEq.refl _ _ | (repeat (first | exact trivial | refine And.intro rfl ?_ | refine And.intro trivial ?_))) | exact Cond_c (PO_conv_int rfl (IK rfl) (IK rfl) rfl) (by first | exact KEq.refl _ _ | (repeat (first | exact trivial | refine And.intro rfl ?_ | refine And.intro trivial ?_))) | exact Cond_c (PO_makeFunc rfl) (by first | exact KEq.refl _ _ | (repeat (first | exact trivial | refine And.intro rfl ?_ | refine And.intro trivial ?_))) | exact Cond_c (PO_buildSlice rfl (EL rfl) (SZ rfl) (AG rfl) (ZR rfl) rfl rfl rfl rfl rfl rfl rfl) (by first | exact KEq.refl _ _ | (repeat (first | exact trivial | refine And.intro rfl ?_ | refine And.intro trivial ?_))) | exact Cond_f (fun _ => PO_shr rfl rfl rfl (by decide)) | exact Cond_f (fun _ => PO_shl rfl rfl rfl (by decide)) | exact Cond_f (fun _ => PO_conv_int rfl (IK rfl) (IK rfl) rfl) | exact Cond_f (fun _ => PO_makeFunc rfl) | exact Cond_f (fun _ => PO_buildSlice rfl (EL rfl) (SZ rfl) (AG rfl) (ZR rfl) rfl rfl rfl rfl rfl rfl rfl) | exact Cond_f (fun _ => PO_nilCheck rfl rfl) | exact Cond_f (fun _ => PO_conv_int rfl (IK rfl) (IK rfl) rfl))) | refine PW_seq ?_ | refine PW_region ?_ | refine PW_draw_all mixed (by kernel_rfl) ?_ | refine PW_block ?_ | (refine PW_skip ?_; try show PW _ _ _ _ _ _) | (refine PW_exit ?_; try show PW _ _ _ _ _ _) | (refine PW_ret ?_; try show PW _ _ _ _ _ _) | refine PW_cond_t rfl ?_ | refine PW_cond_f rfl ?_))
  (first | refine Ret_int (resVs_cons resV_tmp resVs_nil) rfl ?_ | refine Ret_bool (resVs_cons resV_tmp resVs_nil) rfl ?_ | refine Ret_g (resVs_cons resV_tmp resVs_nil) rfl ?_ | refine Ret_int (resVs_cons (resV_agg (AG rfl) (SZ rfl) rfl rfl (Nat.le_of_ble_eq_true rfl)) resVs_nil) rfl ?_ | refine Ret_bool (resVs_cons (resV_agg (AG rfl) (SZ rfl) rfl rfl (Nat.le_of_ble_eq_true rfl)) resVs_nil) rfl ?_ | refine Ret_g (resVs_cons (resV_agg (AG rfl) (SZ rfl) rfl rfl (Nat.le_of_ble_eq_true rfl)) resVs_nil) rfl ?_)
  have e1 : (2 : Int) ^ min (Int.toNat 1) IntKind.i64.bits = 2 := by decide
  have e2 : (2 : Int) ^ min (Int.toNat 63) IntKind.i64.bits = 9223372036854775808 := by decide
  rw [e1, e2]
  exact wrapU64 (BitVec.ofInt 64 (IntKind.u64.wrap (IntKind.i64.wrap (n * 2))) ^^^ BitVec.ofInt 64 (IntKind.u64.wrap (n.fdiv 9223372036854775808)))
end Go.Proofs.Ytffpepmfdjjjaaa
