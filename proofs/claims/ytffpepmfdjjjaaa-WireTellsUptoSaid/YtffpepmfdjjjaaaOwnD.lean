/- What the program's functions compute, each shown once; and plain laws of it. -/
import Derived.Test.YtffpepmfdjjjaaaOwnC
namespace Go.Proofs.Ytffpepmfdjjjaaa
open Go.Pure
attribute [local irreducible] PW POps POpsD PO PC Cond

theorem kids_succ (g : List UInt8 → Bool → Tr × List UInt8 × Bool) : ∀ (n : Nat) (l : List UInt8) (b : Bool),
    kidsGo g (n + 1) l b = ((kidsGo g n l b).1 ++ [(g (kidsGo g n l b).2.1 (kidsGo g n l b).2.2).1], (g (kidsGo g n l b).2.1 (kidsGo g n l b).2.2).2)
  | 0, l, b => by simp [kidsGo]
  | n + 1, l, b => by
    conv => lhs; rw [kidsGo]
    rw [kids_succ g n]
    simp [kidsGo]
theorem kids_count (g : List UInt8 → Bool → Tr × List UInt8 × Bool) : ∀ (n : Nat) (l : List UInt8) (b : Bool), (kidsGo g n l b).1.length = n
  | 0, l, b => rfl
  | n + 1, l, b => by rw [kids_succ]; simp [kids_count g n]
theorem gs_append (a : List Tr) (t : Tr) : Tr.gs (a ++ [t]) = Tr.gs a ++ [t.g] := by simp [gs_eq]

set_option maxRecDepth 100000 in
set_option maxHeartbeats 4000000 in
theorem tree_pc : ∀ (f : Nat) (l : List UInt8) (b : Bool), f ≤ 40 → l.length ≤ 1000000 → PC Try.prog 55 [.ptr 0 0, .g (.int .i64 (41 - (f : Int)))] (rdH l b) (.g (treeGo f l b).1.g) (rdH (treeGo f l b).2.1 (treeGo f l b).2.2)
  | 0, l, b, _, hl => by
    refine PC_of_PW Try.func55 rfl rfl (rs := _) rfl (Nat.le_of_ble_eq_true (by kernel_rfl)) ?_
    (repeat' (first | (first | (refine POps_nil ?_; try show PW _ _ _ _ _ _) | (refine POpsD_nil ?_; try show PW _ _ _ _ _ _) | refine runO_ok tabOk 300 rfl rfl ?_ | refine runO_ok tabOk 6 rfl rfl ?_ | refine runO_ok tabOk 1 rfl rfl ?_ | refine runD_ok tabOk 300 rfl rfl ?_ | refine runD_ok tabOk 6 rfl rfl ?_ | refine runD_ok tabOk 1 rfl rfl ?_ | (apply POps_run rfl rfl; focus (first | exact PO_conv_int rfl (IK rfl) (IK rfl) rfl | exact PO_makeFunc rfl | exact PO_buildSlice rfl (EL rfl) (SZ rfl) (AG rfl) (ZR rfl) rfl rfl rfl rfl rfl rfl rfl | exact PO_nilCheck rfl rfl | exact PO_conv_int rfl (IK rfl) (IK rfl) rfl)) | (apply POpsD_run rfl rfl; focus (first | exact Cond_c (PO_conv_int rfl (IK rfl) (IK rfl) rfl) | exact Cond_c (PO_makeFunc rfl) | exact Cond_c (PO_buildSlice rfl (EL rfl) (SZ rfl) (AG rfl) (ZR rfl) rfl rfl rfl rfl rfl rfl rfl) | exact Cond_f (fun _ => PO_conv_int rfl (IK rfl) (IK rfl) rfl) | exact Cond_f (fun _ => PO_makeFunc rfl) | exact Cond_f (fun _ => PO_buildSlice rfl (EL rfl) (SZ rfl) (AG rfl) (ZR rfl) rfl rfl rfl rfl rfl rfl rfl) | exact Cond_f (fun _ => PO_nilCheck rfl rfl) | exact Cond_f (fun _ => PO_conv_int rfl (IK rfl) (IK rfl) rfl))) | refine PW_seq ?_ | refine PW_region ?_ | refine PW_draw_all mixed (by kernel_rfl) ?_ | refine PW_block ?_ | (refine PW_skip ?_; try show PW _ _ _ _ _ _) | (refine PW_exit ?_; try show PW _ _ _ _ _ _) | (refine PW_ret ?_; try show PW _ _ _ _ _ _) | refine PW_cond_t rfl ?_ | refine PW_cond_f rfl ?_) | refine POps_split rfl rfl (fun h => ?_) (fun h => ?_) | refine POpsD_split rfl rfl (fun h => ?_) (fun h => ?_) | refine PW_cond rfl (fun h => ?_) (fun h => ?_)))
    (first | refine Ret_boxp (resVs_cons resV_tmp resVs_nil) rfl rfl rfl rfl rfl rfl rfl rfl rfl ?_ ?_ ?_ rfl | refine Ret_boxp (resVs_cons (resV_agg (AG rfl) (SZ rfl) rfl rfl (Nat.le_of_ble_eq_true rfl)) resVs_nil) rfl rfl rfl rfl rfl rfl rfl rfl rfl ?_ ?_ ?_ rfl | refine Ret_boxp (resVs_cons resV_tmp (resVs_cons resV_tmp resVs_nil)) rfl rfl rfl rfl rfl rfl rfl rfl rfl ?_ ?_ ?_ rfl | refine Ret_boxp (resVs_cons (resV_agg (AG rfl) (SZ rfl) rfl rfl (Nat.le_of_ble_eq_true rfl)) (resVs_cons resV_tmp resVs_nil)) rfl rfl rfl rfl rfl rfl rfl rfl rfl ?_ ?_ ?_ rfl)
    · rfl
    · rfl
    · rfl
  | f + 1, l, b, hf, hl => by
    cases b with
    | true =>
      refine PC_of_PW Try.func55 rfl rfl (rs := _) rfl (Nat.le_of_ble_eq_true (by kernel_rfl)) ?_
      (repeat' (first | (first | (refine POps_nil ?_; try show PW _ _ _ _ _ _) | (refine POpsD_nil ?_; try show PW _ _ _ _ _ _) | refine runO_ok tabOk 300 rfl rfl ?_ | refine runO_ok tabOk 6 rfl rfl ?_ | refine runO_ok tabOk 1 rfl rfl ?_ | refine runD_ok tabOk 300 rfl rfl ?_ | refine runD_ok tabOk 6 rfl rfl ?_ | refine runD_ok tabOk 1 rfl rfl ?_ | (apply POps_run rfl rfl; focus (first | exact PO_conv_int rfl (IK rfl) (IK rfl) rfl | exact PO_makeFunc rfl | exact PO_buildSlice rfl (EL rfl) (SZ rfl) (AG rfl) (ZR rfl) rfl rfl rfl rfl rfl rfl rfl | exact PO_nilCheck rfl rfl | exact PO_conv_int rfl (IK rfl) (IK rfl) rfl)) | (apply POpsD_run rfl rfl; focus (first | exact Cond_c (PO_conv_int rfl (IK rfl) (IK rfl) rfl) | exact Cond_c (PO_makeFunc rfl) | exact Cond_c (PO_buildSlice rfl (EL rfl) (SZ rfl) (AG rfl) (ZR rfl) rfl rfl rfl rfl rfl rfl rfl) | exact Cond_f (fun _ => PO_conv_int rfl (IK rfl) (IK rfl) rfl) | exact Cond_f (fun _ => PO_makeFunc rfl) | exact Cond_f (fun _ => PO_buildSlice rfl (EL rfl) (SZ rfl) (AG rfl) (ZR rfl) rfl rfl rfl rfl rfl rfl rfl) | exact Cond_f (fun _ => PO_nilCheck rfl rfl) | exact Cond_f (fun _ => PO_conv_int rfl (IK rfl) (IK rfl) rfl))) | refine PW_seq ?_ | refine PW_region ?_ | refine PW_draw_all mixed (by kernel_rfl) ?_ | refine PW_block ?_ | (refine PW_skip ?_; try show PW _ _ _ _ _ _) | (refine PW_exit ?_; try show PW _ _ _ _ _ _) | (refine PW_ret ?_; try show PW _ _ _ _ _ _) | refine PW_cond_t rfl ?_ | refine PW_cond_f rfl ?_) | refine POps_split rfl rfl (fun h => ?_) (fun h => ?_) | refine POpsD_split rfl rfl (fun h => ?_) (fun h => ?_) | refine PW_cond rfl (fun h => ?_) (fun h => ?_)))
      · have := of_decide_eq_true h; omega
      · (first | refine Ret_boxp (resVs_cons resV_tmp resVs_nil) rfl rfl rfl rfl rfl rfl rfl rfl rfl ?_ ?_ ?_ rfl | refine Ret_boxp (resVs_cons (resV_agg (AG rfl) (SZ rfl) rfl rfl (Nat.le_of_ble_eq_true rfl)) resVs_nil) rfl rfl rfl rfl rfl rfl rfl rfl rfl ?_ ?_ ?_ rfl | refine Ret_boxp (resVs_cons resV_tmp (resVs_cons resV_tmp resVs_nil)) rfl rfl rfl rfl rfl rfl rfl rfl rfl ?_ ?_ ?_ rfl | refine Ret_boxp (resVs_cons (resV_agg (AG rfl) (SZ rfl) rfl rfl (Nat.le_of_ble_eq_true rfl)) (resVs_cons resV_tmp resVs_nil)) rfl rfl rfl rfl rfl rfl rfl rfl rfl ?_ ?_ ?_ rfl)
        · rfl
        · rfl
        · rfl
    | false =>
      have h0 := rdByte_len l false
      have hb := byte_pc l false
      have hn := number_rd (rdByte l false).2.1 (rdByte l false).2.2
      have hnl := numGo_len 10 0 0 (rdByte l false).2.1 (rdByte l false).2.2
      have hu := unfolded_pc (numGo 10 0 0 (rdByte l false).2.1 (rdByte l false).2.2).1 (numGo_lt _ _ _ _ _)
      have hts : treeGo (f + 1) l false = _ := treeGo.eq_2 ..
      rw [if_neg (by decide)] at hts
      dsimp only at hts
      generalize numGo 10 0 0 (rdByte l false).2.1 (rdByte l false).2.2 = r1 at hn hnl hu hts
      have h1 := count_pc 1 (by decide) r1.2.1 r1.2.2 (by omega)
      have h1l := cntGo_le 1 (by decide) r1.2.1 r1.2.2
      generalize cntGo 1 r1.2.1 r1.2.2 = r2 at h1 h1l hts
      have h4 := count_pc 4 (by decide) (r2.2.1.drop r2.1) r2.2.2 (by simp; omega)
      have h4l := cntGo_le 4 (by decide) (r2.2.1.drop r2.1) r2.2.2
      generalize cntGo 4 (r2.2.1.drop r2.1) r2.2.2 = r3 at h4 h4l hts
      refine PC_of_PW Try.func55 rfl rfl (rs := _) rfl (Nat.le_of_ble_eq_true (by kernel_rfl)) ?_
      (repeat (first | (refine POps_nil ?_; try show PW _ _ _ _ _ _) | (refine POpsD_nil ?_; try show PW _ _ _ _ _ _) | refine runO_ok tabOk 300 rfl rfl ?_ | refine runO_ok tabOk 6 rfl rfl ?_ | refine runO_ok tabOk 1 rfl rfl ?_ | refine runD_ok tabOk 300 rfl rfl ?_ | refine runD_ok tabOk 6 rfl rfl ?_ | refine runD_ok tabOk 1 rfl rfl ?_ | (apply POps_run rfl rfl; focus (first | exact PO_conv_int rfl (IK rfl) (IK rfl) rfl | exact PO_makeFunc rfl | exact PO_buildSlice rfl (EL rfl) (SZ rfl) (AG rfl) (ZR rfl) rfl rfl rfl rfl rfl rfl rfl | exact PO_nilCheck rfl rfl | exact PO_conv_int rfl (IK rfl) (IK rfl) rfl)) | (apply POpsD_run rfl rfl; focus (first | exact Cond_c (PO_conv_int rfl (IK rfl) (IK rfl) rfl) | exact Cond_c (PO_makeFunc rfl) | exact Cond_c (PO_buildSlice rfl (EL rfl) (SZ rfl) (AG rfl) (ZR rfl) rfl rfl rfl rfl rfl rfl rfl) | exact Cond_f (fun _ => PO_conv_int rfl (IK rfl) (IK rfl) rfl) | exact Cond_f (fun _ => PO_makeFunc rfl) | exact Cond_f (fun _ => PO_buildSlice rfl (EL rfl) (SZ rfl) (AG rfl) (ZR rfl) rfl rfl rfl rfl rfl rfl rfl) | exact Cond_f (fun _ => PO_nilCheck rfl rfl) | exact Cond_f (fun _ => PO_conv_int rfl (IK rfl) (IK rfl) rfl))) | refine PW_seq ?_ | refine PW_region ?_ | refine PW_draw_all mixed (by kernel_rfl) ?_ | refine PW_block ?_ | (refine PW_skip ?_; try show PW _ _ _ _ _ _) | (refine PW_exit ?_; try show PW _ _ _ _ _ _) | (refine PW_ret ?_; try show PW _ _ _ _ _ _) | refine PW_cond_t rfl ?_ | refine PW_cond_f rfl ?_))
      (first | refine POps_split rfl rfl (fun h => ?_) (fun h => ?_) | refine POpsD_split rfl rfl (fun h => ?_) (fun h => ?_) | refine PW_cond rfl (fun h => ?_) (fun h => ?_))
      · have := of_decide_eq_true h; omega
      (repeat (first | (refine POps_nil ?_; try show PW _ _ _ _ _ _) | (refine POpsD_nil ?_; try show PW _ _ _ _ _ _) | refine runO_ok tabOk 300 rfl rfl ?_ | refine runO_ok tabOk 6 rfl rfl ?_ | refine runO_ok tabOk 1 rfl rfl ?_ | refine runD_ok tabOk 300 rfl rfl ?_ | refine runD_ok tabOk 6 rfl rfl ?_ | refine runD_ok tabOk 1 rfl rfl ?_ | (apply POps_run rfl rfl; focus (first | exact call_box [] rfl rfl (EN rfl) (hb) rfl rfl rfl rfl rfl rfl rfl rfl rfl rfl rfl | exact call_box [] rfl rfl (EN rfl) (hn) rfl rfl rfl rfl rfl rfl rfl rfl rfl rfl rfl | exact call_pure rfl rfl (EN rfl) (hu) rfl rfl rfl | exact call_box [] rfl rfl (EN rfl) (h1) rfl rfl rfl rfl rfl rfl rfl rfl rfl rfl rfl | exact call_box [] rfl rfl (EN rfl) (h4) rfl rfl rfl rfl rfl rfl rfl rfl rfl rfl rfl | exact PO_slice_bys (r2.2.1.take r2.1) 0 r2.1 rfl (EL rfl) (SZ rfl) rfl rfl rfl rfl rfl (Nat.zero_le _) h1l.1 rfl | exact PO_slice_bys (r2.2.1.drop r2.1) r2.1 r2.2.1.length rfl (EL rfl) (SZ rfl) rfl rfl rfl rfl rfl h1l.1 (Nat.le_refl _) (List.take_of_length_le (by simp)) | exact PO_conv_bytes rfl (EL rfl) (IK rfl) (ST rfl) rfl | exact PO_conv_int rfl (IK rfl) (IK rfl) rfl | exact PO_makeFunc rfl | exact PO_buildSlice rfl (EL rfl) (SZ rfl) (AG rfl) (ZR rfl) rfl rfl rfl rfl rfl rfl rfl | exact PO_nilCheck rfl rfl | exact PO_conv_int rfl (IK rfl) (IK rfl) rfl)) | (apply POpsD_run rfl rfl; focus (first | exact Cond_c (call_box [] rfl rfl (EN rfl) (hb) rfl rfl rfl rfl rfl rfl rfl rfl rfl rfl rfl) | exact Cond_c (call_box [] rfl rfl (EN rfl) (hn) rfl rfl rfl rfl rfl rfl rfl rfl rfl rfl rfl) | exact Cond_c (call_pure rfl rfl (EN rfl) (hu) rfl rfl rfl) | exact Cond_c (call_box [] rfl rfl (EN rfl) (h1) rfl rfl rfl rfl rfl rfl rfl rfl rfl rfl rfl) | exact Cond_c (call_box [] rfl rfl (EN rfl) (h4) rfl rfl rfl rfl rfl rfl rfl rfl rfl rfl rfl) | exact Cond_c (PO_slice_bys (r2.2.1.take r2.1) 0 r2.1 rfl (EL rfl) (SZ rfl) rfl rfl rfl rfl rfl (Nat.zero_le _) h1l.1 rfl) | exact Cond_c (PO_slice_bys (r2.2.1.drop r2.1) r2.1 r2.2.1.length rfl (EL rfl) (SZ rfl) rfl rfl rfl rfl rfl h1l.1 (Nat.le_refl _) (List.take_of_length_le (by simp))) | exact Cond_c (PO_conv_bytes rfl (EL rfl) (IK rfl) (ST rfl) rfl) | exact Cond_c (PO_conv_int rfl (IK rfl) (IK rfl) rfl) | exact Cond_c (PO_makeFunc rfl) | exact Cond_c (PO_buildSlice rfl (EL rfl) (SZ rfl) (AG rfl) (ZR rfl) rfl rfl rfl rfl rfl rfl rfl) | exact Cond_f (fun _ => call_box [] rfl rfl (EN rfl) (hb) rfl rfl rfl rfl rfl rfl rfl rfl rfl rfl rfl) | exact Cond_f (fun _ => call_box [] rfl rfl (EN rfl) (hn) rfl rfl rfl rfl rfl rfl rfl rfl rfl rfl rfl) | exact Cond_f (fun _ => call_pure rfl rfl (EN rfl) (hu) rfl rfl rfl) | exact Cond_f (fun _ => call_box [] rfl rfl (EN rfl) (h1) rfl rfl rfl rfl rfl rfl rfl rfl rfl rfl rfl) | exact Cond_f (fun _ => call_box [] rfl rfl (EN rfl) (h4) rfl rfl rfl rfl rfl rfl rfl rfl rfl rfl rfl) | exact Cond_f (fun _ => PO_slice_bys (r2.2.1.take r2.1) 0 r2.1 rfl (EL rfl) (SZ rfl) rfl rfl rfl rfl rfl (Nat.zero_le _) h1l.1 rfl) | exact Cond_f (fun _ => PO_slice_bys (r2.2.1.drop r2.1) r2.1 r2.2.1.length rfl (EL rfl) (SZ rfl) rfl rfl rfl rfl rfl h1l.1 (Nat.le_refl _) (List.take_of_length_le (by simp))) | exact Cond_f (fun _ => PO_conv_bytes rfl (EL rfl) (IK rfl) (ST rfl) rfl) | exact Cond_f (fun _ => PO_conv_int rfl (IK rfl) (IK rfl) rfl) | exact Cond_f (fun _ => PO_makeFunc rfl) | exact Cond_f (fun _ => PO_buildSlice rfl (EL rfl) (SZ rfl) (AG rfl) (ZR rfl) rfl rfl rfl rfl rfl rfl rfl) | exact Cond_f (fun _ => PO_nilCheck rfl rfl) | exact Cond_f (fun _ => PO_conv_int rfl (IK rfl) (IK rfl) rfl))) | refine PW_seq ?_ | refine PW_region ?_ | refine PW_draw_all mixed (by kernel_rfl) ?_ | refine PW_block ?_ | (refine PW_skip ?_; try show PW _ _ _ _ _ _) | (refine PW_exit ?_; try show PW _ _ _ _ _ _) | (refine PW_ret ?_; try show PW _ _ _ _ _ _) | refine PW_cond_t rfl ?_ | refine PW_cond_f rfl ?_))
      refine PW_bufbox 2 3 30 (SZ rfl) rfl rfl ?_
      refine PW_loop (S := Nat) (fun i => slots [(0, .ptr 0 0), (1, .g (.int .i64 (41 - ((f + 1 : Nat) : Int)))), (4, .ptr 1 0), (5, .ptr 2 0), (45, .g (.int .i64 r3.1)), (46, .g (.int .i64 i))])
        (fun i => ⟨[[.g (.sl (bys (kidsGo (treeGo f) i r3.2.1 r3.2.2).2.1)), .g (.bool (kidsGo (treeGo f) i r3.2.1 r3.2.2).2.2)], [.g (.int .i64 0), .g (.int .i64 0), .g (.str ⟨#[]⟩), .nils],
          [.g (.int .i64 (rdByte l false).1), .g (.int .i64 (unfold64 r1.1)), .g (.str ⟨(r2.2.1.take r2.1).toArray⟩), .own (Tr.gs (kidsGo (treeGo f) i r3.2.1 r3.2.2).1) 0]], [(30, i)], []⟩)
        (fun i => i ≤ r3.1) (fun i => r3.1 - i) 0 (Nat.zero_le _) (SlotsOk.le ⟨.inl rfl, .inl rfl, .inl rfl, .inl rfl, .inl rfl, .inl rfl, trivial⟩) (HLe.of_eq ?_) (fun i hi => ?_)
      · have hw : IntKind.i64.wrap ((rdByte l false).1 : Int) = (rdByte l false).1 := wrap64 (by have := rdByte_lt l false; omega)
        rw [hw]
        rfl
      · (repeat (first | (refine POps_nil ?_; try show PW _ _ _ _ _ _) | (refine POpsD_nil ?_; try show PW _ _ _ _ _ _) | refine runO_ok tabOk 300 rfl rfl ?_ | refine runO_ok tabOk 6 rfl rfl ?_ | refine runO_ok tabOk 1 rfl rfl ?_ | refine runD_ok tabOk 300 rfl rfl ?_ | refine runD_ok tabOk 6 rfl rfl ?_ | refine runD_ok tabOk 1 rfl rfl ?_ | (apply POps_run rfl rfl; focus (first | exact PO_conv_int rfl (IK rfl) (IK rfl) rfl | exact PO_makeFunc rfl | exact PO_buildSlice rfl (EL rfl) (SZ rfl) (AG rfl) (ZR rfl) rfl rfl rfl rfl rfl rfl rfl | exact PO_nilCheck rfl rfl | exact PO_conv_int rfl (IK rfl) (IK rfl) rfl)) | (apply POpsD_run rfl rfl; focus (first | exact Cond_c (PO_conv_int rfl (IK rfl) (IK rfl) rfl) | exact Cond_c (PO_makeFunc rfl) | exact Cond_c (PO_buildSlice rfl (EL rfl) (SZ rfl) (AG rfl) (ZR rfl) rfl rfl rfl rfl rfl rfl rfl) | exact Cond_f (fun _ => PO_conv_int rfl (IK rfl) (IK rfl) rfl) | exact Cond_f (fun _ => PO_makeFunc rfl) | exact Cond_f (fun _ => PO_buildSlice rfl (EL rfl) (SZ rfl) (AG rfl) (ZR rfl) rfl rfl rfl rfl rfl rfl rfl) | exact Cond_f (fun _ => PO_nilCheck rfl rfl) | exact Cond_f (fun _ => PO_conv_int rfl (IK rfl) (IK rfl) rfl))) | refine PW_seq ?_ | refine PW_region ?_ | refine PW_draw_all mixed (by kernel_rfl) ?_ | refine PW_block ?_ | (refine PW_skip ?_; try show PW _ _ _ _ _ _) | (refine PW_exit ?_; try show PW _ _ _ _ _ _) | (refine PW_ret ?_; try show PW _ _ _ _ _ _) | refine PW_cond_t rfl ?_ | refine PW_cond_f rfl ?_))
        have hkl := kids_len (tree_len f) i r3.2.1 r3.2.2
        have hks : (kidsGo (treeGo f) i r3.2.1 r3.2.2).1.length = i := kids_count _ _ _ _
        have hml : (r2.2.1.drop r2.1).length ≤ r2.2.1.length := by simp
        (first | refine POps_split rfl rfl (fun h => ?_) (fun h => ?_) | refine POpsD_split rfl rfl (fun h => ?_) (fun h => ?_) | refine PW_cond rfl (fun h => ?_) (fun h => ?_))
        · have hlt : i < r3.1 := by have := of_decide_eq_true h; omega
          have ht := tree_pc f (kidsGo (treeGo f) i r3.2.1 r3.2.2).2.1 (kidsGo (treeGo f) i r3.2.1 r3.2.2).2.2 (by omega) (by omega)
          have hdp : IntKind.i64.wrap ((41 : Int) - ((f + 1 : Nat) : Int) + 1) = 41 - (f : Int) := by rw [wrap64 (by omega)]; omega
          rw [← hdp] at ht
          have hks2 := kids_succ (treeGo f) i r3.2.1 r3.2.2
          obtain ⟨ta, tb, tc, td, he⟩ : ∃ a b c d, (treeGo f (kidsGo (treeGo f) i r3.2.1 r3.2.2).2.1 (kidsGo (treeGo f) i r3.2.1 r3.2.2).2.2).1 = Tr.mk a b c d := by
            cases (treeGo f (kidsGo (treeGo f) i r3.2.1 r3.2.2).2.1 (kidsGo (treeGo f) i r3.2.1 r3.2.2).2.2).1; exact ⟨_, _, _, _, rfl⟩
          rw [he] at ht hks2
          have hxs : ∀ x ∈ [(Tr.mk ta tb tc td).g], x.cells.length = 4 := by
            intro x hx; rw [List.mem_singleton.1 hx]; exact g_cells _
          (repeat (first | (refine POps_nil ?_; try show PW _ _ _ _ _ _) | (refine POpsD_nil ?_; try show PW _ _ _ _ _ _) | refine runO_ok tabOk 300 rfl rfl ?_ | refine runO_ok tabOk 6 rfl rfl ?_ | refine runO_ok tabOk 1 rfl rfl ?_ | refine runD_ok tabOk 300 rfl rfl ?_ | refine runD_ok tabOk 6 rfl rfl ?_ | refine runD_ok tabOk 1 rfl rfl ?_ | (apply POps_run rfl rfl; focus (first | exact call_box [] rfl rfl (EN rfl) (ht) rfl rfl rfl rfl rfl rfl rfl rfl rfl rfl rfl | exact PO_append (xs := [(Tr.mk ta tb tc td).g]) rfl (EL rfl) (SZ rfl) (BY rfl) (ZR rfl) rfl rfl rfl rfl (by rw [gs_len]; exact hks) hxs (by simp; omega) (by simp [maxLen]; omega) | exact PO_conv_int rfl (IK rfl) (IK rfl) rfl | exact PO_makeFunc rfl | exact PO_buildSlice rfl (EL rfl) (SZ rfl) (AG rfl) (ZR rfl) rfl rfl rfl rfl rfl rfl rfl | exact PO_nilCheck rfl rfl | exact PO_conv_int rfl (IK rfl) (IK rfl) rfl)) | (apply POpsD_run rfl rfl; focus (first | exact Cond_c (call_box [] rfl rfl (EN rfl) (ht) rfl rfl rfl rfl rfl rfl rfl rfl rfl rfl rfl) | exact Cond_c (PO_append (xs := [(Tr.mk ta tb tc td).g]) rfl (EL rfl) (SZ rfl) (BY rfl) (ZR rfl) rfl rfl rfl rfl (by rw [gs_len]; exact hks) hxs (by simp; omega) (by simp [maxLen]; omega)) | exact Cond_c (PO_conv_int rfl (IK rfl) (IK rfl) rfl) | exact Cond_c (PO_makeFunc rfl) | exact Cond_c (PO_buildSlice rfl (EL rfl) (SZ rfl) (AG rfl) (ZR rfl) rfl rfl rfl rfl rfl rfl rfl) | exact Cond_f (fun _ => call_box [] rfl rfl (EN rfl) (ht) rfl rfl rfl rfl rfl rfl rfl rfl rfl rfl rfl) | exact Cond_f (fun _ => PO_append (xs := [(Tr.mk ta tb tc td).g]) rfl (EL rfl) (SZ rfl) (BY rfl) (ZR rfl) rfl rfl rfl rfl (by rw [gs_len]; exact hks) hxs (by simp; omega) (by simp [maxLen]; omega)) | exact Cond_f (fun _ => PO_conv_int rfl (IK rfl) (IK rfl) rfl) | exact Cond_f (fun _ => PO_makeFunc rfl) | exact Cond_f (fun _ => PO_buildSlice rfl (EL rfl) (SZ rfl) (AG rfl) (ZR rfl) rfl rfl rfl rfl rfl rfl rfl) | exact Cond_f (fun _ => PO_nilCheck rfl rfl) | exact Cond_f (fun _ => PO_conv_int rfl (IK rfl) (IK rfl) rfl))) | refine PW_seq ?_ | refine PW_region ?_ | refine PW_draw [2] mixed (by kernel_rfl) ?_ | refine PW_block ?_ | (refine PW_skip ?_; try show PW _ _ _ _ _ _) | (refine PW_exit ?_; try show PW _ _ _ _ _ _) | (refine PW_ret ?_; try show PW _ _ _ _ _ _) | refine PW_cond_t rfl ?_ | refine PW_cond_f rfl ?_))
          refine ⟨i + 1, hlt, by omega, SlotsOk.le ⟨.inl rfl, .inl rfl, .inl rfl, .inl rfl, .inl rfl, .inl (congrArg (fun n => PV.g (.int .i64 n)) (wrap64 (by omega))), trivial⟩, HLe.of_eq ?_⟩
          rw [hks2, gs_append]
          rfl
        · have hi' : i = r3.1 := by have := of_decide_eq_false h; omega
          subst hi'
          (repeat (first | (refine POps_nil ?_; try show PW _ _ _ _ _ _) | (refine POpsD_nil ?_; try show PW _ _ _ _ _ _) | refine runO_ok tabOk 300 rfl rfl ?_ | refine runO_ok tabOk 6 rfl rfl ?_ | refine runO_ok tabOk 1 rfl rfl ?_ | refine runD_ok tabOk 300 rfl rfl ?_ | refine runD_ok tabOk 6 rfl rfl ?_ | refine runD_ok tabOk 1 rfl rfl ?_ | (apply POps_run rfl rfl; focus (first | exact PO_conv_int rfl (IK rfl) (IK rfl) rfl | exact PO_makeFunc rfl | exact PO_buildSlice rfl (EL rfl) (SZ rfl) (AG rfl) (ZR rfl) rfl rfl rfl rfl rfl rfl rfl | exact PO_nilCheck rfl rfl | exact PO_conv_int rfl (IK rfl) (IK rfl) rfl)) | (apply POpsD_run rfl rfl; focus (first | exact Cond_c (PO_conv_int rfl (IK rfl) (IK rfl) rfl) | exact Cond_c (PO_makeFunc rfl) | exact Cond_c (PO_buildSlice rfl (EL rfl) (SZ rfl) (AG rfl) (ZR rfl) rfl rfl rfl rfl rfl rfl rfl) | exact Cond_f (fun _ => PO_conv_int rfl (IK rfl) (IK rfl) rfl) | exact Cond_f (fun _ => PO_makeFunc rfl) | exact Cond_f (fun _ => PO_buildSlice rfl (EL rfl) (SZ rfl) (AG rfl) (ZR rfl) rfl rfl rfl rfl rfl rfl rfl) | exact Cond_f (fun _ => PO_nilCheck rfl rfl) | exact Cond_f (fun _ => PO_conv_int rfl (IK rfl) (IK rfl) rfl))) | refine PW_seq ?_ | refine PW_region ?_ | refine PW_draw_all mixed (by kernel_rfl) ?_ | refine PW_block ?_ | (refine PW_skip ?_; try show PW _ _ _ _ _ _) | (refine PW_exit ?_; try show PW _ _ _ _ _ _) | (refine PW_ret ?_; try show PW _ _ _ _ _ _) | refine PW_cond_t rfl ?_ | refine PW_cond_f rfl ?_))
          (first | refine Ret_boxp (resVs_cons resV_tmp resVs_nil) rfl rfl rfl rfl rfl rfl rfl rfl rfl ?_ ?_ ?_ rfl | refine Ret_boxp (resVs_cons (resV_agg (AG rfl) (SZ rfl) rfl rfl (Nat.le_of_ble_eq_true rfl)) resVs_nil) rfl rfl rfl rfl rfl rfl rfl rfl rfl ?_ ?_ ?_ rfl | refine Ret_boxp (resVs_cons resV_tmp (resVs_cons resV_tmp resVs_nil)) rfl rfl rfl rfl rfl rfl rfl rfl rfl ?_ ?_ ?_ rfl | refine Ret_boxp (resVs_cons (resV_agg (AG rfl) (SZ rfl) rfl rfl (Nat.le_of_ble_eq_true rfl)) (resVs_cons resV_tmp resVs_nil)) rfl rfl rfl rfl rfl rfl rfl rfl rfl ?_ ?_ ?_ rfl)
          · rw [hts]; rfl
          · rw [hts]; rfl
          · rfl
end Go.Proofs.Ytffpepmfdjjjaaa

namespace Go.Proofs.Ytffpepmfdjjjaaa
open Go.Pure
attribute [local irreducible] PW POps POpsD PO PC Cond

theorem kids_ok {g : List UInt8 → Bool → Tr × List UInt8 × Bool} (hg : ∀ l b, l.length ≤ 1000000 → (g l b).1.ok) (hgl : ∀ l b, (g l b).2.1.length ≤ l.length) : ∀ (n : Nat) (l : List UInt8) (b : Bool), l.length ≤ 1000000 → Tr.oks (kidsGo g n l b).1
  | 0, l, b, _ => by simp [kidsGo, Tr.oks]
  | n + 1, l, b, hl => by
    simp only [kidsGo, Tr.oks]
    exact ⟨hg l b hl, kids_ok hg hgl n _ _ (Nat.le_trans (hgl l b) hl)⟩
theorem tree_ok : ∀ (f : Nat) (l : List UInt8) (b : Bool), l.length ≤ 1000000 → (treeGo f l b).1.ok
  | 0, l, b, _ => by simp [treeGo, noTree, Tr.ok, Tr.oks]
  | f + 1, l, b, hl => by
    rw [treeGo]
    split
    · simp [noTree, Tr.ok, Tr.oks]
    · have h0 := rdByte_len l b
      have h1 := numGo_len 10 0 0 (rdByte l b).2.1 (rdByte l b).2.2
      dsimp only
      generalize numGo 10 0 0 (rdByte l b).2.1 (rdByte l b).2.2 = r1 at *
      have h2 := cntGo_le 1 (by decide) r1.2.1 r1.2.2
      generalize cntGo 1 r1.2.1 r1.2.2 = r2 at *
      have h3 := cntGo_le 4 (by decide) (r2.2.1.drop r2.1) r2.2.2
      generalize cntGo 4 (r2.2.1.drop r2.1) r2.2.2 = r3 at *
      simp only [List.length_drop] at h3
      simp only [Tr.ok]
      refine ⟨?_, kids_ok (tree_ok f) (tree_len f) _ _ _ (by omega)⟩
      rw [kids_count]
      simp only [maxLen]
      omega

/-- Four bytes as a number, the lowest one first. -/
def le32 (a b c d : UInt8) : BitVec 32 := BitVec.ofNat 32 (a.toNat + 256 * b.toNat + 65536 * c.toNat + 16777216 * d.toNat)
theorem u32n (n : Nat) (h : n < 4294967296) : IntKind.u32.wrap (n : Int) = (n : Int) := by
  simp [IntKind.wrap, IntKind.bits, IntKind.signed]; omega
theorem or8 (a b : Nat) (ha : a < 256) (hb : b < 256) : IntKind.u32.wrap ((BitVec.ofInt IntKind.u32.bits (a : Int) ||| BitVec.ofInt IntKind.u32.bits ((256 * b : Nat) : Int)).toNat : Int) = ((a + 256 * b : Nat) : Int) := by
  show IntKind.u32.wrap ((BitVec.ofInt 32 (a : Int) ||| BitVec.ofInt 32 ((256 * b : Nat) : Int)).toNat : Int) = _
  rw [BitVec.ofInt_natCast, BitVec.ofInt_natCast, BitVec.toNat_or, BitVec.toNat_ofNat, BitVec.toNat_ofNat, Nat.mod_eq_of_lt (by omega : a < 2 ^ 32), Nat.mod_eq_of_lt (by omega : 256 * b < 2 ^ 32)]
  have h := Nat.two_pow_add_eq_or_of_lt (i := 8) (by omega : a < 2 ^ 8) b
  rw [Nat.or_comm, show (256 : Nat) * b = 2 ^ 8 * b from rfl, ← h, u32n _ (by omega)]
  congr 1; omega
theorem or16 (a b : Nat) (ha : a < 65536) (hb : b < 256) : IntKind.u32.wrap ((BitVec.ofInt IntKind.u32.bits (a : Int) ||| BitVec.ofInt IntKind.u32.bits ((65536 * b : Nat) : Int)).toNat : Int) = ((a + 65536 * b : Nat) : Int) := by
  show IntKind.u32.wrap ((BitVec.ofInt 32 (a : Int) ||| BitVec.ofInt 32 ((65536 * b : Nat) : Int)).toNat : Int) = _
  rw [BitVec.ofInt_natCast, BitVec.ofInt_natCast, BitVec.toNat_or, BitVec.toNat_ofNat, BitVec.toNat_ofNat, Nat.mod_eq_of_lt (by omega : a < 2 ^ 32), Nat.mod_eq_of_lt (by omega : 65536 * b < 2 ^ 32)]
  have h := Nat.two_pow_add_eq_or_of_lt (i := 16) (by omega : a < 2 ^ 16) b
  rw [Nat.or_comm, show (65536 : Nat) * b = 2 ^ 16 * b from rfl, ← h, u32n _ (by omega)]
  congr 1; omega
theorem or24 (a b : Nat) (ha : a < 16777216) (hb : b < 256) : IntKind.u32.wrap ((BitVec.ofInt IntKind.u32.bits (a : Int) ||| BitVec.ofInt IntKind.u32.bits ((16777216 * b : Nat) : Int)).toNat : Int) = ((a + 16777216 * b : Nat) : Int) := by
  show IntKind.u32.wrap ((BitVec.ofInt 32 (a : Int) ||| BitVec.ofInt 32 ((16777216 * b : Nat) : Int)).toNat : Int) = _
  rw [BitVec.ofInt_natCast, BitVec.ofInt_natCast, BitVec.toNat_or, BitVec.toNat_ofNat, BitVec.toNat_ofNat, Nat.mod_eq_of_lt (by omega : a < 2 ^ 32), Nat.mod_eq_of_lt (by omega : 16777216 * b < 2 ^ 32)]
  have h := Nat.two_pow_add_eq_or_of_lt (i := 24) (by omega : a < 2 ^ 24) b
  rw [Nat.or_comm, show (16777216 : Nat) * b = 2 ^ 24 * b from rfl, ← h, u32n _ (by omega)]
  congr 1; omega
def shK (k : Nat) (c : UInt8) : Int := IntKind.u32.wrap (IntKind.u32.wrap (c.toNat : Int) * 2 ^ min ((k : Int)).toNat IntKind.u32.bits)
def orI (x y : Int) : Int := IntKind.u32.wrap ((BitVec.ofInt IntKind.u32.bits x ||| BitVec.ofInt IntKind.u32.bits y).toNat : Int)
theorem le32_eq (a b c d : UInt8) : orI (orI (orI (IntKind.u32.wrap (a.toNat : Int)) (shK 8 b)) (shK 16 c)) (shK 24 d) = ((le32 a b c d).toNat : Int) := by
  have ha := a.toNat_lt; have hb := b.toNat_lt; have hc := c.toNat_lt; have hd := d.toNat_lt
  have e0 : IntKind.u32.wrap (a.toNat : Int) = (a.toNat : Int) := u32n _ (by omega)
  have e1 : shK 8 b = ((256 * b.toNat : Nat) : Int) := by
    unfold shK
    rw [u32n _ (by omega), show min ((8 : Nat) : Int).toNat IntKind.u32.bits = 8 from rfl, show (b.toNat : Int) * 2 ^ 8 = ((256 * b.toNat : Nat) : Int) by omega, u32n _ (by omega)]
  have e2 : shK 16 c = ((65536 * c.toNat : Nat) : Int) := by
    unfold shK
    rw [u32n _ (by omega), show min ((16 : Nat) : Int).toNat IntKind.u32.bits = 16 from rfl, show (c.toNat : Int) * 2 ^ 16 = ((65536 * c.toNat : Nat) : Int) by omega, u32n _ (by omega)]
  have e3 : shK 24 d = ((16777216 * d.toNat : Nat) : Int) := by
    unfold shK
    rw [u32n _ (by omega), show min ((24 : Nat) : Int).toNat IntKind.u32.bits = 24 from rfl, show (d.toNat : Int) * 2 ^ 24 = ((16777216 * d.toNat : Nat) : Int) by omega, u32n _ (by omega)]
  rw [e0, e1, e2, e3]
  unfold orI le32
  rw [or8 _ _ (by omega) (by omega), or16 _ _ (by omega) (by omega), or24 _ _ (by omega) (by omega)]
  simp
  omega
end Go.Proofs.Ytffpepmfdjjjaaa

/- Plain laws: numbers in seven bits a byte, signs folded. -/
namespace Go.Proofs.Ytffpepmfdjjjaaa
open Go.Pure

theorem pow7 (k : Nat) : 2 ^ (7 * (k + 1)) = 128 * 2 ^ (7 * k) := by rw [Nat.mul_add, Nat.pow_add, Nat.mul_comm]
theorem u8of (n : Nat) (h : n < 256) : (UInt8.ofNat n).toNat = n := by simp; omega

theorem numGo_cons (n k x0 : Nat) (c : UInt8) (l : List UInt8) (b : Bool) (cn : Nat) (hc : c.toNat = cn) : numGo (n + 1) k x0 (c :: l) b =
    if cn < 128 ∨ numBad k cn b = true then (numVal k cn x0, l, numBad k cn b) else numGo n (k + 1) (numVal k cn x0) l (numBad k cn b) := by
  subst hc
  rfl
/-- What is written is read. -/
theorem num_there : ∀ (n k x0 y : Nat) (r : List UInt8), n = 10 - k → k ≤ 9 → x0 < 2 ^ (7 * k) → x0 + y * 2 ^ (7 * k) < 2 ^ 64 → (k = 0 ∨ 0 < y) →
    numGo n k x0 (varint y ++ r) false = (x0 + y * 2 ^ (7 * k), r, false)
  | 0, k, x0, y, r, hn, hk, _, _, _ => by omega
  | n + 1, k, x0, y, r, hn, hk, hx, hy, h0 => by
    have hpos : 0 < 2 ^ (7 * k) := Nat.two_pow_pos _
    have hlow : ∀ z, z ≤ y → x0 + z * 2 ^ (7 * k) < 2 ^ 64 := fun z hz => Nat.lt_of_le_of_lt (by have := Nat.mul_le_mul_right (2 ^ (7 * k)) hz; omega) hy
    by_cases hb : 128 ≤ y
    · rw [varint_big hb, List.cons_append, numGo_cons _ _ _ _ _ _ _ (u8of _ (by omega))]
      have h9 : k ≠ 9 := by
        rintro rfl
        have : 128 * 2 ^ (7 * 9) ≤ y * 2 ^ (7 * 9) := Nat.mul_le_mul_right _ hb
        have e : (2 : Nat) ^ (7 * 9) = 9223372036854775808 := by decide
        have e' : (2 : Nat) ^ 64 = 18446744073709551616 := by decide
        omega
      have hnb : numBad k (y % 128 + 128) false = false := by unfold numBad; rw [if_neg (by omega)]
      rw [hnb, if_neg (by simp)]
      have hm : (y % 128 + 128) % 128 = y % 128 := by omega
      have hv : numVal k (y % 128 + 128) x0 = x0 + y % 128 * 2 ^ (7 * k) := by
        unfold numVal; rw [hm]; exact Nat.mod_eq_of_lt (hlow _ (Nat.mod_le _ _))
      rw [hv]
      have hmul : y * 2 ^ (7 * k) = y % 128 * 2 ^ (7 * k) + y / 128 * 2 ^ (7 * (k + 1)) := by
        have hd : y = y % 128 + y / 128 * 128 := by omega
        conv => lhs; rw [hd]
        rw [Nat.add_mul, pow7, Nat.mul_assoc]
      have hs : x0 + y % 128 * 2 ^ (7 * k) < 2 ^ (7 * (k + 1)) := by
        have h1 : y % 128 ≤ 127 := by omega
        have h2 := Nat.mul_le_mul_right (2 ^ (7 * k)) h1
        rw [pow7]; omega
      rw [num_there n (k + 1) _ (y / 128) r (by omega) (by omega) hs (by rw [Nat.add_assoc, ← hmul]; exact hy) (by omega), Nat.add_assoc, ← hmul]
    · rw [varint_small hb, List.singleton_append, numGo_cons _ _ _ _ _ _ _ (u8of _ (by omega))]
      have hnb : numBad k y false = false := by
        unfold numBad
        rw [if_neg]
        rintro (⟨rfl, h1⟩ | ⟨h1, h2⟩)
        · have : 2 * 2 ^ (7 * 9) ≤ y * 2 ^ (7 * 9) := Nat.mul_le_mul_right _ h1
          have e : (2 : Nat) ^ (7 * 9) = 9223372036854775808 := by decide
          have e' : (2 : Nat) ^ 64 = 18446744073709551616 := by decide
          omega
        · omega
      rw [hnb, if_pos (.inl (by omega))]
      have hv : numVal k y x0 = x0 + y * 2 ^ (7 * k) := by
        unfold numVal; rw [Nat.mod_eq_of_lt (by omega : y < 128)]; exact Nat.mod_eq_of_lt hy
      rw [hv]
theorem num_read (x : Nat) (r : List UInt8) (hx : x < 2 ^ 64) : numGo 10 0 0 (varint x ++ r) false = (x, r, false) := by
  have := num_there 10 0 0 x r rfl (by omega) (by decide) (by simpa using hx) (.inl rfl)
  simpa using this

theorem num_bad : ∀ (n k x : Nat) (l : List UInt8), (numGo n k x l true).2.2 = true
  | 0, k, x, l => by simp [numGo]
  | n + 1, k, x, l => by
    have hb : ∀ c, numBad k c true = true := fun c => by unfold numBad; split <;> rfl
    have hr : (rdByte l true).2.2 = true := by cases l <;> rfl
    rw [numGo, hr, hb]
    simp

/-- What is read was written. -/
theorem num_back : ∀ (n k x0 : Nat) (l : List UInt8) (x : Nat) (r : List UInt8), n = 10 - k → k ≤ 10 → x0 < 2 ^ (7 * k) → numGo n k x0 l false = (x, r, false) →
    ∃ y, l = varint y ++ r ∧ x = x0 + y * 2 ^ (7 * k) ∧ (0 < k → 0 < y)
  | 0, k, x0, l, x, r, hn, hk, hx, h => by simp [numGo] at h
  | n + 1, k, x0, l, x, r, hn, hk, hx, h => by
    have hpos : 0 < 2 ^ (7 * k) := Nat.two_pow_pos _
    cases l with
    | nil =>
      have hb : numBad k 0 true = true := by unfold numBad; split <;> rfl
      have h' : (if (0 : Nat) < 128 ∨ numBad k 0 true = true then (numVal k 0 x0, ([] : List UInt8), numBad k 0 true) else numGo n (k + 1) (numVal k 0 x0) [] (numBad k 0 true)) = (x, r, false) := h
      rw [hb] at h'
      simp at h'
    | cons c l =>
      have hc := c.toNat_lt
      rw [numGo_cons _ _ _ _ _ _ _ rfl] at h
      have hnb : numBad k c.toNat false = false := by
        cases hh : numBad k c.toNat false with
        | false => rfl
        | true => rw [hh] at h; simp at h
      have hcond : ¬ ((k = 9 ∧ 1 < c.toNat) ∨ (0 < k ∧ c.toNat = 0)) := by
        intro hh; unfold numBad at hnb; rw [if_pos hh] at hnb; cases hnb
      rw [hnb] at h
      have e9 : (2 : Nat) ^ (7 * 9) = 9223372036854775808 := by decide
      have e64 : (2 : Nat) ^ 64 = 18446744073709551616 := by decide
      have hle : k ≤ 8 → 128 * 2 ^ (7 * k) ≤ 9223372036854775808 := fun h8 => by
        rw [← pow7, ← e9]; exact Nat.pow_le_pow_right (by decide) (by omega)
      have hfit : x0 + c.toNat % 128 * 2 ^ (7 * k) < 2 ^ 64 := by
        have h1 : c.toNat % 128 ≤ 127 := by omega
        have h2 := Nat.mul_le_mul_right (2 ^ (7 * k)) h1
        by_cases h8 : k ≤ 8
        · have := hle h8; omega
        · have hk9 : k = 9 := by omega
          subst hk9
          have h3 : c.toNat % 128 ≤ 1 := by omega
          have h4 := Nat.mul_le_mul_right (2 ^ (7 * 9)) h3
          omega
      have hv : numVal k c.toNat x0 = x0 + c.toNat % 128 * 2 ^ (7 * k) := Nat.mod_eq_of_lt hfit
      rw [hv] at h
      by_cases hs : c.toNat < 128
      · rw [if_pos (.inl hs)] at h
        cases h
        refine ⟨c.toNat, ?_, by rw [Nat.mod_eq_of_lt hs], by omega⟩
        rw [varint_small (by omega)]
        simp
      · rw [if_neg (by simp; omega)] at h
        have hs' : x0 + c.toNat % 128 * 2 ^ (7 * k) < 2 ^ (7 * (k + 1)) := by
          have h1 : c.toNat % 128 ≤ 127 := by omega
          have h2 := Nat.mul_le_mul_right (2 ^ (7 * k)) h1
          rw [pow7]; omega
        obtain ⟨y, h1, h2, h3⟩ := num_back n (k + 1) _ l x r (by omega) (by omega) hs' h
        have hy := h3 (by omega)
        refine ⟨c.toNat % 128 + 128 * y, ?_, ?_, by omega⟩
        · rw [varint_big (by omega)]
          have e1 : (c.toNat % 128 + 128 * y) / 128 = y := by omega
          have e2 : (c.toNat % 128 + 128 * y) % 128 + 128 = c.toNat := by omega
          rw [e1, e2, h1]
          simp
        · rw [h2, pow7, Nat.add_mul, Nat.add_assoc]
          congr 2
          rw [Nat.mul_comm 128 y, Nat.mul_assoc]
theorem num_was {l r : List UInt8} {x : Nat} (h : numGo 10 0 0 l false = (x, r, false)) : l = varint x ++ r := by
  obtain ⟨y, h1, h2, _⟩ := num_back 10 0 0 l x r rfl (by omega) (by decide) h
  simp at h2
  rw [h1, h2]

/-! ### Signs -/
theorem fold_eq (n : Int) (h : -9223372036854775808 ≤ n ∧ n < 9223372036854775808) : fold64 n = if n < 0 then (-2 * n - 1).toNat else (2 * n).toNat := by
  unfold fold64
  have u64i : ∀ m : Int, IntKind.u64.wrap m = m % 18446744073709551616 := fun m => by simp [IntKind.wrap, IntKind.bits, IntKind.signed]
  have ofE : ∀ m : Int, BitVec.ofInt 64 (IntKind.u64.wrap m) = BitVec.ofInt 64 m := fun m => by
    apply BitVec.eq_of_toNat_eq
    rw [u64i, BitVec.toNat_ofInt, BitVec.toNat_ofInt]
    congr 1
    omega
  have i64E : ∀ m : Int, BitVec.ofInt 64 (IntKind.i64.wrap m) = BitVec.ofInt 64 m := fun m => by
    apply BitVec.eq_of_toNat_eq
    rw [BitVec.toNat_ofInt, BitVec.toNat_ofInt]
    congr 1
    simp only [IntKind.wrap, IntKind.bits, IntKind.signed]
    simp
    omega
  rw [ofE, i64E, ofE]
  split
  · rename_i hneg
    have : n.fdiv 9223372036854775808 = -1 := by
      rw [Int.fdiv_eq_ediv_of_nonneg _ (by decide)]; omega
    rw [this]
    have : BitVec.ofInt 64 (-1) = BitVec.allOnes 64 := by decide
    rw [this, BitVec.xor_allOnes, BitVec.toNat_not, BitVec.toNat_ofInt]
    omega
  · rename_i hpos
    have : n.fdiv 9223372036854775808 = 0 := by
      rw [Int.fdiv_eq_ediv_of_nonneg _ (by decide)]; omega
    rw [this]
    have : BitVec.ofInt 64 0 = 0#64 := by decide
    rw [this, BitVec.xor_zero, BitVec.toNat_ofInt]
    omega
theorem unfold_fold (n : Int) (h : -9223372036854775808 ≤ n ∧ n < 9223372036854775808) : unfold64 (fold64 n) = n := by
  rw [fold_eq n h]
  unfold unfold64
  split <;> split <;> omega
theorem fold_unfold (x : Nat) (h : x < 2 ^ 64) : fold64 (unfold64 x) = x := by
  have hr : -9223372036854775808 ≤ unfold64 x ∧ unfold64 x < 9223372036854775808 := by unfold unfold64; split <;> omega
  rw [fold_eq _ hr]
  unfold unfold64
  split <;> split <;> omega
end Go.Proofs.Ytffpepmfdjjjaaa

/- Plain laws: a tree comes back from its bytes; bytes that are read are their tree's. -/
namespace Go.Proofs.Ytffpepmfdjjjaaa
open Go.Pure

mutual
/-- Tags of one byte, numbers of 64 bits. -/
def Tr.fine : Tr → Prop
  | .mk tag n _ kids => (0 ≤ tag ∧ tag ≤ 255) ∧ (-9223372036854775808 ≤ n ∧ n < 9223372036854775808) ∧ Tr.fines kids
def Tr.fines : List Tr → Prop
  | [] => True
  | t :: r => t.fine ∧ Tr.fines r
end
mutual
/-- How many levels. -/
def Tr.tall : Tr → Nat
  | .mk _ _ _ kids => Tr.talls kids + 1
def Tr.talls : List Tr → Nat
  | [] => 0
  | t :: r => max t.tall (Tr.talls r)
end

theorem varint_pos (x : Nat) : 1 ≤ (varint x).length := by
  by_cases h : 128 ≤ x
  · rw [varint_big h]; simp
  · rw [varint_small h]; simp
theorem enc_pos : ∀ t : Tr, 4 ≤ (enc t).length
  | .mk tag n text kids => by
    have h1 := varint_pos (fold64 n)
    have h2 := varint_pos text.size
    have h3 := varint_pos kids.length
    simp only [enc, List.length_cons, List.length_append]
    omega
theorem encs_pos : ∀ l : List Tr, 4 * l.length ≤ (encs l).length
  | [] => by simp
  | t :: r => by
    have h1 := enc_pos t
    have h2 := encs_pos r
    simp only [encs, List.length_append, List.length_cons]
    omega

theorem cnt_read (least m : Nat) (r : List UInt8) (hm : m < 2 ^ 64) (h : m ≤ r.length / least) : cntGo least (varint m ++ r) false = (m, r, false) := by
  unfold cntGo
  rw [num_read m r hm]
  dsimp only
  rw [if_neg (by simp; omega)]
theorem cnt_bad (least : Nat) (l : List UInt8) : (cntGo least l true).2.2 = true := by
  unfold cntGo
  dsimp only
  rw [if_pos (.inl (num_bad _ _ _ _))]
theorem cnt_was {least m : Nat} {l r : List UInt8} {b : Bool} (h : cntGo least l b = (m, r, false)) : b = false ∧ l = varint m ++ r := by
  cases b with
  | true => have := cnt_bad least l; rw [h] at this; cases this
  | false =>
    refine ⟨rfl, ?_⟩
    unfold cntGo at h
    dsimp only at h
    split at h
    · cases h
    · rename_i hh
      have hb : (numGo 10 0 0 l false).2.2 = false := by
        cases hx : (numGo 10 0 0 l false).2.2 with
        | false => rfl
        | true => exact absurd (.inl hx) hh
      apply num_was
      have e : numGo 10 0 0 l false = ((numGo 10 0 0 l false).1, (numGo 10 0 0 l false).2.1, (numGo 10 0 0 l false).2.2) := rfl
      rw [e, hb]
      exact h

theorem tree_bad : ∀ (f : Nat) (l : List UInt8), (treeGo f l true).2.2 = true
  | 0, l => by simp [treeGo]
  | f + 1, l => by simp [treeGo]
theorem kids_bad {g : List UInt8 → Bool → Tr × List UInt8 × Bool} (hg : ∀ l, (g l true).2.2 = true) : ∀ (n : Nat) (l : List UInt8), (kidsGo g n l true).2.2 = true
  | 0, l => by simp [kidsGo]
  | n + 1, l => by
    simp only [kidsGo]
    rw [hg]
    exact kids_bad hg n _

theorem byteI_nat (tag : Int) (h : 0 ≤ tag ∧ tag ≤ 255) : ((byteI tag).toNat : Int) = tag := by
  simp [byteI]
  omega
theorem text_eq (s : ByteArray) : (⟨s.data.toList.toArray⟩ : ByteArray) = s := by cases s; simp

theorem kids_read {f : Nat} (ht : ∀ (t : Tr) (r : List UInt8), t.fine → t.tall ≤ f → (enc t ++ r).length < 2 ^ 63 → treeGo f (enc t ++ r) false = (t, r, false)) :
    ∀ (l : List Tr) (r : List UInt8), Tr.fines l → Tr.talls l ≤ f → (encs l ++ r).length < 2 ^ 63 → kidsGo (treeGo f) l.length (encs l ++ r) false = (l, r, false)
  | [], r, _, _, _ => by simp [kidsGo, encs]
  | t :: l, r, hf, hl, hs => by
    simp only [Tr.fines, Tr.talls, encs] at hf hl hs
    simp only [List.length_cons, kidsGo, encs]
    rw [List.append_assoc] at hs ⊢
    rw [ht t (encs l ++ r) hf.1 (by omega) hs]
    dsimp only
    rw [kids_read ht l r hf.2 (by omega) (by simp only [List.length_append] at hs ⊢; omega)]
theorem tree_read : ∀ (f : Nat) (t : Tr) (r : List UInt8), t.fine → t.tall ≤ f → (enc t ++ r).length < 2 ^ 63 → treeGo f (enc t ++ r) false = (t, r, false)
  | 0, .mk tag n text kids, r, _, h, _ => by simp [Tr.tall] at h
  | f + 1, .mk tag n text kids, r, hf, hl, hs => by
    simp only [Tr.fine, Tr.tall] at hf hl
    have h1 := encs_pos kids
    have hlen : (enc (.mk tag n text kids) ++ r).length = 1 + (varint (fold64 n)).length + (varint text.size).length + text.size + (varint kids.length).length + (encs kids).length + r.length := by
      simp only [enc, List.length_cons, List.length_append, Array.length_toList]
      show _ + (_ + (text.size + _)) + 1 + _ = _
      omega
    rw [hlen] at hs
    rw [treeGo, if_neg (by decide)]
    simp only [enc, List.cons_append, rdByte, List.append_assoc]
    rw [num_read _ _ (fold64_lt n)]
    dsimp only
    rw [cnt_read 1 text.size _ (by omega) (by simp only [List.length_append, Array.length_toList, Nat.div_one]; show text.size ≤ text.size + _; omega)]
    dsimp only
    have e1 : (text.data.toList ++ (varint kids.length ++ (encs kids ++ r))).drop text.size = varint kids.length ++ (encs kids ++ r) := List.drop_left' (by simp)
    have e2 : (text.data.toList ++ (varint kids.length ++ (encs kids ++ r))).take text.size = text.data.toList := List.take_left' (by simp)
    rw [e1, e2, cnt_read 4 kids.length _ (by omega) (by simp only [List.length_append]; omega)]
    dsimp only
    rw [kids_read (tree_read f) kids r hf.2.2 (by omega) (by simp only [List.length_append]; omega)]
    rw [byteI_nat _ hf.1, unfold_fold n hf.2.1, text_eq]

theorem kids_was {f : Nat} (ht : ∀ (l : List UInt8) (b : Bool) (t : Tr) (r : List UInt8), treeGo f l b = (t, r, false) → b = false ∧ l = enc t ++ r ∧ t.fine) :
    ∀ (n : Nat) (l : List UInt8) (b : Bool) (k : List Tr) (r : List UInt8), kidsGo (treeGo f) n l b = (k, r, false) → b = false ∧ l = encs k ++ r ∧ Tr.fines k
  | 0, l, b, k, r, h => by
    simp only [kidsGo] at h
    cases h
    simp [encs, Tr.fines]
  | n + 1, l, b, k, r, h => by
    simp only [kidsGo] at h
    have e : treeGo f l b = ((treeGo f l b).1, (treeGo f l b).2.1, (treeGo f l b).2.2) := rfl
    have hk := congrArg (fun x => x.2) h
    have hk1 := congrArg (fun x => x.1) h
    dsimp only at hk hk1
    have e2 : kidsGo (treeGo f) n (treeGo f l b).2.1 (treeGo f l b).2.2 = ((kidsGo (treeGo f) n (treeGo f l b).2.1 (treeGo f l b).2.2).1, r, false) := by rw [← hk]
    obtain ⟨h1, h2, h3⟩ := kids_was ht n _ _ _ _ e2
    rw [h1] at e
    obtain ⟨g1, g2, g3⟩ := ht l b _ _ e
    refine ⟨g1, ?_, ?_⟩
    · rw [← hk1]
      simp only [encs]
      rw [List.append_assoc, ← h2]
      exact g2
    · rw [← hk1]
      simp only [Tr.fines]
      exact ⟨g3, h3⟩
theorem tree_was : ∀ (f : Nat) (l : List UInt8) (b : Bool) (t : Tr) (r : List UInt8), treeGo f l b = (t, r, false) → b = false ∧ l = enc t ++ r ∧ t.fine
  | 0, l, b, t, r, h => by simp [treeGo] at h
  | f + 1, l, b, t, r, h => by
    cases b with
    | true => have := tree_bad (f + 1) l; rw [h] at this; cases this
    | false =>
      rw [treeGo, if_neg (by decide)] at h
      dsimp only at h
      cases l with
      | nil =>
        have n1 := num_bad 10 0 0 []
        have : (rdByte [] false) = (0, [], true) := rfl
        rw [this] at h
        dsimp only at h
        generalize numGo 10 0 0 [] true = r1 at h n1
        obtain ⟨x, l1, b1⟩ := r1
        dsimp only at n1 h
        subst n1
        have n2 := cnt_bad 1 l1
        generalize cntGo 1 l1 true = r2 at h n2
        obtain ⟨y, l2, b2⟩ := r2
        dsimp only at n2 h
        subst n2
        have n3 := cnt_bad 4 (l2.drop y)
        generalize cntGo 4 (l2.drop y) true = r3 at h n3
        obtain ⟨z, l3, b3⟩ := r3
        dsimp only at n3 h
        subst n3
        have n4 := kids_bad (tree_bad f) z l3
        have := congrArg (fun x => x.2.2) h
        dsimp only at this
        rw [n4] at this
        cases this
      | cons c l =>
        have : (rdByte (c :: l) false) = (c.toNat, l, false) := rfl
        rw [this] at h
        dsimp only at h
        have hx := numGo_lt 10 0 0 l false
        cases hr1 : numGo 10 0 0 l false with
        | mk x p1 =>
        obtain ⟨l1, b1⟩ := p1
        rw [hr1] at h hx
        dsimp only at h hx
        cases hr2 : cntGo 1 l1 b1 with
        | mk y p2 =>
        obtain ⟨l2, b2⟩ := p2
        have hy := (cntGo_le 1 (by decide) l1 b1).1
        rw [hr2] at h hy
        dsimp only at h hy
        cases hr3 : cntGo 4 (l2.drop y) b2 with
        | mk z p3 =>
        obtain ⟨l3, b3⟩ := p3
        rw [hr3] at h
        dsimp only at h
        have hk := congrArg (fun x => x.2) h
        have ht := congrArg (fun x => x.1) h
        dsimp only at hk ht
        have hc := kids_count (treeGo f) z l3 b3
        have e2 : kidsGo (treeGo f) z l3 b3 = ((kidsGo (treeGo f) z l3 b3).1, r, false) := by rw [← hk]
        obtain ⟨k1, k2, k3⟩ := kids_was (tree_was f) z l3 b3 _ _ e2
        subst k1
        obtain ⟨q1, q2⟩ := cnt_was hr3
        subst q1
        obtain ⟨s1, s2⟩ := cnt_was hr2
        subst s1
        have s3 := num_was hr1
        refine ⟨rfl, ?_, ?_⟩
        · rw [← ht]
          simp only [enc]
          rw [hc, fold_unfold x hx]
          have e3 : (⟨(l2.take y).toArray⟩ : ByteArray).size = y := by
            show (l2.take y).toArray.size = y
            simp; omega
          have e4 : byteI (c.toNat : Int) = c := by
            have := c.toNat_lt
            simp [byteI]
            have : ((c.toNat : Int) % 256).toNat = c.toNat := by omega
            rw [this]; simp
          rw [e3, e4, s3, s2, List.cons_append]
          simp only [List.append_assoc]
          rw [← k2, ← q2]
          simp
        · rw [← ht]
          simp only [Tr.fine]
          refine ⟨?_, ?_, k3⟩
          · have := c.toNat_lt; omega
          · unfold unfold64; split <;> omega
end Go.Proofs.Ytffpepmfdjjjaaa

namespace Go.Proofs.Ytffpepmfdjjjaaa
open Go.Pure
attribute [local irreducible] PW POps POpsD PO PC Cond

/-- A tree of bytes whose sum is apart. -/
def parseB (body : List UInt8) (s : BitVec 32) : Tr × Int :=
  if sumB body ≠ s then (noTree, 8)
  else if (treeGo 40 body false).2.2 = true ∨ 0 < (treeGo 40 body false).2.1.length ∨ wrongT (treeGo 40 body false).1 ≠ 0 then (noTree, 2)
  else ((treeGo 40 body false).1, 0)

set_option maxRecDepth 100000 in
set_option maxHeartbeats 4000000 in
theorem parse_long (l : List UInt8) (h : 100000 < l.length) (hm : l.length ≤ 1000000000) : PC Try.prog 24 [.g (.sl (bys l))] ⟨[], [], []⟩ (.tuple [.g noTree.g, .g (.int .i64 4)]) ⟨[], [], []⟩ := by
  refine PC_of_PW Try.func24 rfl rfl (rs := _) rfl (Nat.le_of_ble_eq_true (by kernel_rfl)) ?_
  (repeat (first | (refine POps_nil ?_; try show PW _ _ _ _ _ _) | (refine POpsD_nil ?_; try show PW _ _ _ _ _ _) | refine runO_ok tabOk 300 rfl rfl ?_ | refine runO_ok tabOk 6 rfl rfl ?_ | refine runO_ok tabOk 1 rfl rfl ?_ | refine runD_ok tabOk 300 rfl rfl ?_ | refine runD_ok tabOk 6 rfl rfl ?_ | refine runD_ok tabOk 1 rfl rfl ?_ | (apply POps_run rfl rfl; focus (first | exact PO_conv_int rfl (IK rfl) (IK rfl) rfl | exact PO_makeFunc rfl | exact PO_buildSlice rfl (EL rfl) (SZ rfl) (AG rfl) (ZR rfl) rfl rfl rfl rfl rfl rfl rfl | exact PO_nilCheck rfl rfl | exact PO_conv_int rfl (IK rfl) (IK rfl) rfl)) | (apply POpsD_run rfl rfl; focus (first | exact Cond_c (PO_conv_int rfl (IK rfl) (IK rfl) rfl) | exact Cond_c (PO_makeFunc rfl) | exact Cond_c (PO_buildSlice rfl (EL rfl) (SZ rfl) (AG rfl) (ZR rfl) rfl rfl rfl rfl rfl rfl rfl) | exact Cond_f (fun _ => PO_conv_int rfl (IK rfl) (IK rfl) rfl) | exact Cond_f (fun _ => PO_makeFunc rfl) | exact Cond_f (fun _ => PO_buildSlice rfl (EL rfl) (SZ rfl) (AG rfl) (ZR rfl) rfl rfl rfl rfl rfl rfl rfl) | exact Cond_f (fun _ => PO_nilCheck rfl rfl) | exact Cond_f (fun _ => PO_conv_int rfl (IK rfl) (IK rfl) rfl))) | refine PW_seq ?_ | refine PW_region ?_ | refine PW_draw_all mixed (by kernel_rfl) ?_ | refine PW_block ?_ | (refine PW_skip ?_; try show PW _ _ _ _ _ _) | (refine PW_exit ?_; try show PW _ _ _ _ _ _) | (refine PW_ret ?_; try show PW _ _ _ _ _ _) | refine PW_cond_t rfl ?_ | refine PW_cond_f rfl ?_))
  (first | refine POps_split rfl rfl (fun h => ?_) (fun h => ?_) | refine POpsD_split rfl rfl (fun h => ?_) (fun h => ?_) | refine PW_cond rfl (fun h => ?_) (fun h => ?_))
  · (repeat (first | (refine POps_nil ?_; try show PW _ _ _ _ _ _) | (refine POpsD_nil ?_; try show PW _ _ _ _ _ _) | refine runO_ok tabOk 300 rfl rfl ?_ | refine runO_ok tabOk 6 rfl rfl ?_ | refine runO_ok tabOk 1 rfl rfl ?_ | refine runD_ok tabOk 300 rfl rfl ?_ | refine runD_ok tabOk 6 rfl rfl ?_ | refine runD_ok tabOk 1 rfl rfl ?_ | (apply POps_run rfl rfl; focus (first | exact PO_conv_int rfl (IK rfl) (IK rfl) rfl | exact PO_makeFunc rfl | exact PO_buildSlice rfl (EL rfl) (SZ rfl) (AG rfl) (ZR rfl) rfl rfl rfl rfl rfl rfl rfl | exact PO_nilCheck rfl rfl | exact PO_conv_int rfl (IK rfl) (IK rfl) rfl)) | (apply POpsD_run rfl rfl; focus (first | exact Cond_c (PO_conv_int rfl (IK rfl) (IK rfl) rfl) | exact Cond_c (PO_makeFunc rfl) | exact Cond_c (PO_buildSlice rfl (EL rfl) (SZ rfl) (AG rfl) (ZR rfl) rfl rfl rfl rfl rfl rfl rfl) | exact Cond_f (fun _ => PO_conv_int rfl (IK rfl) (IK rfl) rfl) | exact Cond_f (fun _ => PO_makeFunc rfl) | exact Cond_f (fun _ => PO_buildSlice rfl (EL rfl) (SZ rfl) (AG rfl) (ZR rfl) rfl rfl rfl rfl rfl rfl rfl) | exact Cond_f (fun _ => PO_nilCheck rfl rfl) | exact Cond_f (fun _ => PO_conv_int rfl (IK rfl) (IK rfl) rfl))) | refine PW_seq ?_ | refine PW_region ?_ | refine PW_draw_all mixed (by kernel_rfl) ?_ | refine PW_block ?_ | (refine PW_skip ?_; try show PW _ _ _ _ _ _) | (refine PW_exit ?_; try show PW _ _ _ _ _ _) | (refine PW_ret ?_; try show PW _ _ _ _ _ _) | refine PW_cond_t rfl ?_ | refine PW_cond_f rfl ?_))
    exact Ret_two (resVs_cons (resV_agg (AG rfl) (SZ rfl) rfl rfl (Nat.le_of_ble_eq_true rfl)) (resVs_cons resV_tmp resVs_nil)) rfl rfl rfl
  · have := of_decide_eq_false h
    rw [bys_len] at this
    omega
set_option maxRecDepth 100000 in
set_option maxHeartbeats 4000000 in
theorem parse_short (l : List UInt8) (h : l.length < 4) : PC Try.prog 24 [.g (.sl (bys l))] ⟨[], [], []⟩ (.tuple [.g noTree.g, .g (.int .i64 2)]) ⟨[], [], []⟩ := by
  have hw : IntKind.i64.wrap (((bys l).length : Int) - 4) = (l.length : Int) - 4 := by rw [bys_len]; exact wrap64 (by omega)
  refine PC_of_PW Try.func24 rfl rfl (rs := _) rfl (Nat.le_of_ble_eq_true (by kernel_rfl)) ?_
  (repeat (first | (refine POps_nil ?_; try show PW _ _ _ _ _ _) | (refine POpsD_nil ?_; try show PW _ _ _ _ _ _) | refine runO_ok tabOk 300 rfl rfl ?_ | refine runO_ok tabOk 6 rfl rfl ?_ | refine runO_ok tabOk 1 rfl rfl ?_ | refine runD_ok tabOk 300 rfl rfl ?_ | refine runD_ok tabOk 6 rfl rfl ?_ | refine runD_ok tabOk 1 rfl rfl ?_ | (apply POps_run rfl rfl; focus (first | exact PO_conv_int rfl (IK rfl) (IK rfl) rfl | exact PO_makeFunc rfl | exact PO_buildSlice rfl (EL rfl) (SZ rfl) (AG rfl) (ZR rfl) rfl rfl rfl rfl rfl rfl rfl | exact PO_nilCheck rfl rfl | exact PO_conv_int rfl (IK rfl) (IK rfl) rfl)) | (apply POpsD_run rfl rfl; focus (first | exact Cond_c (PO_conv_int rfl (IK rfl) (IK rfl) rfl) | exact Cond_c (PO_makeFunc rfl) | exact Cond_c (PO_buildSlice rfl (EL rfl) (SZ rfl) (AG rfl) (ZR rfl) rfl rfl rfl rfl rfl rfl rfl) | exact Cond_f (fun _ => PO_conv_int rfl (IK rfl) (IK rfl) rfl) | exact Cond_f (fun _ => PO_makeFunc rfl) | exact Cond_f (fun _ => PO_buildSlice rfl (EL rfl) (SZ rfl) (AG rfl) (ZR rfl) rfl rfl rfl rfl rfl rfl rfl) | exact Cond_f (fun _ => PO_nilCheck rfl rfl) | exact Cond_f (fun _ => PO_conv_int rfl (IK rfl) (IK rfl) rfl))) | refine PW_seq ?_ | refine PW_region ?_ | refine PW_draw_all mixed (by kernel_rfl) ?_ | refine PW_block ?_ | (refine PW_skip ?_; try show PW _ _ _ _ _ _) | (refine PW_exit ?_; try show PW _ _ _ _ _ _) | (refine PW_ret ?_; try show PW _ _ _ _ _ _) | refine PW_cond_t rfl ?_ | refine PW_cond_f rfl ?_))
  (first | refine POps_split rfl rfl (fun h => ?_) (fun h => ?_) | refine POpsD_split rfl rfl (fun h => ?_) (fun h => ?_) | refine PW_cond rfl (fun h => ?_) (fun h => ?_))
  · have := of_decide_eq_true h
    rw [bys_len] at this
    omega
  · (repeat (first | (refine POps_nil ?_; try show PW _ _ _ _ _ _) | (refine POpsD_nil ?_; try show PW _ _ _ _ _ _) | refine runO_ok tabOk 300 rfl rfl ?_ | refine runO_ok tabOk 6 rfl rfl ?_ | refine runO_ok tabOk 1 rfl rfl ?_ | refine runD_ok tabOk 300 rfl rfl ?_ | refine runD_ok tabOk 6 rfl rfl ?_ | refine runD_ok tabOk 1 rfl rfl ?_ | (apply POps_run rfl rfl; focus (first | exact PO_conv_int rfl (IK rfl) (IK rfl) rfl | exact PO_makeFunc rfl | exact PO_buildSlice rfl (EL rfl) (SZ rfl) (AG rfl) (ZR rfl) rfl rfl rfl rfl rfl rfl rfl | exact PO_nilCheck rfl rfl | exact PO_conv_int rfl (IK rfl) (IK rfl) rfl)) | (apply POpsD_run rfl rfl; focus (first | exact Cond_c (PO_conv_int rfl (IK rfl) (IK rfl) rfl) | exact Cond_c (PO_makeFunc rfl) | exact Cond_c (PO_buildSlice rfl (EL rfl) (SZ rfl) (AG rfl) (ZR rfl) rfl rfl rfl rfl rfl rfl rfl) | exact Cond_f (fun _ => PO_conv_int rfl (IK rfl) (IK rfl) rfl) | exact Cond_f (fun _ => PO_makeFunc rfl) | exact Cond_f (fun _ => PO_buildSlice rfl (EL rfl) (SZ rfl) (AG rfl) (ZR rfl) rfl rfl rfl rfl rfl rfl rfl) | exact Cond_f (fun _ => PO_nilCheck rfl rfl) | exact Cond_f (fun _ => PO_conv_int rfl (IK rfl) (IK rfl) rfl))) | refine PW_seq ?_ | refine PW_region ?_ | refine PW_draw_all mixed (by kernel_rfl) ?_ | refine PW_block ?_ | (refine PW_skip ?_; try show PW _ _ _ _ _ _) | (refine PW_exit ?_; try show PW _ _ _ _ _ _) | (refine PW_ret ?_; try show PW _ _ _ _ _ _) | refine PW_cond_t rfl ?_ | refine PW_cond_f rfl ?_))
    (first | refine POps_split rfl rfl (fun h => ?_) (fun h => ?_) | refine POpsD_split rfl rfl (fun h => ?_) (fun h => ?_) | refine PW_cond rfl (fun h => ?_) (fun h => ?_))
    · (repeat (first | (refine POps_nil ?_; try show PW _ _ _ _ _ _) | (refine POpsD_nil ?_; try show PW _ _ _ _ _ _) | refine runO_ok tabOk 300 rfl rfl ?_ | refine runO_ok tabOk 6 rfl rfl ?_ | refine runO_ok tabOk 1 rfl rfl ?_ | refine runD_ok tabOk 300 rfl rfl ?_ | refine runD_ok tabOk 6 rfl rfl ?_ | refine runD_ok tabOk 1 rfl rfl ?_ | (apply POps_run rfl rfl; focus (first | exact PO_conv_int rfl (IK rfl) (IK rfl) rfl | exact PO_makeFunc rfl | exact PO_buildSlice rfl (EL rfl) (SZ rfl) (AG rfl) (ZR rfl) rfl rfl rfl rfl rfl rfl rfl | exact PO_nilCheck rfl rfl | exact PO_conv_int rfl (IK rfl) (IK rfl) rfl)) | (apply POpsD_run rfl rfl; focus (first | exact Cond_c (PO_conv_int rfl (IK rfl) (IK rfl) rfl) | exact Cond_c (PO_makeFunc rfl) | exact Cond_c (PO_buildSlice rfl (EL rfl) (SZ rfl) (AG rfl) (ZR rfl) rfl rfl rfl rfl rfl rfl rfl) | exact Cond_f (fun _ => PO_conv_int rfl (IK rfl) (IK rfl) rfl) | exact Cond_f (fun _ => PO_makeFunc rfl) | exact Cond_f (fun _ => PO_buildSlice rfl (EL rfl) (SZ rfl) (AG rfl) (ZR rfl) rfl rfl rfl rfl rfl rfl rfl) | exact Cond_f (fun _ => PO_nilCheck rfl rfl) | exact Cond_f (fun _ => PO_conv_int rfl (IK rfl) (IK rfl) rfl))) | refine PW_seq ?_ | refine PW_region ?_ | refine PW_draw_all mixed (by kernel_rfl) ?_ | refine PW_block ?_ | (refine PW_skip ?_; try show PW _ _ _ _ _ _) | (refine PW_exit ?_; try show PW _ _ _ _ _ _) | (refine PW_ret ?_; try show PW _ _ _ _ _ _) | refine PW_cond_t rfl ?_ | refine PW_cond_f rfl ?_))
      exact Ret_two (resVs_cons (resV_agg (AG rfl) (SZ rfl) rfl rfl (Nat.le_of_ble_eq_true rfl)) (resVs_cons resV_tmp resVs_nil)) rfl rfl rfl
    · have := of_decide_eq_false h
      rw [hw] at this
      omega
set_option maxRecDepth 100000 in
set_option maxHeartbeats 4000000 in
theorem parse_pc (body : List UInt8) (a b c d : UInt8) (hl : body.length + 4 ≤ 100000) :
    PC Try.prog 24 [.g (.sl (bys (body ++ [a, b, c, d])))] ⟨[], [], []⟩ (.tuple [.g (parseB body (le32 a b c d)).1.g, .g (.int .i64 (parseB body (le32 a b c d)).2)]) ⟨[], [], []⟩ := by
  generalize hll : body ++ [a, b, c, d] = l
  have hlen : l.length = body.length + 4 := by rw [← hll]; simp
  have hw : IntKind.i64.wrap (((bys l).length : Int) - 4) = (body.length : Int) := by rw [bys_len, hlen]; rw [wrap64 (by omega)]; omega
  have ga : (bys l)[(IntKind.i64.wrap (((bys l).length : Int) - 4)).toNat]? = some (byteG a) := by rw [hw, ← hll]; simp [bys]
  have gb : (bys l)[(IntKind.i64.wrap (IntKind.i64.wrap (((bys l).length : Int) - 4) + 1)).toNat]? = some (byteG b) := by rw [hw, wrap64 (by omega), ← hll, show ((body.length : Int) + 1).toNat = body.length + 1 by omega]; simp [bys]
  have gc : (bys l)[(IntKind.i64.wrap (IntKind.i64.wrap (((bys l).length : Int) - 4) + 2)).toNat]? = some (byteG c) := by rw [hw, wrap64 (by omega), ← hll, show ((body.length : Int) + 2).toNat = body.length + 2 by omega]; simp [bys]
  have gd : (bys l)[(IntKind.i64.wrap (IntKind.i64.wrap (((bys l).length : Int) - 4) + 3)).toNat]? = some (byteG d) := by rw [hw, wrap64 (by omega), ← hll, show ((body.length : Int) + 3).toNat = body.length + 3 by omega]; simp [bys]
  have pa : 0 ≤ IntKind.i64.wrap (((bys l).length : Int) - 4) := by rw [hw]; omega
  have pb : 0 ≤ IntKind.i64.wrap (IntKind.i64.wrap (((bys l).length : Int) - 4) + 1) := by rw [hw, wrap64 (by omega)]; omega
  have pc : 0 ≤ IntKind.i64.wrap (IntKind.i64.wrap (((bys l).length : Int) - 4) + 2) := by rw [hw, wrap64 (by omega)]; omega
  have pd : 0 ≤ IntKind.i64.wrap (IntKind.i64.wrap (((bys l).length : Int) - 4) + 3) := by rw [hw, wrap64 (by omega)]; omega
  have hsum := sum_pc body (by omega)
  have htake : (l.drop 0).take (body.length - 0) = body := by rw [← hll]; simp
  have ht := tree_pc 40 body false (by omega) (by omega)
  have hok := tree_ok 40 body false (by omega)
  have hwr := wrong_pc _ hok
  have hle := le32_eq a b c d
  unfold parseB
  generalize treeGo 40 body false = r at ht hok hwr
  obtain ⟨⟨ta, tb, tc, td⟩, rl, rb⟩ := r
  dsimp only at ht hok hwr
  refine PC_of_PW Try.func24 rfl rfl (rs := _) rfl (Nat.le_of_ble_eq_true (by kernel_rfl)) ?_
  (repeat (first | (refine POps_nil ?_; try show PW _ _ _ _ _ _) | (refine POpsD_nil ?_; try show PW _ _ _ _ _ _) | refine runO_ok tabOk 300 rfl rfl ?_ | refine runO_ok tabOk 6 rfl rfl ?_ | refine runO_ok tabOk 1 rfl rfl ?_ | refine runD_ok tabOk 300 rfl rfl ?_ | refine runD_ok tabOk 6 rfl rfl ?_ | refine runD_ok tabOk 1 rfl rfl ?_ | (apply POps_run rfl rfl; focus (first | exact PO_conv_int rfl (IK rfl) (IK rfl) rfl | exact PO_makeFunc rfl | exact PO_buildSlice rfl (EL rfl) (SZ rfl) (AG rfl) (ZR rfl) rfl rfl rfl rfl rfl rfl rfl | exact PO_nilCheck rfl rfl | exact PO_conv_int rfl (IK rfl) (IK rfl) rfl)) | (apply POpsD_run rfl rfl; focus (first | exact Cond_c (PO_conv_int rfl (IK rfl) (IK rfl) rfl) | exact Cond_c (PO_makeFunc rfl) | exact Cond_c (PO_buildSlice rfl (EL rfl) (SZ rfl) (AG rfl) (ZR rfl) rfl rfl rfl rfl rfl rfl rfl) | exact Cond_f (fun _ => PO_conv_int rfl (IK rfl) (IK rfl) rfl) | exact Cond_f (fun _ => PO_makeFunc rfl) | exact Cond_f (fun _ => PO_buildSlice rfl (EL rfl) (SZ rfl) (AG rfl) (ZR rfl) rfl rfl rfl rfl rfl rfl rfl) | exact Cond_f (fun _ => PO_nilCheck rfl rfl) | exact Cond_f (fun _ => PO_conv_int rfl (IK rfl) (IK rfl) rfl))) | refine PW_seq ?_ | refine PW_region ?_ | refine PW_draw_all mixed (by kernel_rfl) ?_ | refine PW_block ?_ | (refine PW_skip ?_; try show PW _ _ _ _ _ _) | (refine PW_exit ?_; try show PW _ _ _ _ _ _) | (refine PW_ret ?_; try show PW _ _ _ _ _ _) | refine PW_cond_t rfl ?_ | refine PW_cond_f rfl ?_))
  (first | refine POps_split rfl rfl (fun h => ?_) (fun h => ?_) | refine POpsD_split rfl rfl (fun h => ?_) (fun h => ?_) | refine PW_cond rfl (fun h => ?_) (fun h => ?_))
  · have := of_decide_eq_true h
    rw [bys_len] at this
    omega
  (repeat (first | (refine POps_nil ?_; try show PW _ _ _ _ _ _) | (refine POpsD_nil ?_; try show PW _ _ _ _ _ _) | refine runO_ok tabOk 300 rfl rfl ?_ | refine runO_ok tabOk 6 rfl rfl ?_ | refine runO_ok tabOk 1 rfl rfl ?_ | refine runD_ok tabOk 300 rfl rfl ?_ | refine runD_ok tabOk 6 rfl rfl ?_ | refine runD_ok tabOk 1 rfl rfl ?_ | (apply POps_run rfl rfl; focus (first | exact PO_conv_int rfl (IK rfl) (IK rfl) rfl | exact PO_makeFunc rfl | exact PO_buildSlice rfl (EL rfl) (SZ rfl) (AG rfl) (ZR rfl) rfl rfl rfl rfl rfl rfl rfl | exact PO_nilCheck rfl rfl | exact PO_conv_int rfl (IK rfl) (IK rfl) rfl)) | (apply POpsD_run rfl rfl; focus (first | exact Cond_c (PO_conv_int rfl (IK rfl) (IK rfl) rfl) | exact Cond_c (PO_makeFunc rfl) | exact Cond_c (PO_buildSlice rfl (EL rfl) (SZ rfl) (AG rfl) (ZR rfl) rfl rfl rfl rfl rfl rfl rfl) | exact Cond_f (fun _ => PO_conv_int rfl (IK rfl) (IK rfl) rfl) | exact Cond_f (fun _ => PO_makeFunc rfl) | exact Cond_f (fun _ => PO_buildSlice rfl (EL rfl) (SZ rfl) (AG rfl) (ZR rfl) rfl rfl rfl rfl rfl rfl rfl) | exact Cond_f (fun _ => PO_nilCheck rfl rfl) | exact Cond_f (fun _ => PO_conv_int rfl (IK rfl) (IK rfl) rfl))) | refine PW_seq ?_ | refine PW_region ?_ | refine PW_draw_all mixed (by kernel_rfl) ?_ | refine PW_block ?_ | (refine PW_skip ?_; try show PW _ _ _ _ _ _) | (refine PW_exit ?_; try show PW _ _ _ _ _ _) | (refine PW_ret ?_; try show PW _ _ _ _ _ _) | refine PW_cond_t rfl ?_ | refine PW_cond_f rfl ?_))
  (first | refine POps_split rfl rfl (fun h => ?_) (fun h => ?_) | refine POpsD_split rfl rfl (fun h => ?_) (fun h => ?_) | refine PW_cond rfl (fun h => ?_) (fun h => ?_))
  · have := of_decide_eq_true h
    rw [hw] at this
    omega
  (repeat (first | (refine POps_nil ?_; try show PW _ _ _ _ _ _) | (refine POpsD_nil ?_; try show PW _ _ _ _ _ _) | refine runO_ok tabOk 300 rfl rfl ?_ | refine runO_ok tabOk 6 rfl rfl ?_ | refine runO_ok tabOk 1 rfl rfl ?_ | refine runD_ok tabOk 300 rfl rfl ?_ | refine runD_ok tabOk 6 rfl rfl ?_ | refine runD_ok tabOk 1 rfl rfl ?_ | (apply POps_run rfl rfl; focus (first | exact PO_slice_bys body 0 body.length rfl (EL rfl) (SZ rfl) rfl rfl rfl rfl hw (Nat.zero_le _) (by omega) htake | exact call_pure rfl rfl (EN rfl) (hsum) rfl rfl rfl | exact PO_indexAddr rfl (EL rfl) (SZ rfl) rfl rfl pa ga rfl | exact PO_indexAddr rfl (EL rfl) (SZ rfl) rfl rfl pb gb rfl | exact PO_indexAddr rfl (EL rfl) (SZ rfl) rfl rfl pc gc rfl | exact PO_indexAddr rfl (EL rfl) (SZ rfl) rfl rfl pd gd rfl | exact PO_shl rfl rfl rfl (by decide) | exact PO_conv_int rfl (IK rfl) (IK rfl) rfl | exact PO_makeFunc rfl | exact PO_buildSlice rfl (EL rfl) (SZ rfl) (AG rfl) (ZR rfl) rfl rfl rfl rfl rfl rfl rfl | exact PO_nilCheck rfl rfl | exact PO_conv_int rfl (IK rfl) (IK rfl) rfl)) | (apply POpsD_run rfl rfl; focus (first | exact Cond_c (PO_slice_bys body 0 body.length rfl (EL rfl) (SZ rfl) rfl rfl rfl rfl hw (Nat.zero_le _) (by omega) htake) | exact Cond_c (call_pure rfl rfl (EN rfl) (hsum) rfl rfl rfl) | exact Cond_c (PO_indexAddr rfl (EL rfl) (SZ rfl) rfl rfl pa ga rfl) | exact Cond_c (PO_indexAddr rfl (EL rfl) (SZ rfl) rfl rfl pb gb rfl) | exact Cond_c (PO_indexAddr rfl (EL rfl) (SZ rfl) rfl rfl pc gc rfl) | exact Cond_c (PO_indexAddr rfl (EL rfl) (SZ rfl) rfl rfl pd gd rfl) | exact Cond_c (PO_shl rfl rfl rfl (by decide)) | exact Cond_c (PO_conv_int rfl (IK rfl) (IK rfl) rfl) | exact Cond_c (PO_makeFunc rfl) | exact Cond_c (PO_buildSlice rfl (EL rfl) (SZ rfl) (AG rfl) (ZR rfl) rfl rfl rfl rfl rfl rfl rfl) | exact Cond_f (fun _ => PO_slice_bys body 0 body.length rfl (EL rfl) (SZ rfl) rfl rfl rfl rfl hw (Nat.zero_le _) (by omega) htake) | exact Cond_f (fun _ => call_pure rfl rfl (EN rfl) (hsum) rfl rfl rfl) | exact Cond_f (fun _ => PO_indexAddr rfl (EL rfl) (SZ rfl) rfl rfl pa ga rfl) | exact Cond_f (fun _ => PO_indexAddr rfl (EL rfl) (SZ rfl) rfl rfl pb gb rfl) | exact Cond_f (fun _ => PO_indexAddr rfl (EL rfl) (SZ rfl) rfl rfl pc gc rfl) | exact Cond_f (fun _ => PO_indexAddr rfl (EL rfl) (SZ rfl) rfl rfl pd gd rfl) | exact Cond_f (fun _ => PO_shl rfl rfl rfl (by decide)) | exact Cond_f (fun _ => PO_conv_int rfl (IK rfl) (IK rfl) rfl) | exact Cond_f (fun _ => PO_makeFunc rfl) | exact Cond_f (fun _ => PO_buildSlice rfl (EL rfl) (SZ rfl) (AG rfl) (ZR rfl) rfl rfl rfl rfl rfl rfl rfl) | exact Cond_f (fun _ => PO_nilCheck rfl rfl) | exact Cond_f (fun _ => PO_conv_int rfl (IK rfl) (IK rfl) rfl))) | refine PW_seq ?_ | refine PW_region ?_ | refine PW_draw_all mixed (by kernel_rfl) ?_ | refine PW_block ?_ | (refine PW_skip ?_; try show PW _ _ _ _ _ _) | (refine PW_exit ?_; try show PW _ _ _ _ _ _) | (refine PW_ret ?_; try show PW _ _ _ _ _ _) | refine PW_cond_t rfl ?_ | refine PW_cond_f rfl ?_))
  (first | refine POps_split rfl rfl (fun h => ?_) (fun h => ?_) | refine POpsD_split rfl rfl (fun h => ?_) (fun h => ?_) | refine PW_cond rfl (fun h => ?_) (fun h => ?_))
  · have hne : sumB body ≠ le32 a b c d := by
      intro e
      have h2 : (((sumB body).toNat : Int) != orI (orI (orI (IntKind.u32.wrap (a.toNat : Int)) (shK 8 b)) (shK 16 c)) (shK 24 d)) = true := h
      rw [hle, e] at h2
      simp at h2
    rw [if_pos hne]
    (repeat (first | (refine POps_nil ?_; try show PW _ _ _ _ _ _) | (refine POpsD_nil ?_; try show PW _ _ _ _ _ _) | refine runO_ok tabOk 300 rfl rfl ?_ | refine runO_ok tabOk 6 rfl rfl ?_ | refine runO_ok tabOk 1 rfl rfl ?_ | refine runD_ok tabOk 300 rfl rfl ?_ | refine runD_ok tabOk 6 rfl rfl ?_ | refine runD_ok tabOk 1 rfl rfl ?_ | (apply POps_run rfl rfl; focus (first | exact PO_conv_int rfl (IK rfl) (IK rfl) rfl | exact PO_makeFunc rfl | exact PO_buildSlice rfl (EL rfl) (SZ rfl) (AG rfl) (ZR rfl) rfl rfl rfl rfl rfl rfl rfl | exact PO_nilCheck rfl rfl | exact PO_conv_int rfl (IK rfl) (IK rfl) rfl)) | (apply POpsD_run rfl rfl; focus (first | exact Cond_c (PO_conv_int rfl (IK rfl) (IK rfl) rfl) | exact Cond_c (PO_makeFunc rfl) | exact Cond_c (PO_buildSlice rfl (EL rfl) (SZ rfl) (AG rfl) (ZR rfl) rfl rfl rfl rfl rfl rfl rfl) | exact Cond_f (fun _ => PO_conv_int rfl (IK rfl) (IK rfl) rfl) | exact Cond_f (fun _ => PO_makeFunc rfl) | exact Cond_f (fun _ => PO_buildSlice rfl (EL rfl) (SZ rfl) (AG rfl) (ZR rfl) rfl rfl rfl rfl rfl rfl rfl) | exact Cond_f (fun _ => PO_nilCheck rfl rfl) | exact Cond_f (fun _ => PO_conv_int rfl (IK rfl) (IK rfl) rfl))) | refine PW_seq ?_ | refine PW_region ?_ | refine PW_draw_all mixed (by kernel_rfl) ?_ | refine PW_block ?_ | (refine PW_skip ?_; try show PW _ _ _ _ _ _) | (refine PW_exit ?_; try show PW _ _ _ _ _ _) | (refine PW_ret ?_; try show PW _ _ _ _ _ _) | refine PW_cond_t rfl ?_ | refine PW_cond_f rfl ?_))
    exact Ret_two (resVs_cons (resV_agg (AG rfl) (SZ rfl) rfl rfl (Nat.le_of_ble_eq_true rfl)) (resVs_cons resV_tmp resVs_nil)) rfl rfl rfl
  · have hne : sumB body = le32 a b c d := by
      have h2 : (((sumB body).toNat : Int) != orI (orI (orI (IntKind.u32.wrap (a.toNat : Int)) (shK 8 b)) (shK 16 c)) (shK 24 d)) = false := h
      rw [hle] at h2
      apply BitVec.eq_of_toNat_eq
      simp at h2
      omega
    rw [if_neg (fun hn => hn hne)]
    (repeat' (first | (first | (refine POps_nil ?_; try show PW _ _ _ _ _ _) | (refine POpsD_nil ?_; try show PW _ _ _ _ _ _) | refine runO_ok tabOk 300 rfl rfl ?_ | refine runO_ok tabOk 6 rfl rfl ?_ | refine runO_ok tabOk 1 rfl rfl ?_ | refine runD_ok tabOk 300 rfl rfl ?_ | refine runD_ok tabOk 6 rfl rfl ?_ | refine runD_ok tabOk 1 rfl rfl ?_ | (apply POps_run rfl rfl; focus (first | exact PO_slice_bys body 0 body.length rfl (EL rfl) (SZ rfl) rfl rfl rfl rfl hw (Nat.zero_le _) (by omega) htake | exact call_box [] rfl rfl (EN rfl) (ht) rfl rfl rfl rfl rfl rfl rfl rfl rfl rfl rfl | exact call_pure rfl rfl (EN rfl) (hwr) rfl rfl rfl | exact PO_conv_int rfl (IK rfl) (IK rfl) rfl | exact PO_makeFunc rfl | exact PO_buildSlice rfl (EL rfl) (SZ rfl) (AG rfl) (ZR rfl) rfl rfl rfl rfl rfl rfl rfl | exact PO_nilCheck rfl rfl | exact PO_conv_int rfl (IK rfl) (IK rfl) rfl)) | (apply POpsD_run rfl rfl; focus (first | exact Cond_c (PO_slice_bys body 0 body.length rfl (EL rfl) (SZ rfl) rfl rfl rfl rfl hw (Nat.zero_le _) (by omega) htake) | exact Cond_c (call_box [] rfl rfl (EN rfl) (ht) rfl rfl rfl rfl rfl rfl rfl rfl rfl rfl rfl) | exact Cond_c (call_pure rfl rfl (EN rfl) (hwr) rfl rfl rfl) | exact Cond_c (PO_conv_int rfl (IK rfl) (IK rfl) rfl) | exact Cond_c (PO_makeFunc rfl) | exact Cond_c (PO_buildSlice rfl (EL rfl) (SZ rfl) (AG rfl) (ZR rfl) rfl rfl rfl rfl rfl rfl rfl) | exact Cond_f (fun _ => PO_slice_bys body 0 body.length rfl (EL rfl) (SZ rfl) rfl rfl rfl rfl hw (Nat.zero_le _) (by omega) htake) | exact Cond_f (fun _ => call_box [] rfl rfl (EN rfl) (ht) rfl rfl rfl rfl rfl rfl rfl rfl rfl rfl rfl) | exact Cond_f (fun _ => call_pure rfl rfl (EN rfl) (hwr) rfl rfl rfl) | exact Cond_f (fun _ => PO_conv_int rfl (IK rfl) (IK rfl) rfl) | exact Cond_f (fun _ => PO_makeFunc rfl) | exact Cond_f (fun _ => PO_buildSlice rfl (EL rfl) (SZ rfl) (AG rfl) (ZR rfl) rfl rfl rfl rfl rfl rfl rfl) | exact Cond_f (fun _ => PO_nilCheck rfl rfl) | exact Cond_f (fun _ => PO_conv_int rfl (IK rfl) (IK rfl) rfl))) | refine PW_seq ?_ | refine PW_region ?_ | refine PW_draw_all mixed (by kernel_rfl) ?_ | refine PW_block ?_ | (refine PW_skip ?_; try show PW _ _ _ _ _ _) | (refine PW_exit ?_; try show PW _ _ _ _ _ _) | (refine PW_ret ?_; try show PW _ _ _ _ _ _) | refine PW_cond_t rfl ?_ | refine PW_cond_f rfl ?_) | refine POps_split rfl rfl (fun h => ?_) (fun h => ?_) | refine POpsD_split rfl rfl (fun h => ?_) (fun h => ?_) | refine PW_cond rfl (fun h => ?_) (fun h => ?_)))
    · rw [if_pos (.inl h)]
      exact Ret_two (resVs_cons (resV_agg (AG rfl) (SZ rfl) rfl rfl (Nat.le_of_ble_eq_true rfl)) (resVs_cons resV_tmp resVs_nil)) rfl rfl rfl
    · have := of_decide_eq_true h
      rw [bys_len] at this
      rw [if_pos (.inr (.inl (by dsimp only; omega)))]
      exact Ret_two (resVs_cons (resV_agg (AG rfl) (SZ rfl) rfl rfl (Nat.le_of_ble_eq_true rfl)) (resVs_cons resV_tmp resVs_nil)) rfl rfl rfl
    · have hwn : wrongT (Tr.mk ta tb tc td) ≠ 0 := by simpa [bne] using h
      rw [if_pos (.inr (.inr hwn))]
      exact Ret_two (resVs_cons (resV_agg (AG rfl) (SZ rfl) rfl rfl (Nat.le_of_ble_eq_true rfl)) (resVs_cons resV_tmp resVs_nil)) rfl rfl rfl
    · have hwn : wrongT (Tr.mk ta tb tc td) = 0 := by simpa [bne] using h
      rename_i h1 h2
      have := of_decide_eq_false h2
      rw [bys_len] at this
      rw [if_neg (by rintro (hh | hh | hh); (· exact Bool.noConfusion (hh.symm.trans h1)); (· dsimp only at hh; omega); (· exact hh hwn))]
      exact Ret_two (resVs_cons (resV_agg (AG rfl) (SZ rfl) rfl rfl (Nat.le_of_ble_eq_true rfl)) (resVs_cons resV_tmp resVs_nil)) rfl rfl rfl
end Go.Proofs.Ytffpepmfdjjjaaa

/- Plain laws: what is written is read, in one way alone. -/
namespace Go.Proofs.Ytffpepmfdjjjaaa
open Go.Pure

mutual
/-- Numbers of 64 bits. -/
def Tr.wf : Tr → Prop
  | .mk tag n _ kids => (-9223372036854775808 ≤ tag ∧ tag < 9223372036854775808) ∧ (-9223372036854775808 ≤ n ∧ n < 9223372036854775808) ∧ Tr.wfs kids
def Tr.wfs : List Tr → Prop
  | [] => True
  | t :: r => t.wf ∧ Tr.wfs r
end
mutual
theorem look_zero : ∀ (t : Tr) (d n : Int), (look d n t).1 = 0 → t.wf → d + t.tall ≤ 41 ∧ t.fine
  | .mk tag tn text kids, d, n, h, hw => by
    simp only [Tr.wf] at hw
    simp only [look] at h
    split at h
    · simp at h
    · split at h
      · simp at h
      · have := looks_zero kids (d + 1) (n + 1) h hw.2.2
        simp only [Tr.tall, Tr.fine]
        refine ⟨?_, by omega, hw.2.1, this.2⟩
        rcases this.1 with rfl | h3
        · simp only [Tr.talls]; omega
        · omega
theorem looks_zero : ∀ (l : List Tr) (d n : Int), (looks d n l).1 = 0 → Tr.wfs l → (l = [] ∨ d + Tr.talls l ≤ 41) ∧ Tr.fines l
  | [], d, n, h, _ => by simp [Tr.fines]
  | t :: r, d, n, h, hw => by
    simp only [Tr.wfs] at hw
    simp only [looks] at h
    split at h
    · rename_i h0
      have h1 := look_zero t d n h0 hw.1
      have h2 := looks_zero r d _ h hw.2
      simp only [Tr.talls, Tr.fines]
      refine ⟨.inr ?_, h1.2, h2.2⟩
      rcases h2.1 with rfl | h3
      · simp only [Tr.talls]; omega
      · omega
    · rename_i h0
      exact absurd h h0
end
theorem wrong_zero {t : Tr} (h : wrongT t = 0) (hw : t.wf) : t.tall ≤ 40 ∧ t.fine := by
  have := look_zero t 1 0 h hw
  exact ⟨by omega, this.2⟩

theorem four_back (x : BitVec 32) : ∃ a b c d, four x = [a, b, c, d] ∧ le32 a b c d = x := by
  refine ⟨_, _, _, _, rfl, ?_⟩
  have := x.isLt
  apply BitVec.eq_of_toNat_eq
  unfold le32
  simp
  omega
theorem four_le32 (a b c d : UInt8) : four (le32 a b c d) = [a, b, c, d] := by
  have ha := a.toNat_lt; have hb := b.toNat_lt; have hc := c.toNat_lt; have hd := d.toNat_lt
  have e : (le32 a b c d).toNat = a.toNat + 256 * b.toNat + 65536 * c.toNat + 16777216 * d.toNat := by
    unfold le32; simp; omega
  unfold four
  rw [e]
  have e1 : (a.toNat + 256 * b.toNat + 65536 * c.toNat + 16777216 * d.toNat) % 256 = a.toNat := by omega
  have e2 : (a.toNat + 256 * b.toNat + 65536 * c.toNat + 16777216 * d.toNat) / 256 % 256 = b.toNat := by omega
  have e3 : (a.toNat + 256 * b.toNat + 65536 * c.toNat + 16777216 * d.toNat) / 65536 % 256 = c.toNat := by omega
  have e4 : (a.toNat + 256 * b.toNat + 65536 * c.toNat + 16777216 * d.toNat) / 16777216 % 256 = d.toNat := by omega
  rw [e1, e2, e3, e4]
  simp

/-- Any bytes' tree, and what is wrong. -/
def parseT (l : List UInt8) : Tr × Int :=
  if 100000 < l.length then (noTree, 4) else
  match l.drop (l.length - 4), l.length with
  | [a, b, c, d], _ => parseB (l.take (l.length - 4)) (le32 a b c d)
  | _, _ => (noTree, 2)
theorem parseT_four (body : List UInt8) (a b c d : UInt8) (h : body.length + 4 ≤ 100000) : parseT (body ++ [a, b, c, d]) = parseB body (le32 a b c d) := by
  unfold parseT
  have hl : (body ++ [a, b, c, d]).length = body.length + 4 := by simp
  rw [if_neg (by omega)]
  have e1 : (body ++ [a, b, c, d]).length - 4 = body.length := by omega
  rw [e1, List.drop_left, List.take_left]
theorem last_four (l : List UInt8) (h : 4 ≤ l.length) : ∃ body a b c d, l = body ++ [a, b, c, d] := by
  have h1 : (l.drop (l.length - 4)).length = 4 := by simp; omega
  match hd : l.drop (l.length - 4), h1 with
  | [a, b, c, d], _ => exact ⟨l.take (l.length - 4), a, b, c, d, by rw [← hd, List.take_append_drop]⟩
theorem parse_all (l : List UInt8) (hm : l.length ≤ 1000000000) : PC Try.prog 24 [.g (.sl (bys l))] ⟨[], [], []⟩ (.tuple [.g (parseT l).1.g, .g (.int .i64 (parseT l).2)]) ⟨[], [], []⟩ := by
  by_cases h1 : 100000 < l.length
  · have : parseT l = (noTree, 4) := by unfold parseT; rw [if_pos h1]
    rw [this]
    exact parse_long l h1 hm
  · by_cases h2 : l.length < 4
    · have : parseT l = (noTree, 2) := by
        unfold parseT
        rw [if_neg h1]
        have : (l.drop (l.length - 4)).length ≠ 4 := by simp; omega
        split
        · rename_i hd; rw [hd] at this; simp at this
        · rfl
      rw [this]
      exact parse_short l h2
    · obtain ⟨body, a, b, c, d, rfl⟩ := last_four l (by omega)
      have hl : (body ++ [a, b, c, d]).length = body.length + 4 := by simp
      rw [parseT_four _ _ _ _ _ (by omega)]
      exact parse_pc body a b c d (by omega)

/-- What is written is read. -/
theorem bytes_parse {t : Tr} {x : List UInt8} (hw : t.wf) (h : bytesT t = (x, 0)) : parseT x = (t, 0) := by
  unfold bytesT at h
  split at h
  · rename_i h0
    split at h
    · simp at h
    · rename_i hl
      cases h
      obtain ⟨a, b, c, d, h4, h5⟩ := four_back (sumB (enc t))
      obtain ⟨ht, hf⟩ := wrong_zero h0 hw
      have hr := tree_read 40 t [] hf ht (by simp; omega)
      rw [List.append_nil] at hr
      rw [h4, parseT_four _ _ _ _ _ (by omega), h5]
      unfold parseB
      rw [if_neg (fun hn => hn rfl), hr]
      dsimp only
      rw [if_neg (by simp [h0])]
  · rename_i h0
    have := congrArg (fun x => x.2) h
    exact absurd this h0
/-- What is read was written. -/
theorem parse_bytes {u : Tr} {l : List UInt8} (h : parseT l = (u, 0)) : bytesT u = (l, 0) ∧ u.fine ∧ l.length ≤ 100000 := by
  by_cases h1 : 100000 < l.length
  · have : parseT l = (noTree, 4) := by unfold parseT; rw [if_pos h1]
    rw [this] at h; simp at h
  · by_cases h2 : l.length < 4
    · have : parseT l = (noTree, 2) := by
        unfold parseT
        rw [if_neg h1]
        have : (l.drop (l.length - 4)).length ≠ 4 := by simp; omega
        split
        · rename_i hd; rw [hd] at this; simp at this
        · rfl
      rw [this] at h; simp at h
    · obtain ⟨body, a, b, c, d, rfl⟩ := last_four l (by omega)
      have hl : (body ++ [a, b, c, d]).length = body.length + 4 := by simp
      rw [parseT_four _ _ _ _ _ (by omega)] at h
      unfold parseB at h
      split at h
      · simp at h
      · rename_i hs
        split at h
        · simp at h
        · rename_i hh
          have hb : (treeGo 40 body false).2.2 = false := by
            cases hx : (treeGo 40 body false).2.2 with
            | false => rfl
            | true => exact absurd (.inl hx) hh
          have hn : (treeGo 40 body false).2.1 = [] := by
            apply List.eq_nil_of_length_eq_zero
            omega
          have hu : (treeGo 40 body false).1 = u := congrArg (fun x => x.1) h
          have e : treeGo 40 body false = (u, [], false) := Prod.ext hu (Prod.ext hn hb)
          obtain ⟨_, e2, e3⟩ := tree_was 40 body false u [] e
          rw [List.append_nil] at e2
          have hz : wrongT u = 0 := by
            rw [← hu]
            exact Classical.byContradiction fun hne => hh (.inr (.inr hne))
          refine ⟨?_, e3, by omega⟩
          have hs' : sumB body = le32 a b c d := Classical.byContradiction fun hne => hs hne
          unfold bytesT
          rw [if_pos hz, ← e2, if_neg (by omega), hs', four_le32]
end Go.Proofs.Ytffpepmfdjjjaaa

namespace Go.Proofs.Ytffpepmfdjjjaaa
open Go.Pure
attribute [local irreducible] PW POps POpsD PO PC Cond

set_option maxRecDepth 100000 in
set_option maxHeartbeats 4000000 in
theorem samebytes_pc (l : List UInt8) (hl : l.length ≤ 9223372036854775807) : PC Try.prog 23 [.g (.sl (bys l)), .g (.sl (bys l))] ⟨[], [], []⟩ (.g (.bool true)) ⟨[], [], []⟩ := by
  refine PC_of_PW Try.func23 rfl rfl (rs := _) rfl (Nat.le_of_ble_eq_true (by kernel_rfl)) ?_
  (repeat (first | (refine POps_nil ?_; try show PW _ _ _ _ _ _) | (refine POpsD_nil ?_; try show PW _ _ _ _ _ _) | refine runO_ok tabOk 300 rfl rfl ?_ | refine runO_ok tabOk 6 rfl rfl ?_ | refine runO_ok tabOk 1 rfl rfl ?_ | refine runD_ok tabOk 300 rfl rfl ?_ | refine runD_ok tabOk 6 rfl rfl ?_ | refine runD_ok tabOk 1 rfl rfl ?_ | (apply POps_run rfl rfl; focus (first | exact PO_conv_int rfl (IK rfl) (IK rfl) rfl | exact PO_makeFunc rfl | exact PO_buildSlice rfl (EL rfl) (SZ rfl) (AG rfl) (ZR rfl) rfl rfl rfl rfl rfl rfl rfl | exact PO_nilCheck rfl rfl | exact PO_conv_int rfl (IK rfl) (IK rfl) rfl)) | (apply POpsD_run rfl rfl; focus (first | exact Cond_c (PO_conv_int rfl (IK rfl) (IK rfl) rfl) | exact Cond_c (PO_makeFunc rfl) | exact Cond_c (PO_buildSlice rfl (EL rfl) (SZ rfl) (AG rfl) (ZR rfl) rfl rfl rfl rfl rfl rfl rfl) | exact Cond_f (fun _ => PO_conv_int rfl (IK rfl) (IK rfl) rfl) | exact Cond_f (fun _ => PO_makeFunc rfl) | exact Cond_f (fun _ => PO_buildSlice rfl (EL rfl) (SZ rfl) (AG rfl) (ZR rfl) rfl rfl rfl rfl rfl rfl rfl) | exact Cond_f (fun _ => PO_nilCheck rfl rfl) | exact Cond_f (fun _ => PO_conv_int rfl (IK rfl) (IK rfl) rfl))) | refine PW_seq ?_ | refine PW_region ?_ | refine PW_draw_all mixed (by kernel_rfl) ?_ | refine PW_block ?_ | (refine PW_skip ?_; try show PW _ _ _ _ _ _) | (refine PW_exit ?_; try show PW _ _ _ _ _ _) | (refine PW_ret ?_; try show PW _ _ _ _ _ _) | refine PW_cond_t rfl ?_ | refine PW_cond_f rfl ?_))
  (first | refine POps_split rfl rfl (fun h => ?_) (fun h => ?_) | refine POpsD_split rfl rfl (fun h => ?_) (fun h => ?_) | refine PW_cond rfl (fun h => ?_) (fun h => ?_))
  · simp at h
  (repeat (first | (refine POps_nil ?_; try show PW _ _ _ _ _ _) | (refine POpsD_nil ?_; try show PW _ _ _ _ _ _) | refine runO_ok tabOk 300 rfl rfl ?_ | refine runO_ok tabOk 6 rfl rfl ?_ | refine runO_ok tabOk 1 rfl rfl ?_ | refine runD_ok tabOk 300 rfl rfl ?_ | refine runD_ok tabOk 6 rfl rfl ?_ | refine runD_ok tabOk 1 rfl rfl ?_ | (apply POps_run rfl rfl; focus (first | exact PO_conv_int rfl (IK rfl) (IK rfl) rfl | exact PO_makeFunc rfl | exact PO_buildSlice rfl (EL rfl) (SZ rfl) (AG rfl) (ZR rfl) rfl rfl rfl rfl rfl rfl rfl | exact PO_nilCheck rfl rfl | exact PO_conv_int rfl (IK rfl) (IK rfl) rfl)) | (apply POpsD_run rfl rfl; focus (first | exact Cond_c (PO_conv_int rfl (IK rfl) (IK rfl) rfl) | exact Cond_c (PO_makeFunc rfl) | exact Cond_c (PO_buildSlice rfl (EL rfl) (SZ rfl) (AG rfl) (ZR rfl) rfl rfl rfl rfl rfl rfl rfl) | exact Cond_f (fun _ => PO_conv_int rfl (IK rfl) (IK rfl) rfl) | exact Cond_f (fun _ => PO_makeFunc rfl) | exact Cond_f (fun _ => PO_buildSlice rfl (EL rfl) (SZ rfl) (AG rfl) (ZR rfl) rfl rfl rfl rfl rfl rfl rfl) | exact Cond_f (fun _ => PO_nilCheck rfl rfl) | exact Cond_f (fun _ => PO_conv_int rfl (IK rfl) (IK rfl) rfl))) | refine PW_seq ?_ | refine PW_region ?_ | refine PW_draw_all mixed (by kernel_rfl) ?_ | refine PW_block ?_ | (refine PW_skip ?_; try show PW _ _ _ _ _ _) | (refine PW_exit ?_; try show PW _ _ _ _ _ _) | (refine PW_ret ?_; try show PW _ _ _ _ _ _) | refine PW_cond_t rfl ?_ | refine PW_cond_f rfl ?_))
  refine PW_loop (S := Nat) (fun i => slots [(0, .g (.sl (bys l))), (1, .g (.sl (bys l))), (12, .g (.int .i64 l.length)), (13, .g (.int .i64 i))]) (fun _ => ⟨[], [], []⟩) (fun i => i ≤ l.length) (fun i => l.length - i) 0 (Nat.zero_le _) (SlotsOk.le ⟨.inl rfl, .inl rfl, .inl (by simp [bys]; rfl), .inl rfl, trivial⟩) (HLe.refl _) (fun i hi => ?_)
  (repeat (first | (refine POps_nil ?_; try show PW _ _ _ _ _ _) | (refine POpsD_nil ?_; try show PW _ _ _ _ _ _) | refine runO_ok tabOk 300 rfl rfl ?_ | refine runO_ok tabOk 6 rfl rfl ?_ | refine runO_ok tabOk 1 rfl rfl ?_ | refine runD_ok tabOk 300 rfl rfl ?_ | refine runD_ok tabOk 6 rfl rfl ?_ | refine runD_ok tabOk 1 rfl rfl ?_ | (apply POps_run rfl rfl; focus (first | exact PO_conv_int rfl (IK rfl) (IK rfl) rfl | exact PO_makeFunc rfl | exact PO_buildSlice rfl (EL rfl) (SZ rfl) (AG rfl) (ZR rfl) rfl rfl rfl rfl rfl rfl rfl | exact PO_nilCheck rfl rfl | exact PO_conv_int rfl (IK rfl) (IK rfl) rfl)) | (apply POpsD_run rfl rfl; focus (first | exact Cond_c (PO_conv_int rfl (IK rfl) (IK rfl) rfl) | exact Cond_c (PO_makeFunc rfl) | exact Cond_c (PO_buildSlice rfl (EL rfl) (SZ rfl) (AG rfl) (ZR rfl) rfl rfl rfl rfl rfl rfl rfl) | exact Cond_f (fun _ => PO_conv_int rfl (IK rfl) (IK rfl) rfl) | exact Cond_f (fun _ => PO_makeFunc rfl) | exact Cond_f (fun _ => PO_buildSlice rfl (EL rfl) (SZ rfl) (AG rfl) (ZR rfl) rfl rfl rfl rfl rfl rfl rfl) | exact Cond_f (fun _ => PO_nilCheck rfl rfl) | exact Cond_f (fun _ => PO_conv_int rfl (IK rfl) (IK rfl) rfl))) | refine PW_seq ?_ | refine PW_region ?_ | refine PW_draw_all mixed (by kernel_rfl) ?_ | refine PW_block ?_ | (refine PW_skip ?_; try show PW _ _ _ _ _ _) | (refine PW_exit ?_; try show PW _ _ _ _ _ _) | (refine PW_ret ?_; try show PW _ _ _ _ _ _) | refine PW_cond_t rfl ?_ | refine PW_cond_f rfl ?_))
  (first | refine POps_split rfl rfl (fun h => ?_) (fun h => ?_) | refine POpsD_split rfl rfl (fun h => ?_) (fun h => ?_) | refine PW_cond rfl (fun h => ?_) (fun h => ?_))
  · have hlt : i < l.length := by have := of_decide_eq_true h; omega
    have hg := bys_get hlt
    (repeat (first | (refine POps_nil ?_; try show PW _ _ _ _ _ _) | (refine POpsD_nil ?_; try show PW _ _ _ _ _ _) | refine runO_ok tabOk 300 rfl rfl ?_ | refine runO_ok tabOk 6 rfl rfl ?_ | refine runO_ok tabOk 1 rfl rfl ?_ | refine runD_ok tabOk 300 rfl rfl ?_ | refine runD_ok tabOk 6 rfl rfl ?_ | refine runD_ok tabOk 1 rfl rfl ?_ | (apply POps_run rfl rfl; focus (first | exact PO_indexAddr rfl (EL rfl) (SZ rfl) rfl rfl (Int.natCast_nonneg _) hg rfl | exact PO_conv_int rfl (IK rfl) (IK rfl) rfl | exact PO_makeFunc rfl | exact PO_buildSlice rfl (EL rfl) (SZ rfl) (AG rfl) (ZR rfl) rfl rfl rfl rfl rfl rfl rfl | exact PO_nilCheck rfl rfl | exact PO_conv_int rfl (IK rfl) (IK rfl) rfl)) | (apply POpsD_run rfl rfl; focus (first | exact Cond_c (PO_indexAddr rfl (EL rfl) (SZ rfl) rfl rfl (Int.natCast_nonneg _) hg rfl) | exact Cond_c (PO_conv_int rfl (IK rfl) (IK rfl) rfl) | exact Cond_c (PO_makeFunc rfl) | exact Cond_c (PO_buildSlice rfl (EL rfl) (SZ rfl) (AG rfl) (ZR rfl) rfl rfl rfl rfl rfl rfl rfl) | exact Cond_f (fun _ => PO_indexAddr rfl (EL rfl) (SZ rfl) rfl rfl (Int.natCast_nonneg _) hg rfl) | exact Cond_f (fun _ => PO_conv_int rfl (IK rfl) (IK rfl) rfl) | exact Cond_f (fun _ => PO_makeFunc rfl) | exact Cond_f (fun _ => PO_buildSlice rfl (EL rfl) (SZ rfl) (AG rfl) (ZR rfl) rfl rfl rfl rfl rfl rfl rfl) | exact Cond_f (fun _ => PO_nilCheck rfl rfl) | exact Cond_f (fun _ => PO_conv_int rfl (IK rfl) (IK rfl) rfl))) | refine PW_seq ?_ | refine PW_region ?_ | refine PW_draw_all mixed (by kernel_rfl) ?_ | refine PW_block ?_ | (refine PW_skip ?_; try show PW _ _ _ _ _ _) | (refine PW_exit ?_; try show PW _ _ _ _ _ _) | (refine PW_ret ?_; try show PW _ _ _ _ _ _) | refine PW_cond_t rfl ?_ | refine PW_cond_f rfl ?_))
    (first | refine POps_split rfl rfl (fun h => ?_) (fun h => ?_) | refine POpsD_split rfl rfl (fun h => ?_) (fun h => ?_) | refine PW_cond rfl (fun h => ?_) (fun h => ?_))
    · simp at h
    (repeat (first | (refine POps_nil ?_; try show PW _ _ _ _ _ _) | (refine POpsD_nil ?_; try show PW _ _ _ _ _ _) | refine runO_ok tabOk 300 rfl rfl ?_ | refine runO_ok tabOk 6 rfl rfl ?_ | refine runO_ok tabOk 1 rfl rfl ?_ | refine runD_ok tabOk 300 rfl rfl ?_ | refine runD_ok tabOk 6 rfl rfl ?_ | refine runD_ok tabOk 1 rfl rfl ?_ | (apply POps_run rfl rfl; focus (first | exact PO_conv_int rfl (IK rfl) (IK rfl) rfl | exact PO_makeFunc rfl | exact PO_buildSlice rfl (EL rfl) (SZ rfl) (AG rfl) (ZR rfl) rfl rfl rfl rfl rfl rfl rfl | exact PO_nilCheck rfl rfl | exact PO_conv_int rfl (IK rfl) (IK rfl) rfl)) | (apply POpsD_run rfl rfl; focus (first | exact Cond_c (PO_conv_int rfl (IK rfl) (IK rfl) rfl) | exact Cond_c (PO_makeFunc rfl) | exact Cond_c (PO_buildSlice rfl (EL rfl) (SZ rfl) (AG rfl) (ZR rfl) rfl rfl rfl rfl rfl rfl rfl) | exact Cond_f (fun _ => PO_conv_int rfl (IK rfl) (IK rfl) rfl) | exact Cond_f (fun _ => PO_makeFunc rfl) | exact Cond_f (fun _ => PO_buildSlice rfl (EL rfl) (SZ rfl) (AG rfl) (ZR rfl) rfl rfl rfl rfl rfl rfl rfl) | exact Cond_f (fun _ => PO_nilCheck rfl rfl) | exact Cond_f (fun _ => PO_conv_int rfl (IK rfl) (IK rfl) rfl))) | refine PW_seq ?_ | refine PW_region ?_ | refine PW_draw_all mixed (by kernel_rfl) ?_ | refine PW_block ?_ | (refine PW_skip ?_; try show PW _ _ _ _ _ _) | (refine PW_exit ?_; try show PW _ _ _ _ _ _) | (refine PW_ret ?_; try show PW _ _ _ _ _ _) | refine PW_cond_t rfl ?_ | refine PW_cond_f rfl ?_))
    refine ⟨i + 1, hlt, by omega, SlotsOk.le ⟨.inl rfl, .inl rfl, .inl rfl, .inl (congrArg (fun x => PV.g (.int .i64 x)) (wrap64 (by omega))), trivial⟩, HLe.refl _⟩
  · (repeat (first | (refine POps_nil ?_; try show PW _ _ _ _ _ _) | (refine POpsD_nil ?_; try show PW _ _ _ _ _ _) | refine runO_ok tabOk 300 rfl rfl ?_ | refine runO_ok tabOk 6 rfl rfl ?_ | refine runO_ok tabOk 1 rfl rfl ?_ | refine runD_ok tabOk 300 rfl rfl ?_ | refine runD_ok tabOk 6 rfl rfl ?_ | refine runD_ok tabOk 1 rfl rfl ?_ | (apply POps_run rfl rfl; focus (first | exact PO_conv_int rfl (IK rfl) (IK rfl) rfl | exact PO_makeFunc rfl | exact PO_buildSlice rfl (EL rfl) (SZ rfl) (AG rfl) (ZR rfl) rfl rfl rfl rfl rfl rfl rfl | exact PO_nilCheck rfl rfl | exact PO_conv_int rfl (IK rfl) (IK rfl) rfl)) | (apply POpsD_run rfl rfl; focus (first | exact Cond_c (PO_conv_int rfl (IK rfl) (IK rfl) rfl) | exact Cond_c (PO_makeFunc rfl) | exact Cond_c (PO_buildSlice rfl (EL rfl) (SZ rfl) (AG rfl) (ZR rfl) rfl rfl rfl rfl rfl rfl rfl) | exact Cond_f (fun _ => PO_conv_int rfl (IK rfl) (IK rfl) rfl) | exact Cond_f (fun _ => PO_makeFunc rfl) | exact Cond_f (fun _ => PO_buildSlice rfl (EL rfl) (SZ rfl) (AG rfl) (ZR rfl) rfl rfl rfl rfl rfl rfl rfl) | exact Cond_f (fun _ => PO_nilCheck rfl rfl) | exact Cond_f (fun _ => PO_conv_int rfl (IK rfl) (IK rfl) rfl))) | refine PW_seq ?_ | refine PW_region ?_ | refine PW_draw_all mixed (by kernel_rfl) ?_ | refine PW_block ?_ | (refine PW_skip ?_; try show PW _ _ _ _ _ _) | (refine PW_exit ?_; try show PW _ _ _ _ _ _) | (refine PW_ret ?_; try show PW _ _ _ _ _ _) | refine PW_cond_t rfl ?_ | refine PW_cond_f rfl ?_))
    (first | refine Ret_int (resVs_cons resV_tmp resVs_nil) rfl ?_ | refine Ret_bool (resVs_cons resV_tmp resVs_nil) rfl ?_ | refine Ret_g (resVs_cons resV_tmp resVs_nil) rfl ?_ | refine Ret_int (resVs_cons (resV_agg (AG rfl) (SZ rfl) rfl rfl (Nat.le_of_ble_eq_true rfl)) resVs_nil) rfl ?_ | refine Ret_bool (resVs_cons (resV_agg (AG rfl) (SZ rfl) rfl rfl (Nat.le_of_ble_eq_true rfl)) resVs_nil) rfl ?_ | refine Ret_g (resVs_cons (resV_agg (AG rfl) (SZ rfl) rfl rfl (Nat.le_of_ble_eq_true rfl)) resVs_nil) rfl ?_)
    rfl

set_option maxRecDepth 100000 in
set_option maxHeartbeats 4000000 in
theorem same_pc : ∀ (m : Nat) (t : Tr), SizeOf.sizeOf t ≤ m → t.ok → PC Try.prog 13 [.g t.g, .g t.g] ⟨[], [], []⟩ (.g (.bool true)) ⟨[], [], []⟩
  | 0, t, hm, _ => by cases t; simp at hm
  | m + 1, .mk tag tn text kids, hm, hk => by
    simp only [Tr.ok, maxLen] at hk
    refine PC_of_PW Try.func13 rfl rfl (rs := _) rfl (Nat.le_of_ble_eq_true (by kernel_rfl)) ?_
    (repeat (first | (refine POps_nil ?_; try show PW _ _ _ _ _ _) | (refine POpsD_nil ?_; try show PW _ _ _ _ _ _) | refine runO_ok tabOk 300 rfl rfl ?_ | refine runO_ok tabOk 6 rfl rfl ?_ | refine runO_ok tabOk 1 rfl rfl ?_ | refine runD_ok tabOk 300 rfl rfl ?_ | refine runD_ok tabOk 6 rfl rfl ?_ | refine runD_ok tabOk 1 rfl rfl ?_ | (apply POps_run rfl rfl; focus (first | exact PO_conv_int rfl (IK rfl) (IK rfl) rfl | exact PO_makeFunc rfl | exact PO_buildSlice rfl (EL rfl) (SZ rfl) (AG rfl) (ZR rfl) rfl rfl rfl rfl rfl rfl rfl | exact PO_nilCheck rfl rfl | exact PO_conv_int rfl (IK rfl) (IK rfl) rfl)) | (apply POpsD_run rfl rfl; focus (first | exact Cond_c (PO_conv_int rfl (IK rfl) (IK rfl) rfl) | exact Cond_c (PO_makeFunc rfl) | exact Cond_c (PO_buildSlice rfl (EL rfl) (SZ rfl) (AG rfl) (ZR rfl) rfl rfl rfl rfl rfl rfl rfl) | exact Cond_f (fun _ => PO_conv_int rfl (IK rfl) (IK rfl) rfl) | exact Cond_f (fun _ => PO_makeFunc rfl) | exact Cond_f (fun _ => PO_buildSlice rfl (EL rfl) (SZ rfl) (AG rfl) (ZR rfl) rfl rfl rfl rfl rfl rfl rfl) | exact Cond_f (fun _ => PO_nilCheck rfl rfl) | exact Cond_f (fun _ => PO_conv_int rfl (IK rfl) (IK rfl) rfl))) | refine PW_seq ?_ | refine PW_region ?_ | refine PW_draw_all mixed (by kernel_rfl) ?_ | refine PW_block ?_ | (refine PW_skip ?_; try show PW _ _ _ _ _ _) | (refine PW_exit ?_; try show PW _ _ _ _ _ _) | (refine PW_ret ?_; try show PW _ _ _ _ _ _) | refine PW_cond_t rfl ?_ | refine PW_cond_f rfl ?_))
    (first | refine POps_split rfl rfl (fun h => ?_) (fun h => ?_) | refine POpsD_split rfl rfl (fun h => ?_) (fun h => ?_) | refine PW_cond rfl (fun h => ?_) (fun h => ?_))
    · simp at h
    (repeat (first | (refine POps_nil ?_; try show PW _ _ _ _ _ _) | (refine POpsD_nil ?_; try show PW _ _ _ _ _ _) | refine runO_ok tabOk 300 rfl rfl ?_ | refine runO_ok tabOk 6 rfl rfl ?_ | refine runO_ok tabOk 1 rfl rfl ?_ | refine runD_ok tabOk 300 rfl rfl ?_ | refine runD_ok tabOk 6 rfl rfl ?_ | refine runD_ok tabOk 1 rfl rfl ?_ | (apply POps_run rfl rfl; focus (first | exact PO_conv_int rfl (IK rfl) (IK rfl) rfl | exact PO_makeFunc rfl | exact PO_buildSlice rfl (EL rfl) (SZ rfl) (AG rfl) (ZR rfl) rfl rfl rfl rfl rfl rfl rfl | exact PO_nilCheck rfl rfl | exact PO_conv_int rfl (IK rfl) (IK rfl) rfl)) | (apply POpsD_run rfl rfl; focus (first | exact Cond_c (PO_conv_int rfl (IK rfl) (IK rfl) rfl) | exact Cond_c (PO_makeFunc rfl) | exact Cond_c (PO_buildSlice rfl (EL rfl) (SZ rfl) (AG rfl) (ZR rfl) rfl rfl rfl rfl rfl rfl rfl) | exact Cond_f (fun _ => PO_conv_int rfl (IK rfl) (IK rfl) rfl) | exact Cond_f (fun _ => PO_makeFunc rfl) | exact Cond_f (fun _ => PO_buildSlice rfl (EL rfl) (SZ rfl) (AG rfl) (ZR rfl) rfl rfl rfl rfl rfl rfl rfl) | exact Cond_f (fun _ => PO_nilCheck rfl rfl) | exact Cond_f (fun _ => PO_conv_int rfl (IK rfl) (IK rfl) rfl))) | refine PW_seq ?_ | refine PW_region ?_ | refine PW_draw_all mixed (by kernel_rfl) ?_ | refine PW_block ?_ | (refine PW_skip ?_; try show PW _ _ _ _ _ _) | (refine PW_exit ?_; try show PW _ _ _ _ _ _) | (refine PW_ret ?_; try show PW _ _ _ _ _ _) | refine PW_cond_t rfl ?_ | refine PW_cond_f rfl ?_))
    (first | refine POps_split rfl rfl (fun h => ?_) (fun h => ?_) | refine POpsD_split rfl rfl (fun h => ?_) (fun h => ?_) | refine PW_cond rfl (fun h => ?_) (fun h => ?_))
    · simp at h
    (repeat (first | (refine POps_nil ?_; try show PW _ _ _ _ _ _) | (refine POpsD_nil ?_; try show PW _ _ _ _ _ _) | refine runO_ok tabOk 300 rfl rfl ?_ | refine runO_ok tabOk 6 rfl rfl ?_ | refine runO_ok tabOk 1 rfl rfl ?_ | refine runD_ok tabOk 300 rfl rfl ?_ | refine runD_ok tabOk 6 rfl rfl ?_ | refine runD_ok tabOk 1 rfl rfl ?_ | (apply POps_run rfl rfl; focus (first | exact PO_conv_int rfl (IK rfl) (IK rfl) rfl | exact PO_makeFunc rfl | exact PO_buildSlice rfl (EL rfl) (SZ rfl) (AG rfl) (ZR rfl) rfl rfl rfl rfl rfl rfl rfl | exact PO_nilCheck rfl rfl | exact PO_conv_int rfl (IK rfl) (IK rfl) rfl)) | (apply POpsD_run rfl rfl; focus (first | exact Cond_c (PO_conv_int rfl (IK rfl) (IK rfl) rfl) | exact Cond_c (PO_makeFunc rfl) | exact Cond_c (PO_buildSlice rfl (EL rfl) (SZ rfl) (AG rfl) (ZR rfl) rfl rfl rfl rfl rfl rfl rfl) | exact Cond_f (fun _ => PO_conv_int rfl (IK rfl) (IK rfl) rfl) | exact Cond_f (fun _ => PO_makeFunc rfl) | exact Cond_f (fun _ => PO_buildSlice rfl (EL rfl) (SZ rfl) (AG rfl) (ZR rfl) rfl rfl rfl rfl rfl rfl rfl) | exact Cond_f (fun _ => PO_nilCheck rfl rfl) | exact Cond_f (fun _ => PO_conv_int rfl (IK rfl) (IK rfl) rfl))) | refine PW_seq ?_ | refine PW_region ?_ | refine PW_draw_all mixed (by kernel_rfl) ?_ | refine PW_block ?_ | (refine PW_skip ?_; try show PW _ _ _ _ _ _) | (refine PW_exit ?_; try show PW _ _ _ _ _ _) | (refine PW_ret ?_; try show PW _ _ _ _ _ _) | refine PW_cond_t rfl ?_ | refine PW_cond_f rfl ?_))
    (first | refine POps_split rfl rfl (fun h => ?_) (fun h => ?_) | refine POpsD_split rfl rfl (fun h => ?_) (fun h => ?_) | refine PW_cond rfl (fun h => ?_) (fun h => ?_))
    · simp at h
    (repeat (first | (refine POps_nil ?_; try show PW _ _ _ _ _ _) | (refine POpsD_nil ?_; try show PW _ _ _ _ _ _) | refine runO_ok tabOk 300 rfl rfl ?_ | refine runO_ok tabOk 6 rfl rfl ?_ | refine runO_ok tabOk 1 rfl rfl ?_ | refine runD_ok tabOk 300 rfl rfl ?_ | refine runD_ok tabOk 6 rfl rfl ?_ | refine runD_ok tabOk 1 rfl rfl ?_ | (apply POps_run rfl rfl; focus (first | exact PO_conv_int rfl (IK rfl) (IK rfl) rfl | exact PO_makeFunc rfl | exact PO_buildSlice rfl (EL rfl) (SZ rfl) (AG rfl) (ZR rfl) rfl rfl rfl rfl rfl rfl rfl | exact PO_nilCheck rfl rfl | exact PO_conv_int rfl (IK rfl) (IK rfl) rfl)) | (apply POpsD_run rfl rfl; focus (first | exact Cond_c (PO_conv_int rfl (IK rfl) (IK rfl) rfl) | exact Cond_c (PO_makeFunc rfl) | exact Cond_c (PO_buildSlice rfl (EL rfl) (SZ rfl) (AG rfl) (ZR rfl) rfl rfl rfl rfl rfl rfl rfl) | exact Cond_f (fun _ => PO_conv_int rfl (IK rfl) (IK rfl) rfl) | exact Cond_f (fun _ => PO_makeFunc rfl) | exact Cond_f (fun _ => PO_buildSlice rfl (EL rfl) (SZ rfl) (AG rfl) (ZR rfl) rfl rfl rfl rfl rfl rfl rfl) | exact Cond_f (fun _ => PO_nilCheck rfl rfl) | exact Cond_f (fun _ => PO_conv_int rfl (IK rfl) (IK rfl) rfl))) | refine PW_seq ?_ | refine PW_region ?_ | refine PW_draw_all mixed (by kernel_rfl) ?_ | refine PW_block ?_ | (refine PW_skip ?_; try show PW _ _ _ _ _ _) | (refine PW_exit ?_; try show PW _ _ _ _ _ _) | (refine PW_ret ?_; try show PW _ _ _ _ _ _) | refine PW_cond_t rfl ?_ | refine PW_cond_f rfl ?_))
    (first | refine POps_split rfl rfl (fun h => ?_) (fun h => ?_) | refine POpsD_split rfl rfl (fun h => ?_) (fun h => ?_) | refine PW_cond rfl (fun h => ?_) (fun h => ?_))
    · simp at h
    (repeat (first | (refine POps_nil ?_; try show PW _ _ _ _ _ _) | (refine POpsD_nil ?_; try show PW _ _ _ _ _ _) | refine runO_ok tabOk 300 rfl rfl ?_ | refine runO_ok tabOk 6 rfl rfl ?_ | refine runO_ok tabOk 1 rfl rfl ?_ | refine runD_ok tabOk 300 rfl rfl ?_ | refine runD_ok tabOk 6 rfl rfl ?_ | refine runD_ok tabOk 1 rfl rfl ?_ | (apply POps_run rfl rfl; focus (first | exact PO_conv_int rfl (IK rfl) (IK rfl) rfl | exact PO_makeFunc rfl | exact PO_buildSlice rfl (EL rfl) (SZ rfl) (AG rfl) (ZR rfl) rfl rfl rfl rfl rfl rfl rfl | exact PO_nilCheck rfl rfl | exact PO_conv_int rfl (IK rfl) (IK rfl) rfl)) | (apply POpsD_run rfl rfl; focus (first | exact Cond_c (PO_conv_int rfl (IK rfl) (IK rfl) rfl) | exact Cond_c (PO_makeFunc rfl) | exact Cond_c (PO_buildSlice rfl (EL rfl) (SZ rfl) (AG rfl) (ZR rfl) rfl rfl rfl rfl rfl rfl rfl) | exact Cond_f (fun _ => PO_conv_int rfl (IK rfl) (IK rfl) rfl) | exact Cond_f (fun _ => PO_makeFunc rfl) | exact Cond_f (fun _ => PO_buildSlice rfl (EL rfl) (SZ rfl) (AG rfl) (ZR rfl) rfl rfl rfl rfl rfl rfl rfl) | exact Cond_f (fun _ => PO_nilCheck rfl rfl) | exact Cond_f (fun _ => PO_conv_int rfl (IK rfl) (IK rfl) rfl))) | refine PW_seq ?_ | refine PW_region ?_ | refine PW_draw_all mixed (by kernel_rfl) ?_ | refine PW_block ?_ | (refine PW_skip ?_; try show PW _ _ _ _ _ _) | (refine PW_exit ?_; try show PW _ _ _ _ _ _) | (refine PW_ret ?_; try show PW _ _ _ _ _ _) | refine PW_cond_t rfl ?_ | refine PW_cond_f rfl ?_))
    refine PW_loop (S := Nat) (fun i => slots [(2, .ptr 0 0), (3, .ptr 1 0), (36, .g (.int .i64 kids.length)), (37, .g (.int .i64 i))])
      (fun _ => ⟨[[.g (.int .i64 tag), .g (.int .i64 tn), .g (.str text), .g (.sl (Tr.gs kids))], [.g (.int .i64 tag), .g (.int .i64 tn), .g (.str text), .g (.sl (Tr.gs kids))]], [], []⟩) (fun i => i ≤ kids.length) (fun i => kids.length - i) 0 (Nat.zero_le _)
      (SlotsOk.le ⟨.inl rfl, .inl rfl, .inl (congrArg (fun k : Nat => PV.g (.int .i64 k)) (gs_len kids)), .inl rfl, trivial⟩) (HLe.refl _) (fun i hi => ?_)
    (repeat (first | (refine POps_nil ?_; try show PW _ _ _ _ _ _) | (refine POpsD_nil ?_; try show PW _ _ _ _ _ _) | refine runO_ok tabOk 300 rfl rfl ?_ | refine runO_ok tabOk 6 rfl rfl ?_ | refine runO_ok tabOk 1 rfl rfl ?_ | refine runD_ok tabOk 300 rfl rfl ?_ | refine runD_ok tabOk 6 rfl rfl ?_ | refine runD_ok tabOk 1 rfl rfl ?_ | (apply POps_run rfl rfl; focus (first | exact PO_conv_int rfl (IK rfl) (IK rfl) rfl | exact PO_makeFunc rfl | exact PO_buildSlice rfl (EL rfl) (SZ rfl) (AG rfl) (ZR rfl) rfl rfl rfl rfl rfl rfl rfl | exact PO_nilCheck rfl rfl | exact PO_conv_int rfl (IK rfl) (IK rfl) rfl)) | (apply POpsD_run rfl rfl; focus (first | exact Cond_c (PO_conv_int rfl (IK rfl) (IK rfl) rfl) | exact Cond_c (PO_makeFunc rfl) | exact Cond_c (PO_buildSlice rfl (EL rfl) (SZ rfl) (AG rfl) (ZR rfl) rfl rfl rfl rfl rfl rfl rfl) | exact Cond_f (fun _ => PO_conv_int rfl (IK rfl) (IK rfl) rfl) | exact Cond_f (fun _ => PO_makeFunc rfl) | exact Cond_f (fun _ => PO_buildSlice rfl (EL rfl) (SZ rfl) (AG rfl) (ZR rfl) rfl rfl rfl rfl rfl rfl rfl) | exact Cond_f (fun _ => PO_nilCheck rfl rfl) | exact Cond_f (fun _ => PO_conv_int rfl (IK rfl) (IK rfl) rfl))) | refine PW_seq ?_ | refine PW_region ?_ | refine PW_draw_all mixed (by kernel_rfl) ?_ | refine PW_block ?_ | (refine PW_skip ?_; try show PW _ _ _ _ _ _) | (refine PW_exit ?_; try show PW _ _ _ _ _ _) | (refine PW_ret ?_; try show PW _ _ _ _ _ _) | refine PW_cond_t rfl ?_ | refine PW_cond_f rfl ?_))
    (first | refine POps_split rfl rfl (fun h => ?_) (fun h => ?_) | refine POpsD_split rfl rfl (fun h => ?_) (fun h => ?_) | refine PW_cond rfl (fun h => ?_) (fun h => ?_))
    · have hlt : i < kids.length := by have := of_decide_eq_true h; omega
      have hg := gs_get hlt
      have hsz := kid_size hlt tag tn text
      have hI := same_pc m kids[i] (by omega) (oks_get hlt hk.2)
      generalize kids[i] = kid at hg hI
      obtain ⟨ta, tb, tc, td⟩ := kid
      (repeat (first | (refine POps_nil ?_; try show PW _ _ _ _ _ _) | (refine POpsD_nil ?_; try show PW _ _ _ _ _ _) | refine runO_ok tabOk 300 rfl rfl ?_ | refine runO_ok tabOk 6 rfl rfl ?_ | refine runO_ok tabOk 1 rfl rfl ?_ | refine runD_ok tabOk 300 rfl rfl ?_ | refine runD_ok tabOk 6 rfl rfl ?_ | refine runD_ok tabOk 1 rfl rfl ?_ | (apply POps_run rfl rfl; focus (first | exact call_pure rfl rfl (EN rfl) (hI) rfl rfl rfl | exact PO_indexAddr rfl (EL rfl) (SZ rfl) rfl rfl (Int.natCast_nonneg _) hg rfl | exact PO_conv_int rfl (IK rfl) (IK rfl) rfl | exact PO_makeFunc rfl | exact PO_buildSlice rfl (EL rfl) (SZ rfl) (AG rfl) (ZR rfl) rfl rfl rfl rfl rfl rfl rfl | exact PO_nilCheck rfl rfl | exact PO_conv_int rfl (IK rfl) (IK rfl) rfl)) | (apply POpsD_run rfl rfl; focus (first | exact Cond_c (call_pure rfl rfl (EN rfl) (hI) rfl rfl rfl) | exact Cond_c (PO_indexAddr rfl (EL rfl) (SZ rfl) rfl rfl (Int.natCast_nonneg _) hg rfl) | exact Cond_c (PO_conv_int rfl (IK rfl) (IK rfl) rfl) | exact Cond_c (PO_makeFunc rfl) | exact Cond_c (PO_buildSlice rfl (EL rfl) (SZ rfl) (AG rfl) (ZR rfl) rfl rfl rfl rfl rfl rfl rfl) | exact Cond_f (fun _ => call_pure rfl rfl (EN rfl) (hI) rfl rfl rfl) | exact Cond_f (fun _ => PO_indexAddr rfl (EL rfl) (SZ rfl) rfl rfl (Int.natCast_nonneg _) hg rfl) | exact Cond_f (fun _ => PO_conv_int rfl (IK rfl) (IK rfl) rfl) | exact Cond_f (fun _ => PO_makeFunc rfl) | exact Cond_f (fun _ => PO_buildSlice rfl (EL rfl) (SZ rfl) (AG rfl) (ZR rfl) rfl rfl rfl rfl rfl rfl rfl) | exact Cond_f (fun _ => PO_nilCheck rfl rfl) | exact Cond_f (fun _ => PO_conv_int rfl (IK rfl) (IK rfl) rfl))) | refine PW_seq ?_ | refine PW_region ?_ | refine PW_draw [0, 1] mixed (by kernel_rfl) ?_ | refine PW_block ?_ | (refine PW_skip ?_; try show PW _ _ _ _ _ _) | (refine PW_exit ?_; try show PW _ _ _ _ _ _) | (refine PW_ret ?_; try show PW _ _ _ _ _ _) | refine PW_cond_t rfl ?_ | refine PW_cond_f rfl ?_))
      refine ⟨i + 1, hlt, by omega, SlotsOk.le ⟨.inl rfl, .inl rfl, .inl rfl, .inl (congrArg (fun x => PV.g (.int .i64 x)) (wrap64 (by omega))), trivial⟩, HLe.refl _⟩
    · (repeat (first | (refine POps_nil ?_; try show PW _ _ _ _ _ _) | (refine POpsD_nil ?_; try show PW _ _ _ _ _ _) | refine runO_ok tabOk 300 rfl rfl ?_ | refine runO_ok tabOk 6 rfl rfl ?_ | refine runO_ok tabOk 1 rfl rfl ?_ | refine runD_ok tabOk 300 rfl rfl ?_ | refine runD_ok tabOk 6 rfl rfl ?_ | refine runD_ok tabOk 1 rfl rfl ?_ | (apply POps_run rfl rfl; focus (first | exact PO_conv_int rfl (IK rfl) (IK rfl) rfl | exact PO_makeFunc rfl | exact PO_buildSlice rfl (EL rfl) (SZ rfl) (AG rfl) (ZR rfl) rfl rfl rfl rfl rfl rfl rfl | exact PO_nilCheck rfl rfl | exact PO_conv_int rfl (IK rfl) (IK rfl) rfl)) | (apply POpsD_run rfl rfl; focus (first | exact Cond_c (PO_conv_int rfl (IK rfl) (IK rfl) rfl) | exact Cond_c (PO_makeFunc rfl) | exact Cond_c (PO_buildSlice rfl (EL rfl) (SZ rfl) (AG rfl) (ZR rfl) rfl rfl rfl rfl rfl rfl rfl) | exact Cond_f (fun _ => PO_conv_int rfl (IK rfl) (IK rfl) rfl) | exact Cond_f (fun _ => PO_makeFunc rfl) | exact Cond_f (fun _ => PO_buildSlice rfl (EL rfl) (SZ rfl) (AG rfl) (ZR rfl) rfl rfl rfl rfl rfl rfl rfl) | exact Cond_f (fun _ => PO_nilCheck rfl rfl) | exact Cond_f (fun _ => PO_conv_int rfl (IK rfl) (IK rfl) rfl))) | refine PW_seq ?_ | refine PW_region ?_ | refine PW_draw_all mixed (by kernel_rfl) ?_ | refine PW_block ?_ | (refine PW_skip ?_; try show PW _ _ _ _ _ _) | (refine PW_exit ?_; try show PW _ _ _ _ _ _) | (refine PW_ret ?_; try show PW _ _ _ _ _ _) | refine PW_cond_t rfl ?_ | refine PW_cond_f rfl ?_))
      (first | refine Ret_int (resVs_cons resV_tmp resVs_nil) rfl ?_ | refine Ret_bool (resVs_cons resV_tmp resVs_nil) rfl ?_ | refine Ret_g (resVs_cons resV_tmp resVs_nil) rfl ?_ | refine Ret_int (resVs_cons (resV_agg (AG rfl) (SZ rfl) rfl rfl (Nat.le_of_ble_eq_true rfl)) resVs_nil) rfl ?_ | refine Ret_bool (resVs_cons (resV_agg (AG rfl) (SZ rfl) rfl rfl (Nat.le_of_ble_eq_true rfl)) resVs_nil) rfl ?_ | refine Ret_g (resVs_cons (resV_agg (AG rfl) (SZ rfl) rfl rfl (Nat.le_of_ble_eq_true rfl)) resVs_nil) rfl ?_)
      rfl

theorem alive_fact : sumB [49, 50, 51, 52, 53, 54, 55, 56, 57] = 3421780262#32 := by decide +kernel
set_option maxRecDepth 10000 in
theorem alive_bytes : bytesT (.mk 1 (-1) ⟨#[97]⟩ []) = ([1, 1, 1, 97, 0] ++ four (sumB [1, 1, 1, 97, 0]), 0) := by
  have h : enc (.mk 1 (-1) ⟨#[97]⟩ []) = [1, 1, 1, 97, 0] := by
    simp only [enc, encs]
    rw [varint_small (by decide), varint_small (by decide), varint_small (by decide)]
    decide
  have hw : wrongT (.mk 1 (-1) ⟨#[97]⟩ []) = 0 := by simp [wrongT, look, looks]
  unfold bytesT
  rw [h, hw, if_pos rfl, if_neg (by decide)]
set_option maxRecDepth 100000 in
set_option maxHeartbeats 4000000 in
theorem alive_pc : PC Try.prog 26 [] ⟨[], [], []⟩ (.g (.bool true)) ⟨[], [], []⟩ := by
  have hb := bytes_pc 1 (-1) ⟨#[97]⟩ [] (by simp [Tr.ok, Tr.oks]) (by
    have h : enc (.mk 1 (-1) ⟨#[97]⟩ []) = [1, 1, 1, 97, 0] := by
      simp only [enc, encs]
      rw [varint_small (by decide), varint_small (by decide), varint_small (by decide)]
      decide
    rw [h]; decide)
  rw [alive_bytes] at hb
  have hs := sum_pc [49, 50, 51, 52, 53, 54, 55, 56, 57] (by decide)
  have e : ~~~ (crc 0xffffffff#32 [49, 50, 51, 52, 53, 54, 55, 56, 57]) = 3421780262#32 := alive_fact
  rw [e] at hs
  refine PC_of_PW Try.func26 rfl rfl (rs := _) rfl (Nat.le_of_ble_eq_true (by kernel_rfl)) ?_
  (repeat (first | (refine POps_nil ?_; try show PW _ _ _ _ _ _) | (refine POpsD_nil ?_; try show PW _ _ _ _ _ _) | refine runO_ok tabOk 300 rfl rfl ?_ | refine runO_ok tabOk 6 rfl rfl ?_ | refine runO_ok tabOk 1 rfl rfl ?_ | refine runD_ok tabOk 300 rfl rfl ?_ | refine runD_ok tabOk 6 rfl rfl ?_ | refine runD_ok tabOk 1 rfl rfl ?_ | (apply POps_run rfl rfl; focus (first | exact call_pure rfl rfl (EN rfl) (hb) rfl rfl rfl | exact call_pure rfl rfl (EN rfl) (hs) rfl rfl rfl | exact PO_indexAddr (g := byteG 1) rfl (EL rfl) (SZ rfl) rfl rfl (by decide) rfl rfl | exact PO_buildSlice_mar rfl (EL rfl) (SZ rfl) (AG rfl) (ZR rfl) rfl rfl rfl rfl rfl rfl rfl | exact PO_conv_mark rfl (EL rfl) (IK rfl) rfl rfl rfl | exact PO_conv_int rfl (IK rfl) (IK rfl) rfl | exact PO_makeFunc rfl | exact PO_buildSlice rfl (EL rfl) (SZ rfl) (AG rfl) (ZR rfl) rfl rfl rfl rfl rfl rfl rfl | exact PO_nilCheck rfl rfl | exact PO_conv_int rfl (IK rfl) (IK rfl) rfl)) | (apply POpsD_run rfl rfl; focus (first | exact Cond_c (call_pure rfl rfl (EN rfl) (hb) rfl rfl rfl) | exact Cond_c (call_pure rfl rfl (EN rfl) (hs) rfl rfl rfl) | exact Cond_c (PO_indexAddr (g := byteG 1) rfl (EL rfl) (SZ rfl) rfl rfl (by decide) rfl rfl) | exact Cond_c (PO_buildSlice_mar rfl (EL rfl) (SZ rfl) (AG rfl) (ZR rfl) rfl rfl rfl rfl rfl rfl rfl) | exact Cond_c (PO_conv_mark rfl (EL rfl) (IK rfl) rfl rfl rfl) | exact Cond_c (PO_conv_int rfl (IK rfl) (IK rfl) rfl) | exact Cond_c (PO_makeFunc rfl) | exact Cond_c (PO_buildSlice rfl (EL rfl) (SZ rfl) (AG rfl) (ZR rfl) rfl rfl rfl rfl rfl rfl rfl) | exact Cond_f (fun _ => call_pure rfl rfl (EN rfl) (hb) rfl rfl rfl) | exact Cond_f (fun _ => call_pure rfl rfl (EN rfl) (hs) rfl rfl rfl) | exact Cond_f (fun _ => PO_indexAddr (g := byteG 1) rfl (EL rfl) (SZ rfl) rfl rfl (by decide) rfl rfl) | exact Cond_f (fun _ => PO_buildSlice_mar rfl (EL rfl) (SZ rfl) (AG rfl) (ZR rfl) rfl rfl rfl rfl rfl rfl rfl) | exact Cond_f (fun _ => PO_conv_mark rfl (EL rfl) (IK rfl) rfl rfl rfl) | exact Cond_f (fun _ => PO_conv_int rfl (IK rfl) (IK rfl) rfl) | exact Cond_f (fun _ => PO_makeFunc rfl) | exact Cond_f (fun _ => PO_buildSlice rfl (EL rfl) (SZ rfl) (AG rfl) (ZR rfl) rfl rfl rfl rfl rfl rfl rfl) | exact Cond_f (fun _ => PO_nilCheck rfl rfl) | exact Cond_f (fun _ => PO_conv_int rfl (IK rfl) (IK rfl) rfl))) | refine PW_seq ?_ | refine PW_region ?_ | refine PW_draw_all mixed (by kernel_rfl) ?_ | refine PW_block ?_ | (refine PW_skip ?_; try show PW _ _ _ _ _ _) | (refine PW_exit ?_; try show PW _ _ _ _ _ _) | (refine PW_ret ?_; try show PW _ _ _ _ _ _) | refine PW_cond_t rfl ?_ | refine PW_cond_f rfl ?_))
  (first | refine Ret_int (resVs_cons resV_tmp resVs_nil) rfl ?_ | refine Ret_bool (resVs_cons resV_tmp resVs_nil) rfl ?_ | refine Ret_g (resVs_cons resV_tmp resVs_nil) rfl ?_ | refine Ret_int (resVs_cons (resV_agg (AG rfl) (SZ rfl) rfl rfl (Nat.le_of_ble_eq_true rfl)) resVs_nil) rfl ?_ | refine Ret_bool (resVs_cons (resV_agg (AG rfl) (SZ rfl) rfl rfl (Nat.le_of_ble_eq_true rfl)) resVs_nil) rfl ?_ | refine Ret_g (resVs_cons (resV_agg (AG rfl) (SZ rfl) rfl rfl (Nat.le_of_ble_eq_true rfl)) resVs_nil) rfl ?_)
  rfl
end Go.Proofs.Ytffpepmfdjjjaaa

namespace Go.Proofs.Ytffpepmfdjjjaaa
open Go.Pure
attribute [local irreducible] PW POps POpsD PO PC Cond

theorem parse_ok (l : List UInt8) : (parseT l).1.ok := by
  have hn : noTree.ok := by simp [noTree, Tr.ok, Tr.oks]
  unfold parseT
  split
  · exact hn
  · split
    · unfold parseB
      split
      · exact hn
      · split
        · exact hn
        · exact tree_ok 40 _ _ (by simp; omega)
    · exact hn
theorem bytes_enc {u : Tr} {l : List UInt8} (h : bytesT u = (l, 0)) : (enc u).length + 4 ≤ 100000 ∧ l.length ≤ 100000 := by
  unfold bytesT at h
  split at h
  · split at h
    · simp at h
    · cases h
      refine ⟨by omega, ?_⟩
      simp [four]
      omega
  · rename_i h0
    exact absurd (congrArg (fun x => x.2) h) h0

set_option maxRecDepth 100000 in
set_option maxHeartbeats 8000000 in
theorem turns_pc (tag tn : Int) (text : ByteArray) (kids : List Tr) (b : List UInt8) (hk : (Tr.mk tag tn text kids).ok) (hw : (Tr.mk tag tn text kids).wf) (hb : (enc (.mk tag tn text kids)).length ≤ 900000000) (hbl : b.length ≤ 900000000) :
    PC Try.prog 5 [.g (Tr.mk tag tn text kids).g, .g (.sl (bys b))] ⟨[], [], []⟩ (.g (.bool true)) ⟨[], [], []⟩ := by
  have h1 := bytes_pc tag tn text kids hk hb
  have h2 := parse_all b (by omega)
  have huok := parse_ok b
  obtain ⟨ua, ub, uc, ud, hu⟩ : ∃ a b' c d, (parseT b).1 = Tr.mk a b' c d := by cases (parseT b).1; exact ⟨_, _, _, _, rfl⟩
  rw [hu] at h2 huok
  have h3 : (parseT b).2 = 0 → PC Try.prog 21 [.g (Tr.mk ua ub uc ud).g] ⟨[], [], []⟩ (.tuple [.g (.sl (bys b)), .g (.int .i64 0)]) ⟨[], [], []⟩ := by
    intro h0
    obtain ⟨e1, e2, e3⟩ := parse_bytes (u := Tr.mk ua ub uc ud) (l := b) (Prod.ext hu h0)
    have := bytes_pc ua ub uc ud huok (by have := (bytes_enc e1).1; omega)
    rw [e1] at this
    exact this
  have h4 := samebytes_pc b (by omega)
  cases hx : bytesT (.mk tag tn text kids) with
  | mk x e =>
  rw [hx] at h1
  dsimp only at h1
  by_cases he : e = 0
  · subst he
    have h5 := parse_all x (by have := (bytes_enc hx).2; omega)
    rw [bytes_parse hw hx] at h5
    have h6 := same_pc _ _ (Nat.le_refl _) hk
    refine PC_of_PW Try.func5 rfl rfl (rs := _) rfl (Nat.le_of_ble_eq_true (by kernel_rfl)) ?_
    (repeat (first | (refine POps_nil ?_; try show PW _ _ _ _ _ _) | (refine POpsD_nil ?_; try show PW _ _ _ _ _ _) | refine runO_ok tabOk 300 rfl rfl ?_ | refine runO_ok tabOk 6 rfl rfl ?_ | refine runO_ok tabOk 1 rfl rfl ?_ | refine runD_ok tabOk 300 rfl rfl ?_ | refine runD_ok tabOk 6 rfl rfl ?_ | refine runD_ok tabOk 1 rfl rfl ?_ | (apply POps_run rfl rfl; focus (first | exact call_pure rfl rfl (EN rfl) (alive_pc) rfl rfl rfl | exact call_pure rfl rfl (EN rfl) (h1) rfl rfl rfl | exact call_pure rfl rfl (EN rfl) (h5) rfl rfl rfl | exact call_pure rfl rfl (EN rfl) (h6) rfl rfl rfl | exact call_pure rfl rfl (EN rfl) (h2) rfl rfl rfl | exact PO_conv_int rfl (IK rfl) (IK rfl) rfl | exact PO_makeFunc rfl | exact PO_buildSlice rfl (EL rfl) (SZ rfl) (AG rfl) (ZR rfl) rfl rfl rfl rfl rfl rfl rfl | exact PO_nilCheck rfl rfl | exact PO_conv_int rfl (IK rfl) (IK rfl) rfl)) | (apply POpsD_run rfl rfl; focus (first | exact Cond_c (call_pure rfl rfl (EN rfl) (alive_pc) rfl rfl rfl) | exact Cond_c (call_pure rfl rfl (EN rfl) (h1) rfl rfl rfl) | exact Cond_c (call_pure rfl rfl (EN rfl) (h5) rfl rfl rfl) | exact Cond_c (call_pure rfl rfl (EN rfl) (h6) rfl rfl rfl) | exact Cond_c (call_pure rfl rfl (EN rfl) (h2) rfl rfl rfl) | exact Cond_c (PO_conv_int rfl (IK rfl) (IK rfl) rfl) | exact Cond_c (PO_makeFunc rfl) | exact Cond_c (PO_buildSlice rfl (EL rfl) (SZ rfl) (AG rfl) (ZR rfl) rfl rfl rfl rfl rfl rfl rfl) | exact Cond_f (fun _ => call_pure rfl rfl (EN rfl) (alive_pc) rfl rfl rfl) | exact Cond_f (fun _ => call_pure rfl rfl (EN rfl) (h1) rfl rfl rfl) | exact Cond_f (fun _ => call_pure rfl rfl (EN rfl) (h5) rfl rfl rfl) | exact Cond_f (fun _ => call_pure rfl rfl (EN rfl) (h6) rfl rfl rfl) | exact Cond_f (fun _ => call_pure rfl rfl (EN rfl) (h2) rfl rfl rfl) | exact Cond_f (fun _ => PO_conv_int rfl (IK rfl) (IK rfl) rfl) | exact Cond_f (fun _ => PO_makeFunc rfl) | exact Cond_f (fun _ => PO_buildSlice rfl (EL rfl) (SZ rfl) (AG rfl) (ZR rfl) rfl rfl rfl rfl rfl rfl rfl) | exact Cond_f (fun _ => PO_nilCheck rfl rfl) | exact Cond_f (fun _ => PO_conv_int rfl (IK rfl) (IK rfl) rfl))) | refine PW_seq ?_ | refine PW_region ?_ | refine PW_draw_all mixed (by kernel_rfl) ?_ | refine PW_block ?_ | (refine PW_skip ?_; try show PW _ _ _ _ _ _) | (refine PW_exit ?_; try show PW _ _ _ _ _ _) | (refine PW_ret ?_; try show PW _ _ _ _ _ _) | refine PW_cond_t rfl ?_ | refine PW_cond_f rfl ?_))
    (first | refine POps_split rfl rfl (fun h => ?_) (fun h => ?_) | refine POpsD_split rfl rfl (fun h => ?_) (fun h => ?_) | refine PW_cond rfl (fun h => ?_) (fun h => ?_))
    · (repeat (first | (refine POps_nil ?_; try show PW _ _ _ _ _ _) | (refine POpsD_nil ?_; try show PW _ _ _ _ _ _) | refine runO_ok tabOk 300 rfl rfl ?_ | refine runO_ok tabOk 6 rfl rfl ?_ | refine runO_ok tabOk 1 rfl rfl ?_ | refine runD_ok tabOk 300 rfl rfl ?_ | refine runD_ok tabOk 6 rfl rfl ?_ | refine runD_ok tabOk 1 rfl rfl ?_ | (apply POps_run rfl rfl; focus (first | exact PO_conv_int rfl (IK rfl) (IK rfl) rfl | exact PO_makeFunc rfl | exact PO_buildSlice rfl (EL rfl) (SZ rfl) (AG rfl) (ZR rfl) rfl rfl rfl rfl rfl rfl rfl | exact PO_nilCheck rfl rfl | exact PO_conv_int rfl (IK rfl) (IK rfl) rfl)) | (apply POpsD_run rfl rfl; focus (first | exact Cond_c (PO_conv_int rfl (IK rfl) (IK rfl) rfl) | exact Cond_c (PO_makeFunc rfl) | exact Cond_c (PO_buildSlice rfl (EL rfl) (SZ rfl) (AG rfl) (ZR rfl) rfl rfl rfl rfl rfl rfl rfl) | exact Cond_f (fun _ => PO_conv_int rfl (IK rfl) (IK rfl) rfl) | exact Cond_f (fun _ => PO_makeFunc rfl) | exact Cond_f (fun _ => PO_buildSlice rfl (EL rfl) (SZ rfl) (AG rfl) (ZR rfl) rfl rfl rfl rfl rfl rfl rfl) | exact Cond_f (fun _ => PO_nilCheck rfl rfl) | exact Cond_f (fun _ => PO_conv_int rfl (IK rfl) (IK rfl) rfl))) | refine PW_seq ?_ | refine PW_region ?_ | refine PW_draw_all mixed (by kernel_rfl) ?_ | refine PW_block ?_ | (refine PW_skip ?_; try show PW _ _ _ _ _ _) | (refine PW_exit ?_; try show PW _ _ _ _ _ _) | (refine PW_ret ?_; try show PW _ _ _ _ _ _) | refine PW_cond_t rfl ?_ | refine PW_cond_f rfl ?_))
      (first | refine Ret_int (resVs_cons resV_tmp resVs_nil) rfl ?_ | refine Ret_bool (resVs_cons resV_tmp resVs_nil) rfl ?_ | refine Ret_g (resVs_cons resV_tmp resVs_nil) rfl ?_ | refine Ret_int (resVs_cons (resV_agg (AG rfl) (SZ rfl) rfl rfl (Nat.le_of_ble_eq_true rfl)) resVs_nil) rfl ?_ | refine Ret_bool (resVs_cons (resV_agg (AG rfl) (SZ rfl) rfl rfl (Nat.le_of_ble_eq_true rfl)) resVs_nil) rfl ?_ | refine Ret_g (resVs_cons (resV_agg (AG rfl) (SZ rfl) rfl rfl (Nat.le_of_ble_eq_true rfl)) resVs_nil) rfl ?_)
      rfl
    · have h0 : (parseT b).2 = 0 := by simpa [bne] using h
      have h3 := h3 h0
      (repeat (first | (refine POps_nil ?_; try show PW _ _ _ _ _ _) | (refine POpsD_nil ?_; try show PW _ _ _ _ _ _) | refine runO_ok tabOk 300 rfl rfl ?_ | refine runO_ok tabOk 6 rfl rfl ?_ | refine runO_ok tabOk 1 rfl rfl ?_ | refine runD_ok tabOk 300 rfl rfl ?_ | refine runD_ok tabOk 6 rfl rfl ?_ | refine runD_ok tabOk 1 rfl rfl ?_ | (apply POps_run rfl rfl; focus (first | exact call_pure rfl rfl (EN rfl) (h3) rfl rfl rfl | exact call_pure rfl rfl (EN rfl) (h4) rfl rfl rfl | exact PO_conv_int rfl (IK rfl) (IK rfl) rfl | exact PO_makeFunc rfl | exact PO_buildSlice rfl (EL rfl) (SZ rfl) (AG rfl) (ZR rfl) rfl rfl rfl rfl rfl rfl rfl | exact PO_nilCheck rfl rfl | exact PO_conv_int rfl (IK rfl) (IK rfl) rfl)) | (apply POpsD_run rfl rfl; focus (first | exact Cond_c (call_pure rfl rfl (EN rfl) (h3) rfl rfl rfl) | exact Cond_c (call_pure rfl rfl (EN rfl) (h4) rfl rfl rfl) | exact Cond_c (PO_conv_int rfl (IK rfl) (IK rfl) rfl) | exact Cond_c (PO_makeFunc rfl) | exact Cond_c (PO_buildSlice rfl (EL rfl) (SZ rfl) (AG rfl) (ZR rfl) rfl rfl rfl rfl rfl rfl rfl) | exact Cond_f (fun _ => call_pure rfl rfl (EN rfl) (h3) rfl rfl rfl) | exact Cond_f (fun _ => call_pure rfl rfl (EN rfl) (h4) rfl rfl rfl) | exact Cond_f (fun _ => PO_conv_int rfl (IK rfl) (IK rfl) rfl) | exact Cond_f (fun _ => PO_makeFunc rfl) | exact Cond_f (fun _ => PO_buildSlice rfl (EL rfl) (SZ rfl) (AG rfl) (ZR rfl) rfl rfl rfl rfl rfl rfl rfl) | exact Cond_f (fun _ => PO_nilCheck rfl rfl) | exact Cond_f (fun _ => PO_conv_int rfl (IK rfl) (IK rfl) rfl))) | refine PW_seq ?_ | refine PW_region ?_ | refine PW_draw_all mixed (by kernel_rfl) ?_ | refine PW_block ?_ | (refine PW_skip ?_; try show PW _ _ _ _ _ _) | (refine PW_exit ?_; try show PW _ _ _ _ _ _) | (refine PW_ret ?_; try show PW _ _ _ _ _ _) | refine PW_cond_t rfl ?_ | refine PW_cond_f rfl ?_))
      (first | refine Ret_int (resVs_cons resV_tmp resVs_nil) rfl ?_ | refine Ret_bool (resVs_cons resV_tmp resVs_nil) rfl ?_ | refine Ret_g (resVs_cons resV_tmp resVs_nil) rfl ?_ | refine Ret_int (resVs_cons (resV_agg (AG rfl) (SZ rfl) rfl rfl (Nat.le_of_ble_eq_true rfl)) resVs_nil) rfl ?_ | refine Ret_bool (resVs_cons (resV_agg (AG rfl) (SZ rfl) rfl rfl (Nat.le_of_ble_eq_true rfl)) resVs_nil) rfl ?_ | refine Ret_g (resVs_cons (resV_agg (AG rfl) (SZ rfl) rfl rfl (Nat.le_of_ble_eq_true rfl)) resVs_nil) rfl ?_)
      rfl
  · refine PC_of_PW Try.func5 rfl rfl (rs := _) rfl (Nat.le_of_ble_eq_true (by kernel_rfl)) ?_
    (repeat (first | (refine POps_nil ?_; try show PW _ _ _ _ _ _) | (refine POpsD_nil ?_; try show PW _ _ _ _ _ _) | refine runO_ok tabOk 300 rfl rfl ?_ | refine runO_ok tabOk 6 rfl rfl ?_ | refine runO_ok tabOk 1 rfl rfl ?_ | refine runD_ok tabOk 300 rfl rfl ?_ | refine runD_ok tabOk 6 rfl rfl ?_ | refine runD_ok tabOk 1 rfl rfl ?_ | (apply POps_run rfl rfl; focus (first | exact call_pure rfl rfl (EN rfl) (alive_pc) rfl rfl rfl | exact call_pure rfl rfl (EN rfl) (h1) rfl rfl rfl | exact PO_conv_int rfl (IK rfl) (IK rfl) rfl | exact PO_makeFunc rfl | exact PO_buildSlice rfl (EL rfl) (SZ rfl) (AG rfl) (ZR rfl) rfl rfl rfl rfl rfl rfl rfl | exact PO_nilCheck rfl rfl | exact PO_conv_int rfl (IK rfl) (IK rfl) rfl)) | (apply POpsD_run rfl rfl; focus (first | exact Cond_c (call_pure rfl rfl (EN rfl) (alive_pc) rfl rfl rfl) | exact Cond_c (call_pure rfl rfl (EN rfl) (h1) rfl rfl rfl) | exact Cond_c (PO_conv_int rfl (IK rfl) (IK rfl) rfl) | exact Cond_c (PO_makeFunc rfl) | exact Cond_c (PO_buildSlice rfl (EL rfl) (SZ rfl) (AG rfl) (ZR rfl) rfl rfl rfl rfl rfl rfl rfl) | exact Cond_f (fun _ => call_pure rfl rfl (EN rfl) (alive_pc) rfl rfl rfl) | exact Cond_f (fun _ => call_pure rfl rfl (EN rfl) (h1) rfl rfl rfl) | exact Cond_f (fun _ => PO_conv_int rfl (IK rfl) (IK rfl) rfl) | exact Cond_f (fun _ => PO_makeFunc rfl) | exact Cond_f (fun _ => PO_buildSlice rfl (EL rfl) (SZ rfl) (AG rfl) (ZR rfl) rfl rfl rfl rfl rfl rfl rfl) | exact Cond_f (fun _ => PO_nilCheck rfl rfl) | exact Cond_f (fun _ => PO_conv_int rfl (IK rfl) (IK rfl) rfl))) | refine PW_seq ?_ | refine PW_region ?_ | refine PW_draw_all mixed (by kernel_rfl) ?_ | refine PW_block ?_ | (refine PW_skip ?_; try show PW _ _ _ _ _ _) | (refine PW_exit ?_; try show PW _ _ _ _ _ _) | (refine PW_ret ?_; try show PW _ _ _ _ _ _) | refine PW_cond_t rfl ?_ | refine PW_cond_f rfl ?_))
    (first | refine POps_split rfl rfl (fun h => ?_) (fun h => ?_) | refine POpsD_split rfl rfl (fun h => ?_) (fun h => ?_) | refine PW_cond rfl (fun h => ?_) (fun h => ?_))
    · simp at h
      exact absurd h he
    · (repeat (first | (refine POps_nil ?_; try show PW _ _ _ _ _ _) | (refine POpsD_nil ?_; try show PW _ _ _ _ _ _) | refine runO_ok tabOk 300 rfl rfl ?_ | refine runO_ok tabOk 6 rfl rfl ?_ | refine runO_ok tabOk 1 rfl rfl ?_ | refine runD_ok tabOk 300 rfl rfl ?_ | refine runD_ok tabOk 6 rfl rfl ?_ | refine runD_ok tabOk 1 rfl rfl ?_ | (apply POps_run rfl rfl; focus (first | exact call_pure rfl rfl (EN rfl) (h2) rfl rfl rfl | exact PO_conv_int rfl (IK rfl) (IK rfl) rfl | exact PO_makeFunc rfl | exact PO_buildSlice rfl (EL rfl) (SZ rfl) (AG rfl) (ZR rfl) rfl rfl rfl rfl rfl rfl rfl | exact PO_nilCheck rfl rfl | exact PO_conv_int rfl (IK rfl) (IK rfl) rfl)) | (apply POpsD_run rfl rfl; focus (first | exact Cond_c (call_pure rfl rfl (EN rfl) (h2) rfl rfl rfl) | exact Cond_c (PO_conv_int rfl (IK rfl) (IK rfl) rfl) | exact Cond_c (PO_makeFunc rfl) | exact Cond_c (PO_buildSlice rfl (EL rfl) (SZ rfl) (AG rfl) (ZR rfl) rfl rfl rfl rfl rfl rfl rfl) | exact Cond_f (fun _ => call_pure rfl rfl (EN rfl) (h2) rfl rfl rfl) | exact Cond_f (fun _ => PO_conv_int rfl (IK rfl) (IK rfl) rfl) | exact Cond_f (fun _ => PO_makeFunc rfl) | exact Cond_f (fun _ => PO_buildSlice rfl (EL rfl) (SZ rfl) (AG rfl) (ZR rfl) rfl rfl rfl rfl rfl rfl rfl) | exact Cond_f (fun _ => PO_nilCheck rfl rfl) | exact Cond_f (fun _ => PO_conv_int rfl (IK rfl) (IK rfl) rfl))) | refine PW_seq ?_ | refine PW_region ?_ | refine PW_draw_all mixed (by kernel_rfl) ?_ | refine PW_block ?_ | (refine PW_skip ?_; try show PW _ _ _ _ _ _) | (refine PW_exit ?_; try show PW _ _ _ _ _ _) | (refine PW_ret ?_; try show PW _ _ _ _ _ _) | refine PW_cond_t rfl ?_ | refine PW_cond_f rfl ?_))
      (first | refine POps_split rfl rfl (fun h => ?_) (fun h => ?_) | refine POpsD_split rfl rfl (fun h => ?_) (fun h => ?_) | refine PW_cond rfl (fun h => ?_) (fun h => ?_))
      · (repeat (first | (refine POps_nil ?_; try show PW _ _ _ _ _ _) | (refine POpsD_nil ?_; try show PW _ _ _ _ _ _) | refine runO_ok tabOk 300 rfl rfl ?_ | refine runO_ok tabOk 6 rfl rfl ?_ | refine runO_ok tabOk 1 rfl rfl ?_ | refine runD_ok tabOk 300 rfl rfl ?_ | refine runD_ok tabOk 6 rfl rfl ?_ | refine runD_ok tabOk 1 rfl rfl ?_ | (apply POps_run rfl rfl; focus (first | exact PO_conv_int rfl (IK rfl) (IK rfl) rfl | exact PO_makeFunc rfl | exact PO_buildSlice rfl (EL rfl) (SZ rfl) (AG rfl) (ZR rfl) rfl rfl rfl rfl rfl rfl rfl | exact PO_nilCheck rfl rfl | exact PO_conv_int rfl (IK rfl) (IK rfl) rfl)) | (apply POpsD_run rfl rfl; focus (first | exact Cond_c (PO_conv_int rfl (IK rfl) (IK rfl) rfl) | exact Cond_c (PO_makeFunc rfl) | exact Cond_c (PO_buildSlice rfl (EL rfl) (SZ rfl) (AG rfl) (ZR rfl) rfl rfl rfl rfl rfl rfl rfl) | exact Cond_f (fun _ => PO_conv_int rfl (IK rfl) (IK rfl) rfl) | exact Cond_f (fun _ => PO_makeFunc rfl) | exact Cond_f (fun _ => PO_buildSlice rfl (EL rfl) (SZ rfl) (AG rfl) (ZR rfl) rfl rfl rfl rfl rfl rfl rfl) | exact Cond_f (fun _ => PO_nilCheck rfl rfl) | exact Cond_f (fun _ => PO_conv_int rfl (IK rfl) (IK rfl) rfl))) | refine PW_seq ?_ | refine PW_region ?_ | refine PW_draw_all mixed (by kernel_rfl) ?_ | refine PW_block ?_ | (refine PW_skip ?_; try show PW _ _ _ _ _ _) | (refine PW_exit ?_; try show PW _ _ _ _ _ _) | (refine PW_ret ?_; try show PW _ _ _ _ _ _) | refine PW_cond_t rfl ?_ | refine PW_cond_f rfl ?_))
        (first | refine Ret_int (resVs_cons resV_tmp resVs_nil) rfl ?_ | refine Ret_bool (resVs_cons resV_tmp resVs_nil) rfl ?_ | refine Ret_g (resVs_cons resV_tmp resVs_nil) rfl ?_ | refine Ret_int (resVs_cons (resV_agg (AG rfl) (SZ rfl) rfl rfl (Nat.le_of_ble_eq_true rfl)) resVs_nil) rfl ?_ | refine Ret_bool (resVs_cons (resV_agg (AG rfl) (SZ rfl) rfl rfl (Nat.le_of_ble_eq_true rfl)) resVs_nil) rfl ?_ | refine Ret_g (resVs_cons (resV_agg (AG rfl) (SZ rfl) rfl rfl (Nat.le_of_ble_eq_true rfl)) resVs_nil) rfl ?_)
        rfl
      · have h0 : (parseT b).2 = 0 := by simpa [bne] using h
        have h3 := h3 h0
        (repeat (first | (refine POps_nil ?_; try show PW _ _ _ _ _ _) | (refine POpsD_nil ?_; try show PW _ _ _ _ _ _) | refine runO_ok tabOk 300 rfl rfl ?_ | refine runO_ok tabOk 6 rfl rfl ?_ | refine runO_ok tabOk 1 rfl rfl ?_ | refine runD_ok tabOk 300 rfl rfl ?_ | refine runD_ok tabOk 6 rfl rfl ?_ | refine runD_ok tabOk 1 rfl rfl ?_ | (apply POps_run rfl rfl; focus (first | exact call_pure rfl rfl (EN rfl) (h3) rfl rfl rfl | exact call_pure rfl rfl (EN rfl) (h4) rfl rfl rfl | exact PO_conv_int rfl (IK rfl) (IK rfl) rfl | exact PO_makeFunc rfl | exact PO_buildSlice rfl (EL rfl) (SZ rfl) (AG rfl) (ZR rfl) rfl rfl rfl rfl rfl rfl rfl | exact PO_nilCheck rfl rfl | exact PO_conv_int rfl (IK rfl) (IK rfl) rfl)) | (apply POpsD_run rfl rfl; focus (first | exact Cond_c (call_pure rfl rfl (EN rfl) (h3) rfl rfl rfl) | exact Cond_c (call_pure rfl rfl (EN rfl) (h4) rfl rfl rfl) | exact Cond_c (PO_conv_int rfl (IK rfl) (IK rfl) rfl) | exact Cond_c (PO_makeFunc rfl) | exact Cond_c (PO_buildSlice rfl (EL rfl) (SZ rfl) (AG rfl) (ZR rfl) rfl rfl rfl rfl rfl rfl rfl) | exact Cond_f (fun _ => call_pure rfl rfl (EN rfl) (h3) rfl rfl rfl) | exact Cond_f (fun _ => call_pure rfl rfl (EN rfl) (h4) rfl rfl rfl) | exact Cond_f (fun _ => PO_conv_int rfl (IK rfl) (IK rfl) rfl) | exact Cond_f (fun _ => PO_makeFunc rfl) | exact Cond_f (fun _ => PO_buildSlice rfl (EL rfl) (SZ rfl) (AG rfl) (ZR rfl) rfl rfl rfl rfl rfl rfl rfl) | exact Cond_f (fun _ => PO_nilCheck rfl rfl) | exact Cond_f (fun _ => PO_conv_int rfl (IK rfl) (IK rfl) rfl))) | refine PW_seq ?_ | refine PW_region ?_ | refine PW_draw_all mixed (by kernel_rfl) ?_ | refine PW_block ?_ | (refine PW_skip ?_; try show PW _ _ _ _ _ _) | (refine PW_exit ?_; try show PW _ _ _ _ _ _) | (refine PW_ret ?_; try show PW _ _ _ _ _ _) | refine PW_cond_t rfl ?_ | refine PW_cond_f rfl ?_))
        (first | refine Ret_int (resVs_cons resV_tmp resVs_nil) rfl ?_ | refine Ret_bool (resVs_cons resV_tmp resVs_nil) rfl ?_ | refine Ret_g (resVs_cons resV_tmp resVs_nil) rfl ?_ | refine Ret_int (resVs_cons (resV_agg (AG rfl) (SZ rfl) rfl rfl (Nat.le_of_ble_eq_true rfl)) resVs_nil) rfl ?_ | refine Ret_bool (resVs_cons (resV_agg (AG rfl) (SZ rfl) rfl rfl (Nat.le_of_ble_eq_true rfl)) resVs_nil) rfl ?_ | refine Ret_g (resVs_cons (resV_agg (AG rfl) (SZ rfl) rfl rfl (Nat.le_of_ble_eq_true rfl)) resVs_nil) rfl ?_)
        rfl
end Go.Proofs.Ytffpepmfdjjjaaa

/- What a tree, or bytes, that come in read as; how much they hold. -/
namespace Go.Proofs.Ytffpepmfdjjjaaa
open Go.Pure Go.ChangeShapes Go.WideShapes Go.ChangeAt Go.RowKit

mutual
/-- How much a ground value holds. -/
def gbulk : GV → Nat
  | .str s => s.size + 1
  | .agg cs => gbulks cs
  | .sl es => gbulks es + 1
  | _ => 1
def gbulks : List GV → Nat
  | [] => 0
  | g :: r => gbulk g + gbulks r
end
theorem gbulks_append : ∀ a b : List GV, gbulks (a ++ b) = gbulks a + gbulks b
  | [], b => by simp [gbulks]
  | x :: a, b => by simp [gbulks, gbulks_append a b, Nat.add_assoc]
theorem gbulk_cells (x : GV) : gbulks x.cells = gbulk x := by
  cases x <;> simp [GV.cells, gbulks, gbulk]
theorem gbulks_cells : ∀ xs : List GV, gbulks (xs.flatMap GV.cells) = gbulks xs
  | [] => by simp [gbulks]
  | x :: xs => by simp [gbulks, gbulks_append, gbulk_cells, gbulks_cells xs]
theorem all_le {H : Type} : ∀ (ds : List (DataW H)) (xs : List GV), ds.length = xs.length → (∀ (i : Nat) (d : DataW H) (x : GV), ds[i]? = some d → xs[i]? = some x → gbulk x ≤ Rows.uptoBulk d) → gbulks xs ≤ Rows.uptoBulkAll ds
  | [], [], _, _ => by simp [gbulks]
  | [], _ :: _, h, _ => by simp at h
  | _ :: _, [], h, _ => by simp at h
  | d :: ds, x :: xs, hl, h => by
    have h0 := h 0 d x rfl rfl
    have h1 := all_le ds xs (by simpa using hl) (fun i d' x' hd hx => h (i + 1) d' x' (by simpa using hd) (by simpa using hx))
    simp only [gbulks, Rows.uptoBulkAll]
    omega
theorem bulk_le {H : Type} {d : DataW H} {g : GV} (h : DG d g) : gbulk g ≤ Rows.uptoBulk d := by
  induction h with
  | int k n => simp [gbulk, Rows.uptoBulk]
  | bool b => simp [gbulk, Rows.uptoBulk]
  | str s => simp [gbulk, Rows.uptoBulk]
  | nil => simp [gbulk, gbulks, Rows.uptoBulk]
  | sl ds sp es hl _ ih =>
    have := all_le ds es hl ih
    simp only [gbulk, Rows.uptoBulk]
    omega
  | agg ds xs hl _ ih =>
    have := all_le ds xs hl ih
    simp only [gbulk, Rows.uptoBulk, gbulks_cells]
    omega
theorem bulk_all {H : Type} {ds : List (DataW H)} {xs : List GV} (hl : xs.length = ds.length) (h : ∀ (i : Nat) (d : DataW H) (g : GV), ds[i]? = some d → xs[i]? = some g → DG d g) : gbulks xs ≤ Rows.uptoBulkAll ds :=
  all_le ds xs hl.symm fun i d x hd hx => bulk_le (h i d x hd hx)

theorem bytes_inv {g : GV} (h : GT Try.prog 38 g) : ∃ l : List UInt8, g = .sl (bys l) ∧ l.length ≤ maxLen := by
  obtain ⟨es, rfl, hl, he⟩ := GT.sl_inv Try.underlying38 h
  have : ∀ es : List GV, (∀ x ∈ es, GT Try.prog 5 x) → ∃ l, es = bys l := by
    intro es
    induction es with
    | nil => intro _; exact ⟨[], rfl⟩
    | cons x es ih =>
      intro hx
      obtain ⟨l, rfl⟩ := ih fun y hy => hx y (List.mem_cons_of_mem _ hy)
      obtain ⟨n, rfl, hn⟩ := GT.int_inv Try.underlying5 (hx x (by simp))
      have hr : 0 ≤ n ∧ n ≤ 255 := by simpa [Lit.wf, IntKind.min, IntKind.max, IntKind.signed, IntKind.bits] using hn
      refine ⟨UInt8.ofNat n.toNat :: l, ?_⟩
      simp only [bys, List.map_cons, byteG]
      congr 2
      rw [u8of _ (by omega)]
      omega
  obtain ⟨l, rfl⟩ := this es he
  exact ⟨l, rfl, by simpa [bys] using hl⟩

theorem i64wf {n : Int} (h : (Lit.int .i64 n).wf = true) : -9223372036854775808 ≤ n ∧ n < 9223372036854775808 := by
  have : -9223372036854775808 ≤ n ∧ n ≤ 9223372036854775807 := by simpa [Lit.wf, IntKind.min, IntKind.max, IntKind.signed, IntKind.bits] using h
  omega
theorem tree_inv : ∀ (m : Nat) (g : GV), SizeOf.sizeOf g ≤ m → GT Try.prog 30 g → ∃ t : Tr, g = t.g ∧ t.ok ∧ t.wf
  | 0, g, hm, _ => by cases g <;> simp at hm
  | m + 1, g, hm, h => by
    obtain ⟨xs, rfl, hl, hx⟩ := GT.agg_inv Try.underlying30 h
    obtain ⟨a, b, c, d, rfl⟩ : ∃ a b c d, xs = [a, b, c, d] := by
      match xs, hl with
      | [a, b, c, d], _ => exact ⟨a, b, c, d, rfl⟩
    obtain ⟨tag, rfl, w1⟩ := GT.int_inv Try.underlying3 (hx 0 _ _ rfl rfl)
    obtain ⟨n, rfl, w2⟩ := GT.int_inv Try.underlying2 (hx 1 _ _ rfl rfl)
    obtain ⟨s, rfl, _⟩ := GT.str_inv Try.underlying9 (hx 2 _ _ rfl rfl)
    obtain ⟨es, rfl, hl', he⟩ := GT.sl_inv Try.underlying28 (hx 3 _ _ rfl rfl)
    have : ∀ es : List GV, SizeOf.sizeOf es ≤ m → (∀ x ∈ es, GT Try.prog 30 x) → ∃ k : List Tr, es = Tr.gs k ∧ Tr.oks k ∧ Tr.wfs k := by
      intro es
      induction es with
      | nil => intro _ _; exact ⟨[], by simp [Tr.gs], by simp [Tr.oks], by simp [Tr.wfs]⟩
      | cons x es ih =>
        intro hs hx
        have hs' : SizeOf.sizeOf x ≤ m ∧ SizeOf.sizeOf es ≤ m := by simp at hs; omega
        obtain ⟨k, rfl, k1, k2⟩ := ih hs'.2 fun y hy => hx y (List.mem_cons_of_mem _ hy)
        obtain ⟨t, rfl, t1, t2⟩ := tree_inv m x hs'.1 (hx x (by simp))
        exact ⟨t :: k, by simp [Tr.gs], by simp only [Tr.oks]; exact ⟨t1, k1⟩, by simp only [Tr.wfs]; exact ⟨t2, k2⟩⟩
    have hsz : SizeOf.sizeOf es ≤ m := by
      simp [GV.cells] at hm
      omega
    obtain ⟨k, rfl, k1, k2⟩ := this es hsz he
    refine ⟨.mk tag n s k, rfl, ?_, ?_⟩
    · simp only [Tr.ok]
      exact ⟨by rw [gs_len] at hl'; exact hl', k1⟩
    · simp only [Tr.wf]
      exact ⟨i64wf w1, i64wf w2, k2⟩

mutual
theorem enc_bulk : ∀ t : Tr, (enc t).length + 31 ≤ 31 * gbulk t.g
  | .mk tag n text kids => by
    have h1 := encs_bulk kids
    have h2 := varint_len 9 (fold64 n) (by have := fold64_lt n; omega)
    simp only [enc, Tr.g, gbulk, gbulks, List.length_cons, List.length_append, Array.length_toList]
    have h3 : ∀ x : Nat, (varint x).length ≤ x + 1 := fun x => by
      by_cases hx : 128 ≤ x
      · have : ∀ k x : Nat, x < 128 ^ (k + 1) → (varint x).length ≤ k + 1 := varint_len
        have := varint_len x x (by
          have h1 := Nat.lt_two_pow_self (n := x)
          have h2 : 2 ^ x ≤ 128 ^ x := Nat.pow_le_pow_left (by decide) x
          have h3 : 128 ^ x ≤ 128 ^ (x + 1) := Nat.pow_le_pow_right (by decide) (by omega)
          omega)
        exact this
      · rw [varint_small hx]; simp
    have h4 := h3 text.size
    have h5 := h3 kids.length
    have h7 : text.data.size = text.size := rfl
    rw [h7]
    omega
theorem encs_bulk : ∀ l : List Tr, (encs l).length + 31 * l.length ≤ 31 * gbulks (Tr.gs l)
  | [] => by simp [encs]
  | t :: r => by
    have h1 := enc_bulk t
    have h2 := encs_bulk r
    simp only [encs, Tr.gs, gbulks, List.length_append, List.length_cons]
    omega
theorem kids_bulk : ∀ l : List Tr, l.length ≤ gbulks (Tr.gs l)
  | [] => by simp
  | .mk a b c d :: r => by
    have := kids_bulk r
    simp only [Tr.gs, gbulks, List.length_cons, Tr.g, gbulk]
    omega
end
theorem bys_bulk (l : List UInt8) : gbulk (.sl (bys l)) = l.length + 1 := by
  simp only [gbulk]
  congr 1
  induction l with
  | nil => simp [bys, gbulks]
  | cons c l ih =>
    have : bys (c :: l) = byteG c :: bys l := rfl
    rw [this]
    simp only [gbulks, byteG, gbulk, ih, List.length_cons]
    omega

theorem bulkAll_append {H : Type} : ∀ a b : List (DataW H), Rows.uptoBulkAll (a ++ b) = Rows.uptoBulkAll a + Rows.uptoBulkAll b
  | [], b => by simp [Rows.uptoBulkAll]
  | x :: a, b => by simp [Rows.uptoBulkAll, bulkAll_append a b, Nat.add_assoc]
theorem own : ownKnob Try.prog.godebug = none := by kernel_rfl
theorem laidOut : laidOutB Try.prog = true := by kernel_rfl
end Go.Proofs.Ytffpepmfdjjjaaa

/- Plain laws: a check sum guards: what is changed in four bytes that stand together is told. -/
namespace Go.Proofs.Ytffpepmfdjjjaaa
open Go.Pure

theorem bit_and (r : BitVec 32) : (r &&& 1#32 = 1#32) ↔ r.getLsbD 0 = true := by
  constructor
  · intro h
    have := congrArg (fun x => x.getLsbD 0) h
    simpa using this
  · intro h
    apply BitVec.eq_of_getLsbD_eq
    intro i hi
    cases i with
    | zero => simp at h ⊢; exact h
    | succ i => simp
theorem crcBit_eq (r : BitVec 32) : crcBit r = (r >>> 1) ^^^ (if r.getLsbD 0 = true then 0xedb88320#32 else 0#32) := by
  unfold crcBit
  by_cases h : r.getLsbD 0 = true
  · rw [if_pos ((bit_and r).2 h), if_pos h]
  · rw [if_neg (fun hh => h ((bit_and r).1 hh)), if_neg h, BitVec.xor_zero]
theorem crcBit_xor (r s : BitVec 32) : crcBit (r ^^^ s) = crcBit r ^^^ crcBit s := by
  rw [crcBit_eq, crcBit_eq, crcBit_eq]
  have h1 : (r ^^^ s) >>> 1 = (r >>> 1) ^^^ (s >>> 1) := by
    apply BitVec.eq_of_getLsbD_eq
    intro i hi
    simp
  have h2 : (r ^^^ s).getLsbD 0 = (r.getLsbD 0 ^^ s.getLsbD 0) := by simp
  rw [h1, h2]
  cases r.getLsbD 0 <;> cases s.getLsbD 0 <;> simp
  · rw [BitVec.xor_assoc]
  · rw [BitVec.xor_assoc, BitVec.xor_assoc, BitVec.xor_comm (s >>> 1)]
  · have : ∀ a b c : BitVec 32, a ^^^ c ^^^ (b ^^^ c) = a ^^^ b := by
      intro a b c
      rw [BitVec.xor_comm b c, ← BitVec.xor_assoc, BitVec.xor_assoc a c c, BitVec.xor_self, BitVec.xor_zero]
    rw [this]
theorem crcBit_zero : crcBit 0#32 = 0#32 := by decide
/-- Back, where the top bit is 0. -/
theorem crcBit_inv {y v : BitVec 32} (h : crcBit y = v) (hv : v.toNat < 2147483648) : y.toNat = 2 * v.toNat := by
  rw [crcBit_eq] at h
  by_cases hb : y.getLsbD 0 = true
  · rw [if_pos hb] at h
    have : v.getLsbD 31 = true := by
      rw [← h, BitVec.getLsbD_xor, BitVec.getLsbD_ushiftRight]
      have : y.getLsbD (1 + 31) = false := BitVec.getLsbD_of_ge _ _ (by decide)
      rw [this]
      decide
    have h2 := BitVec.testBit_toNat v (i := 31)
    rw [this] at h2
    have := Nat.ge_two_pow_of_testBit h2
    omega
  · rw [if_neg hb, BitVec.xor_zero] at h
    have h1 : v.toNat = y.toNat / 2 := by rw [← h, BitVec.toNat_ushiftRight, Nat.shiftRight_eq_div_pow]
    have h2 : y.toNat % 2 = 0 := by
      have := BitVec.testBit_toNat y (i := 0)
      rw [Nat.testBit_zero] at this
      rcases Nat.mod_two_eq_zero_or_one y.toNat with h | h
      · exact h
      · rw [h] at this; exact absurd this.symm hb
    omega
theorem iter_xor : ∀ (k : Nat) (r s : BitVec 32), iter k (r ^^^ s) = iter k r ^^^ iter k s
  | 0, r, s => rfl
  | k + 1, r, s => by rw [iter, iter_xor k, crcBit_xor]; rfl
theorem iter_inv : ∀ (k : Nat) {y v : BitVec 32}, iter k y = v → 2 ^ k * v.toNat < 4294967296 → y.toNat = 2 ^ k * v.toNat
  | 0, y, v, h, _ => by subst h; simp [iter]
  | k + 1, y, v, h, hv => by
    rw [iter] at h
    have hp : 2 ^ (k + 1) = 2 * 2 ^ k := by rw [Nat.pow_succ, Nat.mul_comm]
    rw [hp] at hv ⊢
    have hpos : 1 ≤ 2 ^ k := Nat.one_le_two_pow
    have h31 : v.toNat < 2147483648 := by
      have : 2 * v.toNat ≤ 2 * 2 ^ k * v.toNat := Nat.mul_le_mul_right _ (by omega)
      omega
    have h1 := crcBit_inv h h31
    have h2 := iter_inv k (y := y) rfl (by rw [h1]; rw [show 2 ^ k * (2 * v.toNat) = 2 * 2 ^ k * v.toNat by rw [← Nat.mul_assoc, Nat.mul_comm (2 ^ k) 2]]; exact hv)
    rw [h2, h1, ← Nat.mul_assoc, Nat.mul_comm (2 ^ k) 2]
theorem iter_zero {k : Nat} {y : BitVec 32} (h : iter k y = 0#32) : y = 0#32 := by
  have := iter_inv k h (by simp)
  apply BitVec.eq_of_toNat_eq
  simpa using this
theorem iter_inj {k : Nat} {y z : BitVec 32} (h : iter k y = iter k z) : y = z := by
  have h1 : iter k (y ^^^ z) = 0#32 := by rw [iter_xor, h, BitVec.xor_self]
  have h2 := iter_zero h1
  exact BitVec.xor_eq_zero_iff.1 h2
theorem iter_add (j : Nat) : ∀ (k : Nat) (r : BitVec 32), iter k (iter j r) = iter (j + k) r
  | 0, r => rfl
  | k + 1, r => by rw [iter, iter_add j k]; rfl
theorem crcBit_shl (x : BitVec 32) (h : x.toNat < 2147483648) : crcBit (x <<< 1) = x := by
  rw [crcBit_eq]
  have h0 : (x <<< 1).getLsbD 0 = false := by simp
  rw [h0, if_neg (by decide), BitVec.xor_zero]
  apply BitVec.eq_of_toNat_eq
  rw [BitVec.toNat_ushiftRight, BitVec.toNat_shiftLeft, Nat.shiftLeft_eq, Nat.shiftRight_eq_div_pow]
  omega
theorem iter_shl : ∀ (k : Nat) (x : BitVec 32), 2 ^ k * x.toNat < 4294967296 → iter k (x <<< k) = x
  | 0, x, _ => by simp [iter]
  | k + 1, x, h => by
    have hp : 2 ^ (k + 1) = 2 * 2 ^ k := by rw [Nat.pow_succ, Nat.mul_comm]
    rw [hp] at h
    have hpos : 1 ≤ 2 ^ k := Nat.one_le_two_pow
    have h31 : x.toNat < 2147483648 := by
      have : 2 * x.toNat ≤ 2 * 2 ^ k * x.toNat := Nat.mul_le_mul_right _ (by omega)
      omega
    have e : x <<< (k + 1) = (x <<< 1) <<< k := by rw [Nat.add_comm, BitVec.shiftLeft_add]
    have e2 : (x <<< 1).toNat = 2 * x.toNat := by rw [BitVec.toNat_shiftLeft, Nat.shiftLeft_eq]; omega
    rw [iter, e]
    have : iter k ((x <<< 1) <<< k) = x <<< 1 := iter_shl k (x <<< 1) (by rw [e2]; rw [show 2 ^ k * (2 * x.toNat) = 2 * 2 ^ k * x.toNat by rw [← Nat.mul_assoc, Nat.mul_comm (2 ^ k) 2]]; exact h)
    rw [this, crcBit_shl x h31]

theorem crc_append (r : BitVec 32) (a b : List UInt8) : crc r (a ++ b) = crc (crc r a) b := by simp [crc, List.foldl_append]
theorem crc_inj : ∀ (s : List UInt8) {r r' : BitVec 32}, crc r s = crc r' s → r = r'
  | [], r, r', h => h
  | c :: s, r, r', h => by
    have h1 : crc (crcByte r c) s = crc (crcByte r' c) s := h
    have h2 := crc_inj s h1
    unfold crcByte at h2
    have h3 := iter_inj h2
    exact (BitVec.xor_right_inj (BitVec.ofNat 32 c.toNat)).1 (by rw [BitVec.xor_comm _ r, BitVec.xor_comm _ r']; exact h3)

def byB (b : UInt8) : BitVec 32 := BitVec.ofNat 32 b.toNat
theorem byB_nat (b : UInt8) : (byB b).toNat = b.toNat := by have := b.toNat_lt; simp [byB]
/-- Four bytes at once. -/
theorem crc_four (r : BitVec 32) (a b c d : UInt8) : crc r [a, b, c, d] = iter 32 (r ^^^ (byB a ^^^ (byB b <<< 8) ^^^ (byB c <<< 16) ^^^ (byB d <<< 24))) := by
  have ha := byB_nat a; have hb := byB_nat b; have hc := byB_nat c; have hd := byB_nat d
  have la := a.toNat_lt; have lb := b.toNat_lt; have lc := c.toNat_lt; have ld := d.toNat_lt
  have e1 : iter 8 (byB b <<< 8) = byB b := iter_shl 8 _ (by rw [hb]; omega)
  have e2 : iter 16 (byB c <<< 16) = byB c := iter_shl 16 _ (by rw [hc]; omega)
  have e3 : iter 24 (byB d <<< 24) = byB d := iter_shl 24 _ (by rw [hd]; omega)
  show iter 8 (iter 8 (iter 8 (iter 8 (r ^^^ byB a) ^^^ byB b) ^^^ byB c) ^^^ byB d) = _
  have s1 : iter 8 (iter 8 (r ^^^ byB a) ^^^ byB b) = iter 16 (r ^^^ byB a ^^^ (byB b <<< 8)) := by
    conv => lhs; rw [← e1]
    rw [← iter_xor, iter_add]
  have s2 : iter 8 (iter 16 (r ^^^ byB a ^^^ (byB b <<< 8)) ^^^ byB c) = iter 24 (r ^^^ byB a ^^^ (byB b <<< 8) ^^^ (byB c <<< 16)) := by
    conv => lhs; rw [← e2]
    rw [← iter_xor, iter_add]
  have s3 : iter 8 (iter 24 (r ^^^ byB a ^^^ (byB b <<< 8) ^^^ (byB c <<< 16)) ^^^ byB d) = iter 32 (r ^^^ byB a ^^^ (byB b <<< 8) ^^^ (byB c <<< 16) ^^^ (byB d <<< 24)) := by
    conv => lhs; rw [← e3]
    rw [← iter_xor, iter_add]
  rw [s1, s2, s3]
  congr 1
  simp only [BitVec.xor_assoc]
def pack4 (a b c d : UInt8) : BitVec 32 := byB a ^^^ (byB b <<< 8) ^^^ (byB c <<< 16) ^^^ (byB d <<< 24)
theorem pack4_eq (a b c d : UInt8) : pack4 a b c d = le32 a b c d := by
  have ha := byB_nat a; have hb := byB_nat b; have hc := byB_nat c; have hd := byB_nat d
  have la := a.toNat_lt; have lb := b.toNat_lt; have lc := c.toNat_lt; have ld := d.toNat_lt
  apply BitVec.eq_of_toNat_eq
  unfold pack4 le32
  simp only [BitVec.toNat_xor, BitVec.toNat_shiftLeft, ha, hb, hc, hd, BitVec.toNat_ofNat]
  simp only [Nat.shiftLeft_eq]
  rw [Nat.mod_eq_of_lt (by omega : b.toNat * 2 ^ 8 < 2 ^ 32), Nat.mod_eq_of_lt (by omega : c.toNat * 2 ^ 16 < 2 ^ 32), Nat.mod_eq_of_lt (by omega : d.toNat * 2 ^ 24 < 2 ^ 32)]
  have x1 : ∀ (k x y : Nat), x < 2 ^ k → x ^^^ y * 2 ^ k = x + y * 2 ^ k := by
    intro k x y hx
    have h1 : x ^^^ y * 2 ^ k = x ||| y * 2 ^ k := by
      apply Nat.eq_of_testBit_eq
      intro i
      rw [Nat.testBit_xor, Nat.testBit_or]
      by_cases hi : i < k
      · have : (y * 2 ^ k).testBit i = false := by rw [Nat.mul_comm, Nat.testBit_two_pow_mul]; simp; omega
        rw [this]; simp
      · have : x.testBit i = false := Nat.testBit_lt_two_pow (Nat.lt_of_lt_of_le hx (Nat.pow_le_pow_right (by decide) (by omega)))
        rw [this]; simp
    rw [h1, Nat.or_comm, Nat.mul_comm y, ← Nat.two_pow_add_eq_or_of_lt hx, Nat.add_comm]
  rw [x1 8 _ _ (by omega), x1 16 _ _ (by omega), x1 24 _ _ (by omega)]
  omega
/-- A body and its sum, all together. -/
def residue : BitVec 32 := iter 32 0xffffffff#32
theorem crc_whole {u : Tr} {l : List UInt8} (h : bytesT u = (l, 0)) : crc 0xffffffff#32 l = residue := by
  unfold bytesT at h
  split at h
  · split at h
    · simp at h
    · cases h
      rw [crc_append]
      obtain ⟨a, b, c, d, h4, h5⟩ := four_back (sumB (enc u))
      have e := crc_four (crc 0xffffffff#32 (enc u)) a b c d
      rw [h4, e]
      have : byB a ^^^ (byB b <<< 8) ^^^ (byB c <<< 16) ^^^ (byB d <<< 24) = sumB (enc u) := by rw [← h5]; exact pack4_eq a b c d
      rw [this]
      unfold sumB residue
      congr 1
      have : (0xffffffff#32) = BitVec.allOnes 32 := by decide
      rw [this]
      generalize crc (BitVec.allOnes 32) (enc u) = z
      apply BitVec.eq_of_getLsbD_eq
      intro i hi
      rw [BitVec.getLsbD_xor, BitVec.getLsbD_not, BitVec.getLsbD_allOnes]
      simp [hi]
  · rename_i h0
    exact absurd (congrArg (fun x => x.2) h) h0
/-- Four bytes that stand together are as they were. -/
theorem crc_guards {p s : List UInt8} {a b c d a' b' c' d' : UInt8} (h : crc 0xffffffff#32 (p ++ [a, b, c, d] ++ s) = crc 0xffffffff#32 (p ++ [a', b', c', d'] ++ s)) : le32 a b c d = le32 a' b' c' d' := by
  rw [crc_append, crc_append, crc_append _ (p ++ _), crc_append _ p] at h
  have h1 := crc_inj s h
  rw [crc_four, crc_four] at h1
  have h2 := iter_inj h1
  have h3 : pack4 a b c d = pack4 a' b' c' d' := (BitVec.xor_right_inj _).1 h2
  rw [pack4_eq, pack4_eq] at h3
  exact h3
end Go.Proofs.Ytffpepmfdjjjaaa

/- Plain laws: bytes with a change in four that stand together are refused. -/
namespace Go.Proofs.Ytffpepmfdjjjaaa
open Go.Pure

/-- Byte k of a number of 32 bits. -/
def xb (x : BitVec 32) (k : Nat) : UInt8 := UInt8.ofNat (x.toNat / 2 ^ (8 * k) % 256)
/-- So many bytes from a place on are changed. -/
def fl (l : List UInt8) (n : Nat) (x : BitVec 32) : Nat → List UInt8
  | 0 => l
  | k + 1 => (fl l n x k).set (n + k) ((fl l n x k).getD (n + k) 0 ^^^ xb x k)
theorem fl_len (l : List UInt8) (n : Nat) (x : BitVec 32) : ∀ k, (fl l n x k).length = l.length
  | 0 => rfl
  | k + 1 => by simp [fl, fl_len l n x k]
theorem set_at (p : List UInt8) (y z : UInt8) (s : List UInt8) {n : Nat} (h : n = p.length) : (p ++ y :: s).set n z = p ++ z :: s := by
  subst h
  simp
theorem getD_at (p : List UInt8) (y : UInt8) (s : List UInt8) {n : Nat} (h : n = p.length) : (p ++ y :: s).getD n 0 = y := by
  subst h
  simp
theorem fl_four (p : List UInt8) (a b c d : UInt8) (s : List UInt8) (x : BitVec 32) :
    fl (p ++ [a, b, c, d] ++ s) p.length x 4 = p ++ [a ^^^ xb x 0, b ^^^ xb x 1, c ^^^ xb x 2, d ^^^ xb x 3] ++ s := by
  have e0 : p ++ [a, b, c, d] ++ s = p ++ a :: (b :: c :: d :: s) := by simp
  have f1 : fl (p ++ [a, b, c, d] ++ s) p.length x 1 = (p ++ [a ^^^ xb x 0]) ++ b :: (c :: d :: s) := by
    rw [fl, fl, e0, getD_at _ _ _ (by simp), set_at _ _ _ _ (by simp)]; simp
  have f2 : fl (p ++ [a, b, c, d] ++ s) p.length x 2 = (p ++ [a ^^^ xb x 0, b ^^^ xb x 1]) ++ c :: (d :: s) := by
    rw [fl, f1, getD_at _ _ _ (by simp), set_at _ _ _ _ (by simp)]; simp
  have f3 : fl (p ++ [a, b, c, d] ++ s) p.length x 3 = (p ++ [a ^^^ xb x 0, b ^^^ xb x 1, c ^^^ xb x 2]) ++ d :: s := by
    rw [fl, f2, getD_at _ _ _ (by simp), set_at _ _ _ _ (by simp)]; simp
  rw [fl, f3, getD_at _ _ _ (by simp), set_at _ _ _ _ (by simp)]; simp
theorem window (l : List UInt8) (n : Nat) (h : n + 4 ≤ l.length) : ∃ p a b c d s, l = p ++ [a, b, c, d] ++ s ∧ p.length = n := by
  have h1 : ((l.drop n).take 4).length = 4 := by simp; omega
  match hd : (l.drop n).take 4, h1 with
  | [a, b, c, d], _ =>
    refine ⟨l.take n, a, b, c, d, (l.drop n).drop 4, ?_, by simp; omega⟩
    rw [← hd, List.append_assoc, List.take_append_drop, List.take_append_drop]
theorem xor_self_eq {a y : UInt8} (h : a = a ^^^ y) : y = 0 := by
  have := congrArg (fun z => a ^^^ z) h
  rw [← UInt8.xor_assoc, UInt8.xor_self, UInt8.zero_xor] at this
  exact this.symm
theorem xb_zero {x : BitVec 32} (h0 : xb x 0 = 0) (h1 : xb x 1 = 0) (h2 : xb x 2 = 0) (h3 : xb x 3 = 0) : x = 0#32 := by
  have e : ∀ k, xb x k = 0 → x.toNat / 2 ^ (8 * k) % 256 = 0 := by
    intro k h
    have := congrArg UInt8.toNat h
    unfold xb at this
    rw [u8of _ (Nat.mod_lt _ (by decide))] at this
    exact this
  have g0 := e 0 h0; have g1 := e 1 h1; have g2 := e 2 h2; have g3 := e 3 h3
  have := x.isLt
  apply BitVec.eq_of_toNat_eq
  simp at g0 g1 g2 g3 ⊢
  omega
theorem guards {t : Tr} {l : List UInt8} {n : Nat} {x : BitVec 32} (h : bytesT t = (l, 0)) (hn : n + 4 ≤ l.length) (hx : x ≠ 0#32) : (parseT (fl l n x 4)).2 ≠ 0 := by
  intro h0
  obtain ⟨p, a, b, c, d, s, rfl, rfl⟩ := window l n hn
  obtain ⟨e1, _, _⟩ := parse_bytes (u := (parseT (fl (p ++ [a, b, c, d] ++ s) p.length x 4)).1) (l := fl (p ++ [a, b, c, d] ++ s) p.length x 4) (Prod.ext rfl h0)
  have c1 := crc_whole h
  have c2 := crc_whole e1
  rw [fl_four] at c2
  have hl := crc_guards (c1.trans c2.symm)
  have h4 := congrArg four hl
  rw [four_le32, four_le32] at h4
  simp only [List.cons.injEq, and_true] at h4
  exact hx (xb_zero (xor_self_eq h4.1) (xor_self_eq h4.2.1) (xor_self_eq h4.2.2.1) (xor_self_eq h4.2.2.2))
theorem parse_err {l : List UInt8} (h : (parseT l).2 ≠ 0) : (parseT l).1 = noTree := by
  by_cases h1 : 100000 < l.length
  · unfold parseT; rw [if_pos h1]
  · by_cases h2 : l.length < 4
    · unfold parseT
      rw [if_neg h1]
      have : (l.drop (l.length - 4)).length ≠ 4 := by simp; omega
      split
      · rename_i hd; rw [hd] at this; simp at this
      · rfl
    · obtain ⟨body, a, b, c, d, rfl⟩ := last_four l (by omega)
      have hl : (body ++ [a, b, c, d]).length = body.length + 4 := by simp
      rw [parseT_four _ _ _ _ _ (by omega)] at h ⊢
      unfold parseB at h ⊢
      split
      · rfl
      · rename_i h2
        rw [if_neg h2] at h
        split
        · rfl
        · rename_i h3
          rw [if_neg h3] at h
          exact absurd rfl h
end Go.Proofs.Ytffpepmfdjjjaaa

/- Plain laws: the check sum by long division, bits turned round. -/
namespace Go.Proofs.Ytffpepmfdjjjaaa
open Go.Pure

def rstep (R : BitVec 32) (bit : Bool) : BitVec 32 := if R.getLsbD 31 != bit then (R <<< 1) ^^^ 0x04c11db7#32 else R <<< 1
def cbit (c : UInt8) (k : Nat) : Bool := (byB c).getLsbD k
/-- What is left, some bits of a byte gone over. -/
def rrun (R : BitVec 32) (c : UInt8) : Nat → BitVec 32
  | 0 => R
  | k + 1 => rstep (rrun R c k) (cbit c k)
def rsum (R : BitVec 32) (l : List UInt8) : BitVec 32 := l.foldl (fun R c => rrun R c 8) R

theorem rev_bit (x : BitVec 32) (i : Nat) (h : i < 32) : x.reverse.getLsbD i = x.getLsbD (31 - i) := by
  rw [BitVec.getLsbD_reverse, BitVec.getMsbD_eq_getLsbD]
  simp [h]
theorem rev_rev (x : BitVec 32) : x.reverse.reverse = x := by
  apply BitVec.eq_of_getLsbD_eq
  intro i hi
  rw [rev_bit _ _ hi, rev_bit _ _ (by omega)]
  congr 1
  omega
theorem rev_poly : (0xedb88320#32 : BitVec 32).reverse = 0x04c11db7#32 := by decide +kernel
theorem rev_xor (x y : BitVec 32) : (x ^^^ y).reverse = x.reverse ^^^ y.reverse := by
  apply BitVec.eq_of_getLsbD_eq
  intro i hi
  rw [BitVec.getLsbD_xor, rev_bit _ _ hi, rev_bit _ _ hi, rev_bit _ _ hi, BitVec.getLsbD_xor]
theorem rev_shr (x : BitVec 32) : (x >>> 1).reverse = x.reverse <<< 1 := by
  apply BitVec.eq_of_getLsbD_eq
  intro i hi
  rw [rev_bit _ _ hi, BitVec.getLsbD_ushiftRight, BitVec.getLsbD_shiftLeft]
  cases i with
  | zero =>
    have : x.getLsbD (1 + (31 - 0)) = false := BitVec.getLsbD_of_ge _ _ (by decide)
    rw [this]; simp
  | succ i =>
    rw [show i + 1 - 1 = i by omega, rev_bit _ _ (by omega), show 1 + (31 - (i + 1)) = 31 - i by omega]
    simp [hi]
/-- The way of one byte. -/
theorem rrun_eq (r : BitVec 32) (c : UInt8) : ∀ k, rrun r.reverse c k = (iter k (r ^^^ byB c) ^^^ (byB c >>> k)).reverse
  | 0 => by
    simp only [rrun, iter, BitVec.ushiftRight_zero]
    rw [BitVec.xor_assoc, BitVec.xor_self, BitVec.xor_zero]
  | k + 1 => by
    rw [rrun, rrun_eq r c k, iter]
    generalize hy : iter k (r ^^^ byB c) = y
    unfold rstep cbit
    rw [rev_bit _ _ (by decide), show 31 - 31 = 0 by decide, BitVec.getLsbD_xor, BitVec.getLsbD_ushiftRight, Nat.add_zero, crcBit_eq]
    have hs : (byB c >>> (k + 1)) = (byB c >>> k) >>> 1 := by rw [BitVec.shiftRight_add]
    have hx : ((y ^^^ byB c >>> k) >>> 1) = (y >>> 1) ^^^ ((byB c >>> k) >>> 1) := by
      apply BitVec.eq_of_getLsbD_eq
      intro i hi
      simp
    rw [← rev_shr, hx, hs, ← rev_poly]
    have hb : ((y.getLsbD 0 ^^ (byB c).getLsbD k) != (byB c).getLsbD k) = y.getLsbD 0 := by cases y.getLsbD 0 <;> cases (byB c).getLsbD k <;> rfl
    rw [hb]
    cases y.getLsbD 0
    · simp only [Bool.false_eq_true, if_false, BitVec.xor_zero]
    · simp only [if_true]
      rw [← rev_xor]
      congr 1
      rw [BitVec.xor_assoc, BitVec.xor_assoc, BitVec.xor_comm ((byB c >>> k) >>> 1)]
theorem rrun_byte (r : BitVec 32) (c : UInt8) : rrun r.reverse c 8 = (crcByte r c).reverse := by
  rw [rrun_eq]
  have : byB c >>> 8 = 0#32 := by
    apply BitVec.eq_of_toNat_eq
    rw [BitVec.toNat_ushiftRight, byB_nat, Nat.shiftRight_eq_div_pow]
    have := c.toNat_lt
    simp
    omega
  rw [this, BitVec.xor_zero]
  rfl
theorem rsum_eq : ∀ (l : List UInt8) (r : BitVec 32), rsum r.reverse l = (crc r l).reverse
  | [], r => rfl
  | c :: l, r => by
    show rsum (rrun r.reverse c 8) l = _
    rw [rrun_byte, rsum_eq l]
    rfl
theorem rsum_take {l : List UInt8} {i : Nat} (h : i < l.length) {R : BitVec 32} : rsum R (l.take (i + 1)) = rrun (rsum R (l.take i)) l[i] 8 := by
  rw [List.take_succ_eq_append_getElem h, rsum, List.foldl_append]
  rfl

/-- The sum out of what is left: so many bits. -/
def outR (R : BitVec 32) : Nat → BitVec 32
  | 0 => 0#32
  | k + 1 => if R.getLsbD k = false then outR R k ||| (1#32 <<< (31 - k)) else outR R k
theorem outR_bit (R : BitVec 32) : ∀ (k i : Nat), k ≤ 32 → i < 32 → (outR R k).getLsbD i = (decide (31 - i < k) && !R.getLsbD (31 - i))
  | 0, i, _, _ => by simp [outR]
  | k + 1, i, hk, hi => by
    have ih := outR_bit R k i (by omega) hi
    rw [outR]
    by_cases hb : R.getLsbD k = false
    · rw [if_pos hb, BitVec.getLsbD_or, ih]
      have hs : (1#32 <<< (31 - k)).getLsbD i = decide (i = 31 - k) := by
        rw [BitVec.getLsbD_shiftLeft]
        by_cases h1 : i = 31 - k
        · subst h1; simp; omega
        · by_cases h2 : i < 31 - k
          · simp [h2, h1]
          · have : (1#32).getLsbD (i - (31 - k)) = false := by
              rw [BitVec.getLsbD_one]
              simp
              omega
            rw [this]; simp [h1]
      rw [hs]
      by_cases h1 : i = 31 - k
      · have e : 31 - i = k := by omega
        rw [e, hb]; simp [h1]
      · have e : ¬ 31 - i = k := by omega
        have : (decide (31 - i < k + 1)) = decide (31 - i < k) := by
          by_cases h3 : 31 - i < k
          · simp [h3]; omega
          · simp [h3]; omega
        rw [this]; simp [h1]
    · rw [if_neg hb, ih]
      have hb' : R.getLsbD k = true := by cases h : R.getLsbD k with | true => rfl | false => exact absurd h hb
      by_cases e : 31 - i = k
      · rw [e, hb']; simp
      · have : (decide (31 - i < k + 1)) = decide (31 - i < k) := by
          by_cases h3 : 31 - i < k
          · simp [h3]; omega
          · simp [h3]; omega
        rw [this]
theorem outR_all (r : BitVec 32) : outR r.reverse 32 = ~~~ r := by
  apply BitVec.eq_of_getLsbD_eq
  intro i hi
  rw [outR_bit _ 32 i (by decide) hi, rev_bit _ _ (by omega), BitVec.getLsbD_not]
  have e : 31 - (31 - i) = i := by omega
  rw [e]
  simp [hi]
  omega
theorem sum_turned (l : List UInt8) : outR (rsum 0xffffffff#32 l) 32 = sumB l := by
  have : (0xffffffff#32 : BitVec 32) = (0xffffffff#32 : BitVec 32).reverse := by decide +kernel
  conv => lhs; rw [this]
  rw [rsum_eq, outR_all]
  rfl

theorem and_u64 (a b : Nat) (ha : a < 2 ^ 64) (hb : b < 2 ^ 64) : IntKind.u64.wrap ((BitVec.ofInt IntKind.u64.bits (a : Int) &&& BitVec.ofInt IntKind.u64.bits (b : Int)).toNat : Int) = ((a &&& b : Nat) : Int) := by
  show IntKind.u64.wrap ((BitVec.ofInt 64 (a : Int) &&& BitVec.ofInt 64 (b : Int)).toNat : Int) = _
  rw [BitVec.ofInt_natCast, BitVec.ofInt_natCast, BitVec.toNat_and, BitVec.toNat_ofNat, BitVec.toNat_ofNat, Nat.mod_eq_of_lt ha, Nat.mod_eq_of_lt hb]
  have : a &&& b < 2 ^ 64 := Nat.lt_of_le_of_lt Nat.and_le_left ha
  simp [IntKind.wrap, IntKind.bits, IntKind.signed]
  omega
theorem xor_u64 (a b : Nat) (ha : a < 2 ^ 64) (hb : b < 2 ^ 64) : IntKind.u64.wrap ((BitVec.ofInt IntKind.u64.bits (a : Int) ^^^ BitVec.ofInt IntKind.u64.bits (b : Int)).toNat : Int) = ((a ^^^ b : Nat) : Int) := by
  show IntKind.u64.wrap ((BitVec.ofInt 64 (a : Int) ^^^ BitVec.ofInt 64 (b : Int)).toNat : Int) = _
  rw [BitVec.ofInt_natCast, BitVec.ofInt_natCast, BitVec.toNat_xor, BitVec.toNat_ofNat, BitVec.toNat_ofNat, Nat.mod_eq_of_lt ha, Nat.mod_eq_of_lt hb]
  have : a ^^^ b < 2 ^ 64 := Nat.xor_lt_two_pow ha hb
  simp [IntKind.wrap, IntKind.bits, IntKind.signed]
  omega
theorem bit_nat (x : BitVec 32) (k : Nat) : x.toNat / 2 ^ k % 2 = if x.getLsbD k = true then 1 else 0 := by
  have h1 : x.getLsbD k = x.toNat.testBit k := rfl
  rw [h1, Nat.testBit_eq_decide_div_mod_eq]
  rcases Nat.mod_two_eq_zero_or_one (x.toNat / 2 ^ k) with h | h <;> simp [h]
end Go.Proofs.Ytffpepmfdjjjaaa

namespace Go.Proofs.Ytffpepmfdjjjaaa
open Go.Pure
attribute [local irreducible] PW POps POpsD PO PC Cond

theorem xor_byte (a : UInt8) (x : BitVec 32) (k : Nat) (hk : k < 4) :
    IntKind.u8.wrap ((BitVec.ofInt IntKind.u8.bits (a.toNat : Int) ^^^ BitVec.ofInt IntKind.u8.bits (IntKind.u8.wrap ((x.toNat : Int).fdiv (2 ^ min (IntKind.i64.wrap (8 * (k : Int))).toNat IntKind.u32.bits)))).toNat : Int) = ((a ^^^ xb x k).toNat : Int) := by
  have hxl := x.isLt
  have e1 : min (IntKind.i64.wrap (8 * (k : Int))).toNat IntKind.u32.bits = 8 * k := by
    rw [wrap64 (by omega)]
    have : IntKind.u32.bits = 32 := rfl
    rw [this]; omega
  have e2 : (x.toNat : Int).fdiv (2 ^ (8 * k)) = ((x.toNat / 2 ^ (8 * k) : Nat) : Int) := by
    have : (2 : Int) ^ (8 * k) = ((2 ^ (8 * k) : Nat) : Int) := by push_cast; rfl
    rw [this, fdivN]
  rw [e1, e2, u8wrap]
  have ha := a.toNat_lt
  have hy : x.toNat / 2 ^ (8 * k) % 256 < 256 := Nat.mod_lt _ (by decide)
  show IntKind.u8.wrap ((BitVec.ofInt 8 (a.toNat : Int) ^^^ BitVec.ofInt 8 ((x.toNat / 2 ^ (8 * k) % 256 : Nat) : Int)).toNat : Int) = _
  rw [BitVec.ofInt_natCast, BitVec.ofInt_natCast, u8wrap, BitVec.toNat_xor, BitVec.toNat_ofNat, BitVec.toNat_ofNat, UInt8.toNat_xor]
  unfold xb
  rw [u8of _ hy]
  have hx8 : a.toNat ^^^ (x.toNat / 2 ^ (8 * k) % 256) < 2 ^ 8 := Nat.xor_lt_two_pow (by omega) (by omega)
  rw [Nat.mod_eq_of_lt (by omega : a.toNat < 2 ^ 8), Nat.mod_eq_of_lt (by omega : x.toNat / 2 ^ (8 * k) % 256 < 2 ^ 8), Nat.mod_eq_of_lt hx8]
theorem bys_set (l : List UInt8) (n : Nat) (v : UInt8) : (bys l).set n (byteG v) = bys (l.set n v) := by simp [bys, List.map_set]
theorem bys_at (l : List UInt8) (n : Nat) (h : n < l.length) : (bys l)[n]? = some (byteG (l.getD n 0)) := by simp [bys, h]

set_option maxRecDepth 100000 in
set_option maxHeartbeats 8000000 in
theorem guards_pc (tag tn : Int) (text : ByteArray) (kids : List Tr) (at_ : Int) (x : BitVec 32) (hk : (Tr.mk tag tn text kids).ok) (hb : (enc (.mk tag tn text kids)).length ≤ 900000000) :
    PC Try.prog 6 [.g (Tr.mk tag tn text kids).g, .g (.int .i64 at_), .g (w32 x)] ⟨[], [], []⟩ (.g (.bool true)) ⟨[], [], []⟩ := by
  have h1 := bytes_pc tag tn text kids hk hb
  cases hx : bytesT (.mk tag tn text kids) with
  | mk l e =>
  rw [hx] at h1
  dsimp only at h1
  have hlen : (bys l).length = l.length := bys_len l
  refine PC_of_PW Try.func6 rfl rfl (rs := _) rfl (Nat.le_of_ble_eq_true (by kernel_rfl)) ?_
  (repeat' (first | (first | (refine POps_nil ?_; try show PW _ _ _ _ _ _) | (refine POpsD_nil ?_; try show PW _ _ _ _ _ _) | refine runO_ok tabOk 300 rfl rfl ?_ | refine runO_ok tabOk 6 rfl rfl ?_ | refine runO_ok tabOk 1 rfl rfl ?_ | refine runD_ok tabOk 300 rfl rfl ?_ | refine runD_ok tabOk 6 rfl rfl ?_ | refine runD_ok tabOk 1 rfl rfl ?_ | (apply POps_run rfl rfl; focus (first | exact call_pure rfl rfl (EN rfl) (alive_pc) rfl rfl rfl | exact call_pure rfl rfl (EN rfl) (h1) rfl rfl rfl | exact PO_conv_int rfl (IK rfl) (IK rfl) rfl | exact PO_makeFunc rfl | exact PO_buildSlice rfl (EL rfl) (SZ rfl) (AG rfl) (ZR rfl) rfl rfl rfl rfl rfl rfl rfl | exact PO_nilCheck rfl rfl | exact PO_conv_int rfl (IK rfl) (IK rfl) rfl)) | (apply POpsD_run rfl rfl; focus (first | exact Cond_c (call_pure rfl rfl (EN rfl) (alive_pc) rfl rfl rfl) | exact Cond_c (call_pure rfl rfl (EN rfl) (h1) rfl rfl rfl) | exact Cond_c (PO_conv_int rfl (IK rfl) (IK rfl) rfl) | exact Cond_c (PO_makeFunc rfl) | exact Cond_c (PO_buildSlice rfl (EL rfl) (SZ rfl) (AG rfl) (ZR rfl) rfl rfl rfl rfl rfl rfl rfl) | exact Cond_f (fun _ => call_pure rfl rfl (EN rfl) (alive_pc) rfl rfl rfl) | exact Cond_f (fun _ => call_pure rfl rfl (EN rfl) (h1) rfl rfl rfl) | exact Cond_f (fun _ => PO_conv_int rfl (IK rfl) (IK rfl) rfl) | exact Cond_f (fun _ => PO_makeFunc rfl) | exact Cond_f (fun _ => PO_buildSlice rfl (EL rfl) (SZ rfl) (AG rfl) (ZR rfl) rfl rfl rfl rfl rfl rfl rfl) | exact Cond_f (fun _ => PO_nilCheck rfl rfl) | exact Cond_f (fun _ => PO_conv_int rfl (IK rfl) (IK rfl) rfl))) | refine PW_seq_unless [6] rfl ?_ | refine PW_region ?_ | refine PW_draw_all mixed (by kernel_rfl) ?_ | refine PW_block ?_ | (refine PW_skip ?_; try show PW _ _ _ _ _ _) | (refine PW_exit ?_; try show PW _ _ _ _ _ _) | (refine PW_ret ?_; try show PW _ _ _ _ _ _) | refine PW_cond_t rfl ?_ | refine PW_cond_f rfl ?_) | refine POps_split rfl rfl (fun h => ?_) (fun h => ?_) | refine POpsD_split rfl rfl (fun h => ?_) (fun h => ?_) | refine PW_cond rfl (fun h => ?_) (fun h => ?_)))
  · (first | refine Ret_int (resVs_cons resV_tmp resVs_nil) rfl ?_ | refine Ret_bool (resVs_cons resV_tmp resVs_nil) rfl ?_ | refine Ret_g (resVs_cons resV_tmp resVs_nil) rfl ?_ | refine Ret_int (resVs_cons (resV_agg (AG rfl) (SZ rfl) rfl rfl (Nat.le_of_ble_eq_true rfl)) resVs_nil) rfl ?_ | refine Ret_bool (resVs_cons (resV_agg (AG rfl) (SZ rfl) rfl rfl (Nat.le_of_ble_eq_true rfl)) resVs_nil) rfl ?_ | refine Ret_g (resVs_cons (resV_agg (AG rfl) (SZ rfl) rfl rfl (Nat.le_of_ble_eq_true rfl)) resVs_nil) rfl ?_)
    rfl
  · (first | refine Ret_int (resVs_cons resV_tmp resVs_nil) rfl ?_ | refine Ret_bool (resVs_cons resV_tmp resVs_nil) rfl ?_ | refine Ret_g (resVs_cons resV_tmp resVs_nil) rfl ?_ | refine Ret_int (resVs_cons (resV_agg (AG rfl) (SZ rfl) rfl rfl (Nat.le_of_ble_eq_true rfl)) resVs_nil) rfl ?_ | refine Ret_bool (resVs_cons (resV_agg (AG rfl) (SZ rfl) rfl rfl (Nat.le_of_ble_eq_true rfl)) resVs_nil) rfl ?_ | refine Ret_g (resVs_cons (resV_agg (AG rfl) (SZ rfl) rfl rfl (Nat.le_of_ble_eq_true rfl)) resVs_nil) rfl ?_)
    rfl
  · (first | refine Ret_int (resVs_cons resV_tmp resVs_nil) rfl ?_ | refine Ret_bool (resVs_cons resV_tmp resVs_nil) rfl ?_ | refine Ret_g (resVs_cons resV_tmp resVs_nil) rfl ?_ | refine Ret_int (resVs_cons (resV_agg (AG rfl) (SZ rfl) rfl rfl (Nat.le_of_ble_eq_true rfl)) resVs_nil) rfl ?_ | refine Ret_bool (resVs_cons (resV_agg (AG rfl) (SZ rfl) rfl rfl (Nat.le_of_ble_eq_true rfl)) resVs_nil) rfl ?_ | refine Ret_g (resVs_cons (resV_agg (AG rfl) (SZ rfl) rfl rfl (Nat.le_of_ble_eq_true rfl)) resVs_nil) rfl ?_)
    rfl
  · (first | refine Ret_int (resVs_cons resV_tmp resVs_nil) rfl ?_ | refine Ret_bool (resVs_cons resV_tmp resVs_nil) rfl ?_ | refine Ret_g (resVs_cons resV_tmp resVs_nil) rfl ?_ | refine Ret_int (resVs_cons (resV_agg (AG rfl) (SZ rfl) rfl rfl (Nat.le_of_ble_eq_true rfl)) resVs_nil) rfl ?_ | refine Ret_bool (resVs_cons (resV_agg (AG rfl) (SZ rfl) rfl rfl (Nat.le_of_ble_eq_true rfl)) resVs_nil) rfl ?_ | refine Ret_g (resVs_cons (resV_agg (AG rfl) (SZ rfl) rfl rfl (Nat.le_of_ble_eq_true rfl)) resVs_nil) rfl ?_)
    rfl
  · rename_i q1 q2 q3
    have he : e = 0 := by simpa [bne] using q1
    have ha := of_decide_eq_false q2
    have hx0 : x ≠ 0#32 := by
      rintro rfl
      simp at h
    subst he
    have hl2 := (bytes_enc hx).2
    have hq3 : ¬ at_ > (l.length : Int) - 4 := by
      have := of_decide_eq_false q3
      rw [hlen, wrap64 (by omega)] at this
      exact this
    obtain ⟨n, rfl⟩ : ∃ n : Nat, at_ = (n : Int) := ⟨at_.toNat, by omega⟩
    have hn : n + 4 ≤ l.length := by
      rcases Nat.lt_or_ge l.length 4 with hh | hh
      · exfalso
        unfold bytesT at hx
        split at hx
        · split at hx
          · simp at hx
          · cases hx
            simp [four] at hh
            omega
        · rename_i h0
          exact h0 (congrArg (fun x => x.2) hx)
      · omega
    clear h q1 q2 q3
    have hp := parse_all (fl l n x 4) (by rw [fl_len]; omega)
    have hg := guards hx hn hx0
    rw [parse_err hg] at hp
    (repeat (first | (refine POps_nil ?_; try show PW _ _ _ _ _ _) | (refine POpsD_nil ?_; try show PW _ _ _ _ _ _) | refine runO_ok tabOk 300 rfl rfl ?_ | refine runO_ok tabOk 6 rfl rfl ?_ | refine runO_ok tabOk 1 rfl rfl ?_ | refine runD_ok tabOk 300 rfl rfl ?_ | refine runD_ok tabOk 6 rfl rfl ?_ | refine runD_ok tabOk 1 rfl rfl ?_ | (apply POps_run rfl rfl; focus (first | exact PO_buildSlice_mar rfl (EL rfl) (SZ rfl) (AG rfl) (ZR rfl) rfl rfl rfl rfl rfl rfl rfl | exact PO_mappb (b := []) l rfl (EL rfl) (SZ rfl) (BY rfl) (ZR rfl) rfl rfl rfl rfl rfl (by simp; omega) (by simp [maxLen]; omega) | exact PO_conv_int rfl (IK rfl) (IK rfl) rfl | exact PO_makeFunc rfl | exact PO_buildSlice rfl (EL rfl) (SZ rfl) (AG rfl) (ZR rfl) rfl rfl rfl rfl rfl rfl rfl | exact PO_nilCheck rfl rfl | exact PO_conv_int rfl (IK rfl) (IK rfl) rfl)) | (apply POpsD_run rfl rfl; focus (first | exact Cond_c (PO_buildSlice_mar rfl (EL rfl) (SZ rfl) (AG rfl) (ZR rfl) rfl rfl rfl rfl rfl rfl rfl) | exact Cond_c (PO_mappb (b := []) l rfl (EL rfl) (SZ rfl) (BY rfl) (ZR rfl) rfl rfl rfl rfl rfl (by simp; omega) (by simp [maxLen]; omega)) | exact Cond_c (PO_conv_int rfl (IK rfl) (IK rfl) rfl) | exact Cond_c (PO_makeFunc rfl) | exact Cond_c (PO_buildSlice rfl (EL rfl) (SZ rfl) (AG rfl) (ZR rfl) rfl rfl rfl rfl rfl rfl rfl) | exact Cond_f (fun _ => PO_buildSlice_mar rfl (EL rfl) (SZ rfl) (AG rfl) (ZR rfl) rfl rfl rfl rfl rfl rfl rfl) | exact Cond_f (fun _ => PO_mappb (b := []) l rfl (EL rfl) (SZ rfl) (BY rfl) (ZR rfl) rfl rfl rfl rfl rfl (by simp; omega) (by simp [maxLen]; omega)) | exact Cond_f (fun _ => PO_conv_int rfl (IK rfl) (IK rfl) rfl) | exact Cond_f (fun _ => PO_makeFunc rfl) | exact Cond_f (fun _ => PO_buildSlice rfl (EL rfl) (SZ rfl) (AG rfl) (ZR rfl) rfl rfl rfl rfl rfl rfl rfl) | exact Cond_f (fun _ => PO_nilCheck rfl rfl) | exact Cond_f (fun _ => PO_conv_int rfl (IK rfl) (IK rfl) rfl))) | refine PW_seq ?_ | refine PW_region ?_ | refine PW_draw_all mixed (by kernel_rfl) ?_ | refine PW_block ?_ | (refine PW_skip ?_; try show PW _ _ _ _ _ _) | (refine PW_exit ?_; try show PW _ _ _ _ _ _) | (refine PW_ret ?_; try show PW _ _ _ _ _ _) | refine PW_cond_t rfl ?_ | refine PW_cond_f rfl ?_))
    refine PW_loop (S := Nat) (fun k => slots [(1, .g (.int .i64 n)), (2, .g (w32 x)), (9, .mar 0 (0 + l.length)), (10, .g (.int .i64 k))])
      (fun k => ⟨[[.g (.int .i64 tag), .g (.int .i64 tn), .g (.str text), .g (.sl (Tr.gs kids))]], [], [.arr (0 + l.length) 5 (bys (fl l n x k))]⟩)
      (fun k => k ≤ 4) (fun k => 4 - k) 0 (Nat.zero_le _) (SlotsOk.le ⟨.inl rfl, .inl rfl, .inl rfl, .inl rfl, trivial⟩) (HLe.refl _) (fun k hk4 => ?_)
    (repeat (first | (refine POps_nil ?_; try show PW _ _ _ _ _ _) | (refine POpsD_nil ?_; try show PW _ _ _ _ _ _) | refine runO_ok tabOk 300 rfl rfl ?_ | refine runO_ok tabOk 6 rfl rfl ?_ | refine runO_ok tabOk 1 rfl rfl ?_ | refine runD_ok tabOk 300 rfl rfl ?_ | refine runD_ok tabOk 6 rfl rfl ?_ | refine runD_ok tabOk 1 rfl rfl ?_ | (apply POps_run rfl rfl; focus (first | exact PO_conv_int rfl (IK rfl) (IK rfl) rfl | exact PO_makeFunc rfl | exact PO_buildSlice rfl (EL rfl) (SZ rfl) (AG rfl) (ZR rfl) rfl rfl rfl rfl rfl rfl rfl | exact PO_nilCheck rfl rfl | exact PO_conv_int rfl (IK rfl) (IK rfl) rfl)) | (apply POpsD_run rfl rfl; focus (first | exact Cond_c (PO_conv_int rfl (IK rfl) (IK rfl) rfl) | exact Cond_c (PO_makeFunc rfl) | exact Cond_c (PO_buildSlice rfl (EL rfl) (SZ rfl) (AG rfl) (ZR rfl) rfl rfl rfl rfl rfl rfl rfl) | exact Cond_f (fun _ => PO_conv_int rfl (IK rfl) (IK rfl) rfl) | exact Cond_f (fun _ => PO_makeFunc rfl) | exact Cond_f (fun _ => PO_buildSlice rfl (EL rfl) (SZ rfl) (AG rfl) (ZR rfl) rfl rfl rfl rfl rfl rfl rfl) | exact Cond_f (fun _ => PO_nilCheck rfl rfl) | exact Cond_f (fun _ => PO_conv_int rfl (IK rfl) (IK rfl) rfl))) | refine PW_seq ?_ | refine PW_region ?_ | refine PW_draw_all mixed (by kernel_rfl) ?_ | refine PW_block ?_ | (refine PW_skip ?_; try show PW _ _ _ _ _ _) | (refine PW_exit ?_; try show PW _ _ _ _ _ _) | (refine PW_ret ?_; try show PW _ _ _ _ _ _) | refine PW_cond_t rfl ?_ | refine PW_cond_f rfl ?_))
    (first | refine POps_split rfl rfl (fun h => ?_) (fun h => ?_) | refine POpsD_split rfl rfl (fun h => ?_) (fun h => ?_) | refine PW_cond rfl (fun h => ?_) (fun h => ?_))
    · have hlt : k < 4 := by have := of_decide_eq_true h; omega
      have hw : IntKind.i64.wrap ((n : Int) + (k : Int)) = ((n + k : Nat) : Int) := by rw [wrap64 (by omega)]; omega
      have hat := bys_at (fl l n x k) (n + k) (by rw [fl_len]; omega)
      have hfl : (bys (fl l n x k)).length = l.length := by rw [bys_len, fl_len]
      have i0 : 0 ≤ IntKind.i64.wrap ((n : Int) + (k : Int)) := by rw [hw]; omega
      have i1 : IntKind.i64.wrap ((n : Int) + (k : Int)) < ((bys (fl l n x k)).length : Int) := by rw [hw, hfl]; omega
      have i2 : (bys (fl l n x k))[(IntKind.i64.wrap ((n : Int) + (k : Int))).toNat]? = some (byteG ((fl l n x k).getD (n + k) 0)) := by rw [hw]; exact hat
      have i3 : 0 ≤ IntKind.i64.wrap (8 * (k : Int)) := by rw [wrap64 (by omega)]; omega
      (repeat (first | (refine POps_nil ?_; try show PW _ _ _ _ _ _) | (refine POpsD_nil ?_; try show PW _ _ _ _ _ _) | refine runO_ok tabOk 300 rfl rfl ?_ | refine runO_ok tabOk 6 rfl rfl ?_ | refine runO_ok tabOk 1 rfl rfl ?_ | refine runD_ok tabOk 300 rfl rfl ?_ | refine runD_ok tabOk 6 rfl rfl ?_ | refine runD_ok tabOk 1 rfl rfl ?_ | (apply POps_run rfl rfl; focus (first | exact PO_shr rfl rfl rfl i3 | exact PO_conv_int rfl (IK rfl) (IK rfl) rfl | exact PO_makeFunc rfl | exact PO_buildSlice rfl (EL rfl) (SZ rfl) (AG rfl) (ZR rfl) rfl rfl rfl rfl rfl rfl rfl | exact PO_nilCheck rfl rfl | exact PO_conv_int rfl (IK rfl) (IK rfl) rfl)) | (apply POpsD_run rfl rfl; focus (first | exact Cond_mindex (K := [10000]) rfl rfl (EL rfl) (SZ rfl) rfl rfl rfl (SZ rfl) i0 i1 | exact Cond_mload (K := [10000]) rfl rfl (AG rfl) rfl rfl i2 rfl | exact Cond_mstore rfl (SZ rfl) rfl rfl rfl rfl Nat.one_pos rfl i2 (Nat.le_refl _) | exact Cond_c (PO_shr rfl rfl rfl i3) | exact Cond_c (PO_conv_int rfl (IK rfl) (IK rfl) rfl) | exact Cond_c (PO_makeFunc rfl) | exact Cond_c (PO_buildSlice rfl (EL rfl) (SZ rfl) (AG rfl) (ZR rfl) rfl rfl rfl rfl rfl rfl rfl) | exact Cond_f (fun _ => PO_shr rfl rfl rfl i3) | exact Cond_f (fun _ => PO_conv_int rfl (IK rfl) (IK rfl) rfl) | exact Cond_f (fun _ => PO_makeFunc rfl) | exact Cond_f (fun _ => PO_buildSlice rfl (EL rfl) (SZ rfl) (AG rfl) (ZR rfl) rfl rfl rfl rfl rfl rfl rfl) | exact Cond_f (fun _ => PO_nilCheck rfl rfl) | exact Cond_f (fun _ => PO_conv_int rfl (IK rfl) (IK rfl) rfl))) | refine PW_seq ?_ | refine PW_region ?_ | refine PW_draw [10000] mixed (by kernel_rfl) ?_ | refine PW_block ?_ | (refine PW_skip ?_; try show PW _ _ _ _ _ _) | (refine PW_exit ?_; try show PW _ _ _ _ _ _) | (refine PW_ret ?_; try show PW _ _ _ _ _ _) | refine PW_cond_t rfl ?_ | refine PW_cond_f rfl ?_))
      refine ⟨k + 1, hlt, by omega, SlotsOk.le ⟨.inl rfl, .inl rfl, .inl rfl, .inl (congrArg (fun x => PV.g (.int .i64 x)) (wrap64 (by omega))), trivial⟩, HLe.of_eq ?_⟩
      rw [hw]
      have := xor_byte ((fl l n x k).getD (n + k) 0) x k hlt
      rw [this]
      exact congrArg (fun z => (⟨_, [], [.arr (0 + l.length) 5 z]⟩ : PH)) (bys_set _ _ _)
    · have hk : k = 4 := by have := of_decide_eq_false h; omega
      subst hk
      (repeat (first | (refine POps_nil ?_; try show PW _ _ _ _ _ _) | (refine POpsD_nil ?_; try show PW _ _ _ _ _ _) | refine runO_ok tabOk 300 rfl rfl ?_ | refine runO_ok tabOk 6 rfl rfl ?_ | refine runO_ok tabOk 1 rfl rfl ?_ | refine runD_ok tabOk 300 rfl rfl ?_ | refine runD_ok tabOk 6 rfl rfl ?_ | refine runD_ok tabOk 1 rfl rfl ?_ | (apply POps_run rfl rfl; focus (first | exact PO_conv_int rfl (IK rfl) (IK rfl) rfl | exact PO_makeFunc rfl | exact PO_buildSlice rfl (EL rfl) (SZ rfl) (AG rfl) (ZR rfl) rfl rfl rfl rfl rfl rfl rfl | exact PO_nilCheck rfl rfl | exact PO_conv_int rfl (IK rfl) (IK rfl) rfl)) | (apply POpsD_run rfl rfl; focus (first | exact Cond_c (PO_conv_int rfl (IK rfl) (IK rfl) rfl) | exact Cond_c (PO_makeFunc rfl) | exact Cond_c (PO_buildSlice rfl (EL rfl) (SZ rfl) (AG rfl) (ZR rfl) rfl rfl rfl rfl rfl rfl rfl) | exact Cond_f (fun _ => PO_conv_int rfl (IK rfl) (IK rfl) rfl) | exact Cond_f (fun _ => PO_makeFunc rfl) | exact Cond_f (fun _ => PO_buildSlice rfl (EL rfl) (SZ rfl) (AG rfl) (ZR rfl) rfl rfl rfl rfl rfl rfl rfl) | exact Cond_f (fun _ => PO_nilCheck rfl rfl) | exact Cond_f (fun _ => PO_conv_int rfl (IK rfl) (IK rfl) rfl))) | refine PW_seq_unless [11] rfl ?_ | refine PW_region ?_ | refine PW_draw_all mixed (by kernel_rfl) ?_ | refine PW_block ?_ | (refine PW_skip ?_; try show PW _ _ _ _ _ _) | (refine PW_exit ?_; try show PW _ _ _ _ _ _) | (refine PW_ret ?_; try show PW _ _ _ _ _ _) | refine PW_cond_t rfl ?_ | refine PW_cond_f rfl ?_))
      refine PW_freeze 0 rfl (PW_weak (env' := slots [(9, .g (.sl (bys (fl l n x 4))))]) (H' := ⟨[[.g (.int .i64 tag), .g (.int .i64 tn), .g (.str text), .g (.sl (Tr.gs kids))]], [], [.gone (0 + l.length + 1)]⟩) (SlotsOk.le ⟨.inl ?_, trivial⟩) (HLe.of_eq rfl) ?_)
      · show frz 0 (0 + l.length) _ (.mar 0 (0 + l.length)) = _
        simp [frz]
      (repeat' (first | (first | (refine POps_nil ?_; try show PW _ _ _ _ _ _) | (refine POpsD_nil ?_; try show PW _ _ _ _ _ _) | refine runO_ok tabOk 300 rfl rfl ?_ | refine runO_ok tabOk 6 rfl rfl ?_ | refine runO_ok tabOk 1 rfl rfl ?_ | refine runD_ok tabOk 300 rfl rfl ?_ | refine runD_ok tabOk 6 rfl rfl ?_ | refine runD_ok tabOk 1 rfl rfl ?_ | (apply POps_run rfl rfl; focus (first | exact call_pure rfl rfl (EN rfl) (hp) rfl rfl rfl | exact PO_conv_int rfl (IK rfl) (IK rfl) rfl | exact PO_makeFunc rfl | exact PO_buildSlice rfl (EL rfl) (SZ rfl) (AG rfl) (ZR rfl) rfl rfl rfl rfl rfl rfl rfl | exact PO_nilCheck rfl rfl | exact PO_conv_int rfl (IK rfl) (IK rfl) rfl)) | (apply POpsD_run rfl rfl; focus (first | exact Cond_c (call_pure rfl rfl (EN rfl) (hp) rfl rfl rfl) | exact Cond_c (PO_conv_int rfl (IK rfl) (IK rfl) rfl) | exact Cond_c (PO_makeFunc rfl) | exact Cond_c (PO_buildSlice rfl (EL rfl) (SZ rfl) (AG rfl) (ZR rfl) rfl rfl rfl rfl rfl rfl rfl) | exact Cond_f (fun _ => call_pure rfl rfl (EN rfl) (hp) rfl rfl rfl) | exact Cond_f (fun _ => PO_conv_int rfl (IK rfl) (IK rfl) rfl) | exact Cond_f (fun _ => PO_makeFunc rfl) | exact Cond_f (fun _ => PO_buildSlice rfl (EL rfl) (SZ rfl) (AG rfl) (ZR rfl) rfl rfl rfl rfl rfl rfl rfl) | exact Cond_f (fun _ => PO_nilCheck rfl rfl) | exact Cond_f (fun _ => PO_conv_int rfl (IK rfl) (IK rfl) rfl))) | refine PW_seq ?_ | refine PW_region ?_ | refine PW_draw_all mixed (by kernel_rfl) ?_ | refine PW_block ?_ | (refine PW_skip ?_; try show PW _ _ _ _ _ _) | (refine PW_exit ?_; try show PW _ _ _ _ _ _) | (refine PW_ret ?_; try show PW _ _ _ _ _ _) | refine PW_cond_t rfl ?_ | refine PW_cond_f rfl ?_) | refine POps_split rfl rfl (fun h => ?_) (fun h => ?_) | refine POpsD_split rfl rfl (fun h => ?_) (fun h => ?_) | refine PW_cond rfl (fun h => ?_) (fun h => ?_)))
      · (first | refine Ret_int (resVs_cons resV_tmp resVs_nil) rfl ?_ | refine Ret_bool (resVs_cons resV_tmp resVs_nil) rfl ?_ | refine Ret_g (resVs_cons resV_tmp resVs_nil) rfl ?_ | refine Ret_int (resVs_cons (resV_agg (AG rfl) (SZ rfl) rfl rfl (Nat.le_of_ble_eq_true rfl)) resVs_nil) rfl ?_ | refine Ret_bool (resVs_cons (resV_agg (AG rfl) (SZ rfl) rfl rfl (Nat.le_of_ble_eq_true rfl)) resVs_nil) rfl ?_ | refine Ret_g (resVs_cons (resV_agg (AG rfl) (SZ rfl) rfl rfl (Nat.le_of_ble_eq_true rfl)) resVs_nil) rfl ?_)
        rfl
      · exact absurd (by simpa [bne] using h) hg
end Go.Proofs.Ytffpepmfdjjjaaa

namespace Go.Proofs.Ytffpepmfdjjjaaa
open Go.Pure
attribute [local irreducible] PW POps POpsD PO PC Cond

theorem u64mod (n : Nat) : IntKind.u64.wrap (n : Int) = ((n % 18446744073709551616 : Nat) : Int) := by simp [IntKind.wrap, IntKind.bits, IntKind.signed]
theorem tmodN (x k : Nat) : ((x : Nat) : Int).tmod (k : Int) = ((x % k : Nat) : Int) := by rw [Int.tmod_eq_emod_of_nonneg (by omega)]; rfl
theorem tdivN (x k : Nat) : ((x : Nat) : Int).tdiv (k : Int) = ((x / k : Nat) : Int) := by rw [Int.tdiv_eq_ediv_of_nonneg (by omega)]; rfl

set_option maxRecDepth 100000 in
set_option maxHeartbeats 4000000 in
theorem number_ref : ∀ (m x : Nat), x ≤ m → x < 2 ^ 64 → PC Try.prog 80 [.g (.int .u64 x)] ⟨[], [], []⟩ (.g (.sl (bys (varint x)))) ⟨[], [], []⟩
  | m, x, hm, hx => by
    by_cases h128 : 128 ≤ x
    · cases m with
      | zero => omega
      | succ m =>
        have hI := number_ref m (x / 128) (by omega) (by omega)
        have hq : IntKind.u64.wrap ((x : Int).tdiv 128) = ((x / 128 : Nat) : Int) := by rw [show (128 : Int) = ((128 : Nat) : Int) from rfl, tdivN, u64mod, Nat.mod_eq_of_lt (by omega)]
        rw [← hq] at hI
        have hc : IntKind.u8.wrap (IntKind.u64.wrap (128 + (x : Int).tmod 128)) = ((UInt8.ofNat (x % 128 + 128)).toNat : Int) := by
          rw [show (128 : Int) = ((128 : Nat) : Int) from rfl, tmodN, show ((128 : Nat) : Int) + ((x % 128 : Nat) : Int) = ((x % 128 + 128 : Nat) : Int) by omega, u64mod, Nat.mod_eq_of_lt (by omega), small8]
        have hl := varint_len 9 (x / 128) (by omega)
        refine PC_of_PW Try.func80 rfl rfl (rs := _) rfl (Nat.le_of_ble_eq_true (by kernel_rfl)) ?_
        (repeat (first | (refine POps_nil ?_; try show PW _ _ _ _ _ _) | (refine POpsD_nil ?_; try show PW _ _ _ _ _ _) | refine runO_ok tabOk 300 rfl rfl ?_ | refine runO_ok tabOk 6 rfl rfl ?_ | refine runO_ok tabOk 1 rfl rfl ?_ | refine runD_ok tabOk 300 rfl rfl ?_ | refine runD_ok tabOk 6 rfl rfl ?_ | refine runD_ok tabOk 1 rfl rfl ?_ | (apply POps_run rfl rfl; focus (first | exact PO_conv_int rfl (IK rfl) (IK rfl) rfl | exact PO_makeFunc rfl | exact PO_buildSlice rfl (EL rfl) (SZ rfl) (AG rfl) (ZR rfl) rfl rfl rfl rfl rfl rfl rfl | exact PO_nilCheck rfl rfl | exact PO_conv_int rfl (IK rfl) (IK rfl) rfl)) | (apply POpsD_run rfl rfl; focus (first | exact Cond_c (PO_conv_int rfl (IK rfl) (IK rfl) rfl) | exact Cond_c (PO_makeFunc rfl) | exact Cond_c (PO_buildSlice rfl (EL rfl) (SZ rfl) (AG rfl) (ZR rfl) rfl rfl rfl rfl rfl rfl rfl) | exact Cond_f (fun _ => PO_conv_int rfl (IK rfl) (IK rfl) rfl) | exact Cond_f (fun _ => PO_makeFunc rfl) | exact Cond_f (fun _ => PO_buildSlice rfl (EL rfl) (SZ rfl) (AG rfl) (ZR rfl) rfl rfl rfl rfl rfl rfl rfl) | exact Cond_f (fun _ => PO_nilCheck rfl rfl) | exact Cond_f (fun _ => PO_conv_int rfl (IK rfl) (IK rfl) rfl))) | refine PW_seq ?_ | refine PW_region ?_ | refine PW_draw_all mixed (by kernel_rfl) ?_ | refine PW_block ?_ | (refine PW_skip ?_; try show PW _ _ _ _ _ _) | (refine PW_exit ?_; try show PW _ _ _ _ _ _) | (refine PW_ret ?_; try show PW _ _ _ _ _ _) | refine PW_cond_t rfl ?_ | refine PW_cond_f rfl ?_))
        (first | refine POps_split rfl rfl (fun h => ?_) (fun h => ?_) | refine POpsD_split rfl rfl (fun h => ?_) (fun h => ?_) | refine PW_cond rfl (fun h => ?_) (fun h => ?_))
        · have := of_decide_eq_true h; omega
        · (repeat (first | (refine POps_nil ?_; try show PW _ _ _ _ _ _) | (refine POpsD_nil ?_; try show PW _ _ _ _ _ _) | refine runO_ok tabOk 300 rfl rfl ?_ | refine runO_ok tabOk 6 rfl rfl ?_ | refine runO_ok tabOk 1 rfl rfl ?_ | refine runD_ok tabOk 300 rfl rfl ?_ | refine runD_ok tabOk 6 rfl rfl ?_ | refine runD_ok tabOk 1 rfl rfl ?_ | (apply POps_run rfl rfl; focus (first | exact PO_rem rfl rfl rfl (by decide) | exact PO_quo rfl rfl rfl (by decide) | exact PO_buildSlice_own rfl (EL rfl) (SZ rfl) (AG rfl) (ZR rfl) rfl rfl rfl rfl rfl rfl rfl | exact call_pure rfl rfl (EN rfl) (hI) rfl rfl rfl | exact PO_appb (b := [UInt8.ofNat (x % 128 + 128)]) (varint (x / 128)) rfl (EL rfl) (SZ rfl) (BY rfl) (ZR rfl) rfl (congrArg (fun z => PV.own [GV.int .u8 z] 0) hc) rfl rfl rfl (by simp; omega) (by simp [maxLen]; omega) | exact PO_conv_int rfl (IK rfl) (IK rfl) rfl | exact PO_makeFunc rfl | exact PO_buildSlice rfl (EL rfl) (SZ rfl) (AG rfl) (ZR rfl) rfl rfl rfl rfl rfl rfl rfl | exact PO_nilCheck rfl rfl | exact PO_conv_int rfl (IK rfl) (IK rfl) rfl)) | (apply POpsD_run rfl rfl; focus (first | exact Cond_c (PO_rem rfl rfl rfl (by decide)) | exact Cond_c (PO_quo rfl rfl rfl (by decide)) | exact Cond_c (PO_buildSlice_own rfl (EL rfl) (SZ rfl) (AG rfl) (ZR rfl) rfl rfl rfl rfl rfl rfl rfl) | exact Cond_c (call_pure rfl rfl (EN rfl) (hI) rfl rfl rfl) | exact Cond_c (PO_appb (b := [UInt8.ofNat (x % 128 + 128)]) (varint (x / 128)) rfl (EL rfl) (SZ rfl) (BY rfl) (ZR rfl) rfl (congrArg (fun z => PV.own [GV.int .u8 z] 0) hc) rfl rfl rfl (by simp; omega) (by simp [maxLen]; omega)) | exact Cond_c (PO_conv_int rfl (IK rfl) (IK rfl) rfl) | exact Cond_c (PO_makeFunc rfl) | exact Cond_c (PO_buildSlice rfl (EL rfl) (SZ rfl) (AG rfl) (ZR rfl) rfl rfl rfl rfl rfl rfl rfl) | exact Cond_f (fun _ => PO_rem rfl rfl rfl (by decide)) | exact Cond_f (fun _ => PO_quo rfl rfl rfl (by decide)) | exact Cond_f (fun _ => PO_buildSlice_own rfl (EL rfl) (SZ rfl) (AG rfl) (ZR rfl) rfl rfl rfl rfl rfl rfl rfl) | exact Cond_f (fun _ => call_pure rfl rfl (EN rfl) (hI) rfl rfl rfl) | exact Cond_f (fun _ => PO_appb (b := [UInt8.ofNat (x % 128 + 128)]) (varint (x / 128)) rfl (EL rfl) (SZ rfl) (BY rfl) (ZR rfl) rfl (congrArg (fun z => PV.own [GV.int .u8 z] 0) hc) rfl rfl rfl (by simp; omega) (by simp [maxLen]; omega)) | exact Cond_f (fun _ => PO_conv_int rfl (IK rfl) (IK rfl) rfl) | exact Cond_f (fun _ => PO_makeFunc rfl) | exact Cond_f (fun _ => PO_buildSlice rfl (EL rfl) (SZ rfl) (AG rfl) (ZR rfl) rfl rfl rfl rfl rfl rfl rfl) | exact Cond_f (fun _ => PO_nilCheck rfl rfl) | exact Cond_f (fun _ => PO_conv_int rfl (IK rfl) (IK rfl) rfl))) | refine PW_seq ?_ | refine PW_region ?_ | refine PW_draw_all mixed (by kernel_rfl) ?_ | refine PW_block ?_ | (refine PW_skip ?_; try show PW _ _ _ _ _ _) | (refine PW_exit ?_; try show PW _ _ _ _ _ _) | (refine PW_ret ?_; try show PW _ _ _ _ _ _) | refine PW_cond_t rfl ?_ | refine PW_cond_f rfl ?_))
          (first | refine Ret_int (resVs_cons resV_tmp resVs_nil) rfl ?_ | refine Ret_bool (resVs_cons resV_tmp resVs_nil) rfl ?_ | refine Ret_g (resVs_cons resV_tmp resVs_nil) rfl ?_ | refine Ret_int (resVs_cons (resV_agg (AG rfl) (SZ rfl) rfl rfl (Nat.le_of_ble_eq_true rfl)) resVs_nil) rfl ?_ | refine Ret_bool (resVs_cons (resV_agg (AG rfl) (SZ rfl) rfl rfl (Nat.le_of_ble_eq_true rfl)) resVs_nil) rfl ?_ | refine Ret_g (resVs_cons (resV_agg (AG rfl) (SZ rfl) rfl rfl (Nat.le_of_ble_eq_true rfl)) resVs_nil) rfl ?_)
          rw [varint_big h128]
          rfl
    · refine PC_of_PW Try.func80 rfl rfl (rs := _) rfl (Nat.le_of_ble_eq_true (by kernel_rfl)) ?_
      (repeat (first | (refine POps_nil ?_; try show PW _ _ _ _ _ _) | (refine POpsD_nil ?_; try show PW _ _ _ _ _ _) | refine runO_ok tabOk 300 rfl rfl ?_ | refine runO_ok tabOk 6 rfl rfl ?_ | refine runO_ok tabOk 1 rfl rfl ?_ | refine runD_ok tabOk 300 rfl rfl ?_ | refine runD_ok tabOk 6 rfl rfl ?_ | refine runD_ok tabOk 1 rfl rfl ?_ | (apply POps_run rfl rfl; focus (first | exact PO_conv_int rfl (IK rfl) (IK rfl) rfl | exact PO_makeFunc rfl | exact PO_buildSlice rfl (EL rfl) (SZ rfl) (AG rfl) (ZR rfl) rfl rfl rfl rfl rfl rfl rfl | exact PO_nilCheck rfl rfl | exact PO_conv_int rfl (IK rfl) (IK rfl) rfl)) | (apply POpsD_run rfl rfl; focus (first | exact Cond_c (PO_conv_int rfl (IK rfl) (IK rfl) rfl) | exact Cond_c (PO_makeFunc rfl) | exact Cond_c (PO_buildSlice rfl (EL rfl) (SZ rfl) (AG rfl) (ZR rfl) rfl rfl rfl rfl rfl rfl rfl) | exact Cond_f (fun _ => PO_conv_int rfl (IK rfl) (IK rfl) rfl) | exact Cond_f (fun _ => PO_makeFunc rfl) | exact Cond_f (fun _ => PO_buildSlice rfl (EL rfl) (SZ rfl) (AG rfl) (ZR rfl) rfl rfl rfl rfl rfl rfl rfl) | exact Cond_f (fun _ => PO_nilCheck rfl rfl) | exact Cond_f (fun _ => PO_conv_int rfl (IK rfl) (IK rfl) rfl))) | refine PW_seq ?_ | refine PW_region ?_ | refine PW_draw_all mixed (by kernel_rfl) ?_ | refine PW_block ?_ | (refine PW_skip ?_; try show PW _ _ _ _ _ _) | (refine PW_exit ?_; try show PW _ _ _ _ _ _) | (refine PW_ret ?_; try show PW _ _ _ _ _ _) | refine PW_cond_t rfl ?_ | refine PW_cond_f rfl ?_))
      (first | refine POps_split rfl rfl (fun h => ?_) (fun h => ?_) | refine POpsD_split rfl rfl (fun h => ?_) (fun h => ?_) | refine PW_cond rfl (fun h => ?_) (fun h => ?_))
      · (repeat (first | (refine POps_nil ?_; try show PW _ _ _ _ _ _) | (refine POpsD_nil ?_; try show PW _ _ _ _ _ _) | refine runO_ok tabOk 300 rfl rfl ?_ | refine runO_ok tabOk 6 rfl rfl ?_ | refine runO_ok tabOk 1 rfl rfl ?_ | refine runD_ok tabOk 300 rfl rfl ?_ | refine runD_ok tabOk 6 rfl rfl ?_ | refine runD_ok tabOk 1 rfl rfl ?_ | (apply POps_run rfl rfl; focus (first | exact PO_conv_int rfl (IK rfl) (IK rfl) rfl | exact PO_makeFunc rfl | exact PO_buildSlice rfl (EL rfl) (SZ rfl) (AG rfl) (ZR rfl) rfl rfl rfl rfl rfl rfl rfl | exact PO_nilCheck rfl rfl | exact PO_conv_int rfl (IK rfl) (IK rfl) rfl)) | (apply POpsD_run rfl rfl; focus (first | exact Cond_c (PO_conv_int rfl (IK rfl) (IK rfl) rfl) | exact Cond_c (PO_makeFunc rfl) | exact Cond_c (PO_buildSlice rfl (EL rfl) (SZ rfl) (AG rfl) (ZR rfl) rfl rfl rfl rfl rfl rfl rfl) | exact Cond_f (fun _ => PO_conv_int rfl (IK rfl) (IK rfl) rfl) | exact Cond_f (fun _ => PO_makeFunc rfl) | exact Cond_f (fun _ => PO_buildSlice rfl (EL rfl) (SZ rfl) (AG rfl) (ZR rfl) rfl rfl rfl rfl rfl rfl rfl) | exact Cond_f (fun _ => PO_nilCheck rfl rfl) | exact Cond_f (fun _ => PO_conv_int rfl (IK rfl) (IK rfl) rfl))) | refine PW_seq ?_ | refine PW_region ?_ | refine PW_draw_all mixed (by kernel_rfl) ?_ | refine PW_block ?_ | (refine PW_skip ?_; try show PW _ _ _ _ _ _) | (refine PW_exit ?_; try show PW _ _ _ _ _ _) | (refine PW_ret ?_; try show PW _ _ _ _ _ _) | refine PW_cond_t rfl ?_ | refine PW_cond_f rfl ?_))
        (first | refine Ret_int (resVs_cons resV_tmp resVs_nil) rfl ?_ | refine Ret_bool (resVs_cons resV_tmp resVs_nil) rfl ?_ | refine Ret_g (resVs_cons resV_tmp resVs_nil) rfl ?_ | refine Ret_int (resVs_cons (resV_agg (AG rfl) (SZ rfl) rfl rfl (Nat.le_of_ble_eq_true rfl)) resVs_nil) rfl ?_ | refine Ret_bool (resVs_cons (resV_agg (AG rfl) (SZ rfl) rfl rfl (Nat.le_of_ble_eq_true rfl)) resVs_nil) rfl ?_ | refine Ret_g (resVs_cons (resV_agg (AG rfl) (SZ rfl) rfl rfl (Nat.le_of_ble_eq_true rfl)) resVs_nil) rfl ?_)
        rw [varint_small h128]
        exact congrArg (fun z => GV.sl [GV.int .u8 z]) (small8 x)
      · have := of_decide_eq_false h; omega

set_option maxRecDepth 100000 in
set_option maxHeartbeats 4000000 in
theorem signed_ref (n : Int) (hn : -9223372036854775808 ≤ n ∧ n < 9223372036854775808) : PC Try.prog 79 [.g (.int .i64 n)] ⟨[], [], []⟩ (.g (.sl (bys (varint (fold64 n))))) ⟨[], [], []⟩ := by
  have hf := fold_eq n hn
  have hN := number_ref (fold64 n) (fold64 n) (Nat.le_refl _) (fold64_lt n)
  refine PC_of_PW Try.func79 rfl rfl (rs := _) rfl (Nat.le_of_ble_eq_true (by kernel_rfl)) ?_
  (repeat (first | (refine POps_nil ?_; try show PW _ _ _ _ _ _) | (refine POpsD_nil ?_; try show PW _ _ _ _ _ _) | refine runO_ok tabOk 300 rfl rfl ?_ | refine runO_ok tabOk 6 rfl rfl ?_ | refine runO_ok tabOk 1 rfl rfl ?_ | refine runD_ok tabOk 300 rfl rfl ?_ | refine runD_ok tabOk 6 rfl rfl ?_ | refine runD_ok tabOk 1 rfl rfl ?_ | (apply POps_run rfl rfl; focus (first | exact PO_conv_int rfl (IK rfl) (IK rfl) rfl | exact PO_makeFunc rfl | exact PO_buildSlice rfl (EL rfl) (SZ rfl) (AG rfl) (ZR rfl) rfl rfl rfl rfl rfl rfl rfl | exact PO_nilCheck rfl rfl | exact PO_conv_int rfl (IK rfl) (IK rfl) rfl)) | (apply POpsD_run rfl rfl; focus (first | exact Cond_c (PO_conv_int rfl (IK rfl) (IK rfl) rfl) | exact Cond_c (PO_makeFunc rfl) | exact Cond_c (PO_buildSlice rfl (EL rfl) (SZ rfl) (AG rfl) (ZR rfl) rfl rfl rfl rfl rfl rfl rfl) | exact Cond_f (fun _ => PO_conv_int rfl (IK rfl) (IK rfl) rfl) | exact Cond_f (fun _ => PO_makeFunc rfl) | exact Cond_f (fun _ => PO_buildSlice rfl (EL rfl) (SZ rfl) (AG rfl) (ZR rfl) rfl rfl rfl rfl rfl rfl rfl) | exact Cond_f (fun _ => PO_nilCheck rfl rfl) | exact Cond_f (fun _ => PO_conv_int rfl (IK rfl) (IK rfl) rfl))) | refine PW_seq ?_ | refine PW_region ?_ | refine PW_draw_all mixed (by kernel_rfl) ?_ | refine PW_block ?_ | (refine PW_skip ?_; try show PW _ _ _ _ _ _) | (refine PW_exit ?_; try show PW _ _ _ _ _ _) | (refine PW_ret ?_; try show PW _ _ _ _ _ _) | refine PW_cond_t rfl ?_ | refine PW_cond_f rfl ?_))
  (first | refine POps_split rfl rfl (fun h => ?_) (fun h => ?_) | refine POpsD_split rfl rfl (fun h => ?_) (fun h => ?_) | refine PW_cond rfl (fun h => ?_) (fun h => ?_))
  · have h0 := of_decide_eq_true h
    rw [if_pos h0] at hf
    have he : IntKind.u64.wrap (IntKind.u64.wrap (2 * IntKind.u64.wrap (IntKind.i64.wrap (0 - IntKind.i64.wrap (n + 1)))) + 1) = (fold64 n : Int) := by
      rw [wrap64 (n := n + 1) (by omega), wrap64 (n := 0 - (n + 1)) (by omega), hf]
      have u64i : ∀ m : Int, IntKind.u64.wrap m = m % 18446744073709551616 := fun m => by simp [IntKind.wrap, IntKind.bits, IntKind.signed]
      rw [u64i, u64i, u64i]
      omega
    rw [← he] at hN
    (repeat (first | (refine POps_nil ?_; try show PW _ _ _ _ _ _) | (refine POpsD_nil ?_; try show PW _ _ _ _ _ _) | refine runO_ok tabOk 300 rfl rfl ?_ | refine runO_ok tabOk 6 rfl rfl ?_ | refine runO_ok tabOk 1 rfl rfl ?_ | refine runD_ok tabOk 300 rfl rfl ?_ | refine runD_ok tabOk 6 rfl rfl ?_ | refine runD_ok tabOk 1 rfl rfl ?_ | (apply POps_run rfl rfl; focus (first | exact call_pure rfl rfl (EN rfl) (hN) rfl rfl rfl | exact PO_conv_int rfl (IK rfl) (IK rfl) rfl | exact PO_makeFunc rfl | exact PO_buildSlice rfl (EL rfl) (SZ rfl) (AG rfl) (ZR rfl) rfl rfl rfl rfl rfl rfl rfl | exact PO_nilCheck rfl rfl | exact PO_conv_int rfl (IK rfl) (IK rfl) rfl)) | (apply POpsD_run rfl rfl; focus (first | exact Cond_c (call_pure rfl rfl (EN rfl) (hN) rfl rfl rfl) | exact Cond_c (PO_conv_int rfl (IK rfl) (IK rfl) rfl) | exact Cond_c (PO_makeFunc rfl) | exact Cond_c (PO_buildSlice rfl (EL rfl) (SZ rfl) (AG rfl) (ZR rfl) rfl rfl rfl rfl rfl rfl rfl) | exact Cond_f (fun _ => call_pure rfl rfl (EN rfl) (hN) rfl rfl rfl) | exact Cond_f (fun _ => PO_conv_int rfl (IK rfl) (IK rfl) rfl) | exact Cond_f (fun _ => PO_makeFunc rfl) | exact Cond_f (fun _ => PO_buildSlice rfl (EL rfl) (SZ rfl) (AG rfl) (ZR rfl) rfl rfl rfl rfl rfl rfl rfl) | exact Cond_f (fun _ => PO_nilCheck rfl rfl) | exact Cond_f (fun _ => PO_conv_int rfl (IK rfl) (IK rfl) rfl))) | refine PW_seq ?_ | refine PW_region ?_ | refine PW_draw_all mixed (by kernel_rfl) ?_ | refine PW_block ?_ | (refine PW_skip ?_; try show PW _ _ _ _ _ _) | (refine PW_exit ?_; try show PW _ _ _ _ _ _) | (refine PW_ret ?_; try show PW _ _ _ _ _ _) | refine PW_cond_t rfl ?_ | refine PW_cond_f rfl ?_))
    (first | refine Ret_int (resVs_cons resV_tmp resVs_nil) rfl ?_ | refine Ret_bool (resVs_cons resV_tmp resVs_nil) rfl ?_ | refine Ret_g (resVs_cons resV_tmp resVs_nil) rfl ?_ | refine Ret_int (resVs_cons (resV_agg (AG rfl) (SZ rfl) rfl rfl (Nat.le_of_ble_eq_true rfl)) resVs_nil) rfl ?_ | refine Ret_bool (resVs_cons (resV_agg (AG rfl) (SZ rfl) rfl rfl (Nat.le_of_ble_eq_true rfl)) resVs_nil) rfl ?_ | refine Ret_g (resVs_cons (resV_agg (AG rfl) (SZ rfl) rfl rfl (Nat.le_of_ble_eq_true rfl)) resVs_nil) rfl ?_)
    rfl
  · have h0 := of_decide_eq_false h
    rw [if_neg h0] at hf
    have he : IntKind.u64.wrap (2 * IntKind.u64.wrap n) = (fold64 n : Int) := by
      rw [hf]
      have u64i : ∀ m : Int, IntKind.u64.wrap m = m % 18446744073709551616 := fun m => by simp [IntKind.wrap, IntKind.bits, IntKind.signed]
      rw [u64i, u64i]
      omega
    rw [← he] at hN
    (repeat (first | (refine POps_nil ?_; try show PW _ _ _ _ _ _) | (refine POpsD_nil ?_; try show PW _ _ _ _ _ _) | refine runO_ok tabOk 300 rfl rfl ?_ | refine runO_ok tabOk 6 rfl rfl ?_ | refine runO_ok tabOk 1 rfl rfl ?_ | refine runD_ok tabOk 300 rfl rfl ?_ | refine runD_ok tabOk 6 rfl rfl ?_ | refine runD_ok tabOk 1 rfl rfl ?_ | (apply POps_run rfl rfl; focus (first | exact call_pure rfl rfl (EN rfl) (hN) rfl rfl rfl | exact PO_conv_int rfl (IK rfl) (IK rfl) rfl | exact PO_makeFunc rfl | exact PO_buildSlice rfl (EL rfl) (SZ rfl) (AG rfl) (ZR rfl) rfl rfl rfl rfl rfl rfl rfl | exact PO_nilCheck rfl rfl | exact PO_conv_int rfl (IK rfl) (IK rfl) rfl)) | (apply POpsD_run rfl rfl; focus (first | exact Cond_c (call_pure rfl rfl (EN rfl) (hN) rfl rfl rfl) | exact Cond_c (PO_conv_int rfl (IK rfl) (IK rfl) rfl) | exact Cond_c (PO_makeFunc rfl) | exact Cond_c (PO_buildSlice rfl (EL rfl) (SZ rfl) (AG rfl) (ZR rfl) rfl rfl rfl rfl rfl rfl rfl) | exact Cond_f (fun _ => call_pure rfl rfl (EN rfl) (hN) rfl rfl rfl) | exact Cond_f (fun _ => PO_conv_int rfl (IK rfl) (IK rfl) rfl) | exact Cond_f (fun _ => PO_makeFunc rfl) | exact Cond_f (fun _ => PO_buildSlice rfl (EL rfl) (SZ rfl) (AG rfl) (ZR rfl) rfl rfl rfl rfl rfl rfl rfl) | exact Cond_f (fun _ => PO_nilCheck rfl rfl) | exact Cond_f (fun _ => PO_conv_int rfl (IK rfl) (IK rfl) rfl))) | refine PW_seq ?_ | refine PW_region ?_ | refine PW_draw_all mixed (by kernel_rfl) ?_ | refine PW_block ?_ | (refine PW_skip ?_; try show PW _ _ _ _ _ _) | (refine PW_exit ?_; try show PW _ _ _ _ _ _) | (refine PW_ret ?_; try show PW _ _ _ _ _ _) | refine PW_cond_t rfl ?_ | refine PW_cond_f rfl ?_))
    (first | refine Ret_int (resVs_cons resV_tmp resVs_nil) rfl ?_ | refine Ret_bool (resVs_cons resV_tmp resVs_nil) rfl ?_ | refine Ret_g (resVs_cons resV_tmp resVs_nil) rfl ?_ | refine Ret_int (resVs_cons (resV_agg (AG rfl) (SZ rfl) rfl rfl (Nat.le_of_ble_eq_true rfl)) resVs_nil) rfl ?_ | refine Ret_bool (resVs_cons (resV_agg (AG rfl) (SZ rfl) rfl rfl (Nat.le_of_ble_eq_true rfl)) resVs_nil) rfl ?_ | refine Ret_g (resVs_cons (resV_agg (AG rfl) (SZ rfl) rfl rfl (Nat.le_of_ble_eq_true rfl)) resVs_nil) rfl ?_)
    rfl

theorem four_ref (x : BitVec 32) : PC Try.prog 54 [.g (w32 x)] ⟨[], [], []⟩ (.g (.sl (bys (four x)))) ⟨[], [], []⟩ := by
  have hx := x.isLt
  have e : ∀ n : Nat, n < 4294967296 → IntKind.u8.wrap (n : Int) = ((UInt8.ofNat (n % 256)).toNat : Int) := fun n _ => u8nat n
  have c0 : IntKind.u8.wrap ((x.toNat : Int).tmod 256) = ((UInt8.ofNat (x.toNat % 256)).toNat : Int) := by
    rw [show (256 : Int) = ((256 : Nat) : Int) from rfl, tmodN, u8nat, Nat.mod_mod]
  have c1 : IntKind.u8.wrap ((IntKind.u32.wrap ((x.toNat : Int).tdiv 256)).tmod 256) = ((UInt8.ofNat (x.toNat / 256 % 256)).toNat : Int) := by
    rw [show (256 : Int) = ((256 : Nat) : Int) from rfl, tdivN, u32n _ (by omega), tmodN, u8nat, Nat.mod_mod]
  have c2 : IntKind.u8.wrap ((IntKind.u32.wrap ((x.toNat : Int).tdiv 65536)).tmod 256) = ((UInt8.ofNat (x.toNat / 65536 % 256)).toNat : Int) := by
    rw [show (256 : Int) = ((256 : Nat) : Int) from rfl, show (65536 : Int) = ((65536 : Nat) : Int) from rfl, tdivN, u32n _ (by omega), tmodN, u8nat, Nat.mod_mod]
  have c3 : IntKind.u8.wrap (IntKind.u32.wrap ((x.toNat : Int).tdiv 16777216)) = ((UInt8.ofNat (x.toNat / 16777216 % 256)).toNat : Int) := by
    rw [show (16777216 : Int) = ((16777216 : Nat) : Int) from rfl, tdivN, u32n _ (by omega), u8nat]
  refine PC_of_PW Try.func54 rfl rfl (rs := _) rfl (Nat.le_of_ble_eq_true (by kernel_rfl)) ?_
  (repeat (first | (refine POps_nil ?_; try show PW _ _ _ _ _ _) | (refine POpsD_nil ?_; try show PW _ _ _ _ _ _) | refine runO_ok tabOk 300 rfl rfl ?_ | refine runO_ok tabOk 6 rfl rfl ?_ | refine runO_ok tabOk 1 rfl rfl ?_ | refine runD_ok tabOk 300 rfl rfl ?_ | refine runD_ok tabOk 6 rfl rfl ?_ | refine runD_ok tabOk 1 rfl rfl ?_ | (apply POps_run rfl rfl; focus (first | exact PO_rem rfl rfl rfl (by decide) | exact PO_quo rfl rfl rfl (by decide) | exact PO_conv_int rfl (IK rfl) (IK rfl) rfl | exact PO_makeFunc rfl | exact PO_buildSlice rfl (EL rfl) (SZ rfl) (AG rfl) (ZR rfl) rfl rfl rfl rfl rfl rfl rfl | exact PO_nilCheck rfl rfl | exact PO_conv_int rfl (IK rfl) (IK rfl) rfl)) | (apply POpsD_run rfl rfl; focus (first | exact Cond_c (PO_rem rfl rfl rfl (by decide)) | exact Cond_c (PO_quo rfl rfl rfl (by decide)) | exact Cond_c (PO_conv_int rfl (IK rfl) (IK rfl) rfl) | exact Cond_c (PO_makeFunc rfl) | exact Cond_c (PO_buildSlice rfl (EL rfl) (SZ rfl) (AG rfl) (ZR rfl) rfl rfl rfl rfl rfl rfl rfl) | exact Cond_f (fun _ => PO_rem rfl rfl rfl (by decide)) | exact Cond_f (fun _ => PO_quo rfl rfl rfl (by decide)) | exact Cond_f (fun _ => PO_conv_int rfl (IK rfl) (IK rfl) rfl) | exact Cond_f (fun _ => PO_makeFunc rfl) | exact Cond_f (fun _ => PO_buildSlice rfl (EL rfl) (SZ rfl) (AG rfl) (ZR rfl) rfl rfl rfl rfl rfl rfl rfl) | exact Cond_f (fun _ => PO_nilCheck rfl rfl) | exact Cond_f (fun _ => PO_conv_int rfl (IK rfl) (IK rfl) rfl))) | refine PW_seq ?_ | refine PW_region ?_ | refine PW_draw_all mixed (by kernel_rfl) ?_ | refine PW_block ?_ | (refine PW_skip ?_; try show PW _ _ _ _ _ _) | (refine PW_exit ?_; try show PW _ _ _ _ _ _) | (refine PW_ret ?_; try show PW _ _ _ _ _ _) | refine PW_cond_t rfl ?_ | refine PW_cond_f rfl ?_))
  (first | refine Ret_int (resVs_cons resV_tmp resVs_nil) rfl ?_ | refine Ret_bool (resVs_cons resV_tmp resVs_nil) rfl ?_ | refine Ret_g (resVs_cons resV_tmp resVs_nil) rfl ?_ | refine Ret_int (resVs_cons (resV_agg (AG rfl) (SZ rfl) rfl rfl (Nat.le_of_ble_eq_true rfl)) resVs_nil) rfl ?_ | refine Ret_bool (resVs_cons (resV_agg (AG rfl) (SZ rfl) rfl rfl (Nat.le_of_ble_eq_true rfl)) resVs_nil) rfl ?_ | refine Ret_g (resVs_cons (resV_agg (AG rfl) (SZ rfl) rfl rfl (Nat.le_of_ble_eq_true rfl)) resVs_nil) rfl ?_)
  have hh : GV.sl [.int .u8 (IntKind.u8.wrap ((x.toNat : Int).tmod 256)), .int .u8 (IntKind.u8.wrap ((IntKind.u32.wrap ((x.toNat : Int).tdiv 256)).tmod 256)), .int .u8 (IntKind.u8.wrap ((IntKind.u32.wrap ((x.toNat : Int).tdiv 65536)).tmod 256)), .int .u8 (IntKind.u8.wrap (IntKind.u32.wrap ((x.toNat : Int).tdiv 16777216)))] = .sl (bys (four x)) := by
    rw [c0, c1, c2, c3]; rfl
  exact hh
end Go.Proofs.Ytffpepmfdjjjaaa

namespace Go.Proofs.Ytffpepmfdjjjaaa
open Go.Pure
attribute [local irreducible] PW POps POpsD PO PC Cond

def w64 (x : BitVec 32) : GV := .int .u64 x.toNat
theorem bit_val (c : UInt8) (k : Nat) (hk : k < 8) : IntKind.u64.wrap ((BitVec.ofInt IntKind.u64.bits (IntKind.u64.wrap ((c.toNat : Int).fdiv (2 ^ min ((k : Int)).toNat IntKind.u8.bits))) &&& BitVec.ofInt IntKind.u64.bits 1).toNat : Int) = (((if cbit c k = true then 1 else 0) : Nat) : Int) := by
  have hc := c.toNat_lt
  have e1 : min ((k : Int)).toNat IntKind.u8.bits = k := by
    have : IntKind.u8.bits = 8 := rfl
    rw [this]; omega
  have e2 : (c.toNat : Int).fdiv (2 ^ k) = ((c.toNat / 2 ^ k : Nat) : Int) := by
    have : (2 : Int) ^ k = ((2 ^ k : Nat) : Int) := by push_cast; rfl
    rw [this, fdivN]
  have e3 : c.toNat / 2 ^ k ≤ c.toNat := Nat.div_le_self _ _
  rw [e1, e2, u64mod (c.toNat / 2 ^ k), Nat.mod_eq_of_lt (a := c.toNat / 2 ^ k) (by omega), show (1 : Int) = ((1 : Nat) : Int) from rfl, and_u64 _ _ (by omega) (by decide), Nat.and_one_is_mod]
  have := bit_nat (byB c) k
  rw [byB_nat] at this
  rw [this]
  rfl
theorem top_val (R : BitVec 32) : (R.toNat : Int).fdiv (2 ^ min (31 : Int).toNat IntKind.u64.bits) = (((if R.getLsbD 31 = true then 1 else 0) : Nat) : Int) := by
  have : (2 : Int) ^ min (31 : Int).toNat IntKind.u64.bits = ((2147483648 : Nat) : Int) := by decide
  rw [this, fdivN]
  have h := bit_nat R 31
  have hl := R.isLt
  have e : R.toNat / 2147483648 = R.toNat / 2 ^ 31 % 2 := by
    rw [show (2 : Nat) ^ 31 = 2147483648 from rfl]
    omega
  rw [e, h]
theorem shl_val (R : BitVec 32) : IntKind.u64.wrap ((BitVec.ofInt IntKind.u64.bits (IntKind.u64.wrap ((R.toNat : Int) * 2 ^ min (1 : Int).toNat IntKind.u64.bits)) &&& BitVec.ofInt IntKind.u64.bits 4294967295).toNat : Int) = ((R <<< 1).toNat : Int) := by
  have hl := R.isLt
  have e1 : (2 : Int) ^ min (1 : Int).toNat IntKind.u64.bits = 2 := by decide
  rw [e1, show (R.toNat : Int) * 2 = ((R.toNat * 2 : Nat) : Int) by push_cast; rfl, u64mod (R.toNat * 2), Nat.mod_eq_of_lt (a := R.toNat * 2) (by omega), show (4294967295 : Int) = ((4294967295 : Nat) : Int) from rfl, and_u64 _ _ (by omega) (by decide)]
  have : R.toNat * 2 &&& 4294967295 = R.toNat * 2 % 2 ^ 32 := Nat.and_two_pow_sub_one_eq_mod _ 32
  rw [this, BitVec.toNat_shiftLeft, Nat.shiftLeft_eq]
theorem xor_val (x : BitVec 32) : IntKind.u64.wrap ((BitVec.ofInt IntKind.u64.bits (x.toNat : Int) ^^^ BitVec.ofInt IntKind.u64.bits 79764919).toNat : Int) = ((x ^^^ 0x04c11db7#32).toNat : Int) := by
  have hl := x.isLt
  rw [show (79764919 : Int) = ((79764919 : Nat) : Int) from rfl, xor_u64 _ _ (by omega) (by decide), BitVec.toNat_xor]
  rfl
theorem nought_val (R : BitVec 32) (k : Nat) (hk : k < 32) : IntKind.u64.wrap ((BitVec.ofInt IntKind.u64.bits ((R.toNat : Int).fdiv (2 ^ min ((k : Int)).toNat IntKind.u64.bits)) &&& BitVec.ofInt IntKind.u64.bits 1).toNat : Int) = (((if R.getLsbD k = true then 1 else 0) : Nat) : Int) := by
  have hl := R.isLt
  have e1 : min ((k : Int)).toNat IntKind.u64.bits = k := by
    have : IntKind.u64.bits = 64 := rfl
    rw [this]; omega
  have e2 : (R.toNat : Int).fdiv (2 ^ k) = ((R.toNat / 2 ^ k : Nat) : Int) := by
    have : (2 : Int) ^ k = ((2 ^ k : Nat) : Int) := by push_cast; rfl
    rw [this, fdivN]
  have e3 : R.toNat / 2 ^ k ≤ R.toNat := Nat.div_le_self _ _
  rw [e1, e2, show (1 : Int) = ((1 : Nat) : Int) from rfl, and_u64 _ _ (by omega) (by decide), Nat.and_one_is_mod, bit_nat]
theorem or_val (o : BitVec 32) (k : Nat) (hk : k < 32) : IntKind.u32.wrap ((BitVec.ofInt IntKind.u32.bits (o.toNat : Int) ||| BitVec.ofInt IntKind.u32.bits (IntKind.u32.wrap (1 * 2 ^ min (IntKind.i64.wrap (31 - (k : Int))).toNat IntKind.u32.bits))).toNat : Int) = ((o ||| (1#32 <<< (31 - k))).toNat : Int) := by
  have e1 : min (IntKind.i64.wrap (31 - (k : Int))).toNat IntKind.u32.bits = 31 - k := by
    rw [wrap64 (by omega)]
    have : IntKind.u32.bits = 32 := rfl
    rw [this]; omega
  have hp : 2 ^ (31 - k) ≤ 2 ^ 31 := Nat.pow_le_pow_right (by decide) (by omega)
  have e2 : (1 : Int) * 2 ^ (31 - k) = ((2 ^ (31 - k) : Nat) : Int) := by push_cast; omega
  rw [e1, e2, u32n (2 ^ (31 - k)) (by omega)]
  show IntKind.u32.wrap ((BitVec.ofInt 32 (o.toNat : Int) ||| BitVec.ofInt 32 ((2 ^ (31 - k) : Nat) : Int)).toNat : Int) = _
  rw [BitVec.ofInt_natCast, BitVec.ofInt_natCast, wrapU32]
  congr 2
  have : BitVec.ofNat 32 o.toNat = o := by simp
  rw [this]
  congr 1
  apply BitVec.eq_of_toNat_eq
  rw [BitVec.toNat_shiftLeft, BitVec.toNat_ofNat]
  simp [Nat.shiftLeft_eq]

set_option maxRecDepth 100000 in
set_option maxHeartbeats 8000000 in
theorem sum_ref (l : List UInt8) (hl : l.length ≤ 9223372036854775807) : PC Try.prog 20 [.g (.sl (bys l))] ⟨[], [], []⟩ (.g (w32 (sumB l))) ⟨[], [], []⟩ := by
  refine PC_of_PW Try.func20 rfl rfl (rs := _) rfl (Nat.le_of_ble_eq_true (by kernel_rfl)) ?_
  (repeat (first | (refine POps_nil ?_; try show PW _ _ _ _ _ _) | (refine POpsD_nil ?_; try show PW _ _ _ _ _ _) | refine runO_ok tabOk 300 rfl rfl ?_ | refine runO_ok tabOk 6 rfl rfl ?_ | refine runO_ok tabOk 1 rfl rfl ?_ | refine runD_ok tabOk 300 rfl rfl ?_ | refine runD_ok tabOk 6 rfl rfl ?_ | refine runD_ok tabOk 1 rfl rfl ?_ | (apply POps_run rfl rfl; focus (first | exact PO_conv_int rfl (IK rfl) (IK rfl) rfl | exact PO_makeFunc rfl | exact PO_buildSlice rfl (EL rfl) (SZ rfl) (AG rfl) (ZR rfl) rfl rfl rfl rfl rfl rfl rfl | exact PO_nilCheck rfl rfl | exact PO_conv_int rfl (IK rfl) (IK rfl) rfl)) | (apply POpsD_run rfl rfl; focus (first | exact Cond_c (PO_conv_int rfl (IK rfl) (IK rfl) rfl) | exact Cond_c (PO_makeFunc rfl) | exact Cond_c (PO_buildSlice rfl (EL rfl) (SZ rfl) (AG rfl) (ZR rfl) rfl rfl rfl rfl rfl rfl rfl) | exact Cond_f (fun _ => PO_conv_int rfl (IK rfl) (IK rfl) rfl) | exact Cond_f (fun _ => PO_makeFunc rfl) | exact Cond_f (fun _ => PO_buildSlice rfl (EL rfl) (SZ rfl) (AG rfl) (ZR rfl) rfl rfl rfl rfl rfl rfl rfl) | exact Cond_f (fun _ => PO_nilCheck rfl rfl) | exact Cond_f (fun _ => PO_conv_int rfl (IK rfl) (IK rfl) rfl))) | refine PW_seq ?_ | refine PW_region ?_ | refine PW_draw_all mixed (by kernel_rfl) ?_ | refine PW_block ?_ | (refine PW_skip ?_; try show PW _ _ _ _ _ _) | (refine PW_exit ?_; try show PW _ _ _ _ _ _) | (refine PW_ret ?_; try show PW _ _ _ _ _ _) | refine PW_cond_t rfl ?_ | refine PW_cond_f rfl ?_))
  refine PW_loop (S := Nat) (fun i => slots [(11, .g (.sl (bys l))), (12, .g (.int .i64 l.length)), (13, .g (.int .i64 i)), (3, .g (w64 (rsum 0xffffffff#32 (l.take i))))]) (fun _ => ⟨[], [], []⟩) (fun i => i ≤ l.length) (fun i => l.length - i) 0 (Nat.zero_le _) (SlotsOk.le ⟨.inl rfl, .inl (by simp [bys]; rfl), .inl rfl, .inl rfl, trivial⟩) (HLe.refl _) (fun i hi => ?_)
  (repeat (first | (refine POps_nil ?_; try show PW _ _ _ _ _ _) | (refine POpsD_nil ?_; try show PW _ _ _ _ _ _) | refine runO_ok tabOk 300 rfl rfl ?_ | refine runO_ok tabOk 6 rfl rfl ?_ | refine runO_ok tabOk 1 rfl rfl ?_ | refine runD_ok tabOk 300 rfl rfl ?_ | refine runD_ok tabOk 6 rfl rfl ?_ | refine runD_ok tabOk 1 rfl rfl ?_ | (apply POps_run rfl rfl; focus (first | exact PO_conv_int rfl (IK rfl) (IK rfl) rfl | exact PO_makeFunc rfl | exact PO_buildSlice rfl (EL rfl) (SZ rfl) (AG rfl) (ZR rfl) rfl rfl rfl rfl rfl rfl rfl | exact PO_nilCheck rfl rfl | exact PO_conv_int rfl (IK rfl) (IK rfl) rfl)) | (apply POpsD_run rfl rfl; focus (first | exact Cond_c (PO_conv_int rfl (IK rfl) (IK rfl) rfl) | exact Cond_c (PO_makeFunc rfl) | exact Cond_c (PO_buildSlice rfl (EL rfl) (SZ rfl) (AG rfl) (ZR rfl) rfl rfl rfl rfl rfl rfl rfl) | exact Cond_f (fun _ => PO_conv_int rfl (IK rfl) (IK rfl) rfl) | exact Cond_f (fun _ => PO_makeFunc rfl) | exact Cond_f (fun _ => PO_buildSlice rfl (EL rfl) (SZ rfl) (AG rfl) (ZR rfl) rfl rfl rfl rfl rfl rfl rfl) | exact Cond_f (fun _ => PO_nilCheck rfl rfl) | exact Cond_f (fun _ => PO_conv_int rfl (IK rfl) (IK rfl) rfl))) | refine PW_seq ?_ | refine PW_region ?_ | refine PW_draw_all mixed (by kernel_rfl) ?_ | refine PW_block ?_ | (refine PW_skip ?_; try show PW _ _ _ _ _ _) | (refine PW_exit ?_; try show PW _ _ _ _ _ _) | (refine PW_ret ?_; try show PW _ _ _ _ _ _) | refine PW_cond_t rfl ?_ | refine PW_cond_f rfl ?_))
  (first | refine POps_split rfl rfl (fun h => ?_) (fun h => ?_) | refine POpsD_split rfl rfl (fun h => ?_) (fun h => ?_) | refine PW_cond rfl (fun h => ?_) (fun h => ?_))
  · have hlt : i < l.length := by have := of_decide_eq_true h; omega
    have hg := bys_get hlt
    (repeat (first | (refine POps_nil ?_; try show PW _ _ _ _ _ _) | (refine POpsD_nil ?_; try show PW _ _ _ _ _ _) | refine runO_ok tabOk 300 rfl rfl ?_ | refine runO_ok tabOk 6 rfl rfl ?_ | refine runO_ok tabOk 1 rfl rfl ?_ | refine runD_ok tabOk 300 rfl rfl ?_ | refine runD_ok tabOk 6 rfl rfl ?_ | refine runD_ok tabOk 1 rfl rfl ?_ | (apply POps_run rfl rfl; focus (first | exact PO_indexAddr rfl (EL rfl) (SZ rfl) rfl rfl (Int.natCast_nonneg _) hg rfl | exact PO_conv_int rfl (IK rfl) (IK rfl) rfl | exact PO_makeFunc rfl | exact PO_buildSlice rfl (EL rfl) (SZ rfl) (AG rfl) (ZR rfl) rfl rfl rfl rfl rfl rfl rfl | exact PO_nilCheck rfl rfl | exact PO_conv_int rfl (IK rfl) (IK rfl) rfl)) | (apply POpsD_run rfl rfl; focus (first | exact Cond_c (PO_indexAddr rfl (EL rfl) (SZ rfl) rfl rfl (Int.natCast_nonneg _) hg rfl) | exact Cond_c (PO_conv_int rfl (IK rfl) (IK rfl) rfl) | exact Cond_c (PO_makeFunc rfl) | exact Cond_c (PO_buildSlice rfl (EL rfl) (SZ rfl) (AG rfl) (ZR rfl) rfl rfl rfl rfl rfl rfl rfl) | exact Cond_f (fun _ => PO_indexAddr rfl (EL rfl) (SZ rfl) rfl rfl (Int.natCast_nonneg _) hg rfl) | exact Cond_f (fun _ => PO_conv_int rfl (IK rfl) (IK rfl) rfl) | exact Cond_f (fun _ => PO_makeFunc rfl) | exact Cond_f (fun _ => PO_buildSlice rfl (EL rfl) (SZ rfl) (AG rfl) (ZR rfl) rfl rfl rfl rfl rfl rfl rfl) | exact Cond_f (fun _ => PO_nilCheck rfl rfl) | exact Cond_f (fun _ => PO_conv_int rfl (IK rfl) (IK rfl) rfl))) | refine PW_seq ?_ | refine PW_region ?_ | refine PW_draw_all mixed (by kernel_rfl) ?_ | refine PW_block ?_ | (refine PW_skip ?_; try show PW _ _ _ _ _ _) | (refine PW_exit ?_; try show PW _ _ _ _ _ _) | (refine PW_ret ?_; try show PW _ _ _ _ _ _) | refine PW_cond_t rfl ?_ | refine PW_cond_f rfl ?_))
    refine PW_loop (S := Nat) (fun k => slots [(11, .g (.sl (bys l))), (12, .g (.int .i64 l.length)), (13, .g (.int .i64 i)), (5, .g (byteG l[i])), (6, .g (.int .i64 k)), (3, .g (w64 (rrun (rsum 0xffffffff#32 (l.take i)) l[i] k)))]) (fun _ => ⟨[], [], []⟩) (fun k => k ≤ 8) (fun k => 8 - k) 0 (Nat.zero_le _) (SlotsOk.le ⟨.inl rfl, .inl rfl, .inl rfl, .inl rfl, .inl rfl, .inl rfl, trivial⟩) (HLe.refl _) (fun k hk => ?_)
    (repeat (first | (refine POps_nil ?_; try show PW _ _ _ _ _ _) | (refine POpsD_nil ?_; try show PW _ _ _ _ _ _) | refine runO_ok tabOk 300 rfl rfl ?_ | refine runO_ok tabOk 6 rfl rfl ?_ | refine runO_ok tabOk 1 rfl rfl ?_ | refine runD_ok tabOk 300 rfl rfl ?_ | refine runD_ok tabOk 6 rfl rfl ?_ | refine runD_ok tabOk 1 rfl rfl ?_ | (apply POps_run rfl rfl; focus (first | exact PO_conv_int rfl (IK rfl) (IK rfl) rfl | exact PO_makeFunc rfl | exact PO_buildSlice rfl (EL rfl) (SZ rfl) (AG rfl) (ZR rfl) rfl rfl rfl rfl rfl rfl rfl | exact PO_nilCheck rfl rfl | exact PO_conv_int rfl (IK rfl) (IK rfl) rfl)) | (apply POpsD_run rfl rfl; focus (first | exact Cond_c (PO_conv_int rfl (IK rfl) (IK rfl) rfl) | exact Cond_c (PO_makeFunc rfl) | exact Cond_c (PO_buildSlice rfl (EL rfl) (SZ rfl) (AG rfl) (ZR rfl) rfl rfl rfl rfl rfl rfl rfl) | exact Cond_f (fun _ => PO_conv_int rfl (IK rfl) (IK rfl) rfl) | exact Cond_f (fun _ => PO_makeFunc rfl) | exact Cond_f (fun _ => PO_buildSlice rfl (EL rfl) (SZ rfl) (AG rfl) (ZR rfl) rfl rfl rfl rfl rfl rfl rfl) | exact Cond_f (fun _ => PO_nilCheck rfl rfl) | exact Cond_f (fun _ => PO_conv_int rfl (IK rfl) (IK rfl) rfl))) | refine PW_seq ?_ | refine PW_region ?_ | refine PW_draw_all mixed (by kernel_rfl) ?_ | refine PW_block ?_ | (refine PW_skip ?_; try show PW _ _ _ _ _ _) | (refine PW_exit ?_; try show PW _ _ _ _ _ _) | (refine PW_ret ?_; try show PW _ _ _ _ _ _) | refine PW_cond_t rfl ?_ | refine PW_cond_f rfl ?_))
    (first | refine POps_split rfl rfl (fun h => ?_) (fun h => ?_) | refine POpsD_split rfl rfl (fun h => ?_) (fun h => ?_) | refine PW_cond rfl (fun h => ?_) (fun h => ?_))
    · have hk8 : k < 8 := by have := of_decide_eq_true h; omega
      have hst : rrun (rsum 0xffffffff#32 (l.take i)) l[i] (k + 1) = rstep (rrun (rsum 0xffffffff#32 (l.take i)) l[i] k) (cbit l[i] k) := rfl
      have b1 := bit_val l[i] k hk8
      have b2 := top_val (rrun (rsum 0xffffffff#32 (l.take i)) l[i] k)
      have b3 := shl_val (rrun (rsum 0xffffffff#32 (l.take i)) l[i] k)
      (repeat (first | (refine POps_nil ?_; try show PW _ _ _ _ _ _) | (refine POpsD_nil ?_; try show PW _ _ _ _ _ _) | refine runO_ok tabOk 300 rfl rfl ?_ | refine runO_ok tabOk 6 rfl rfl ?_ | refine runO_ok tabOk 1 rfl rfl ?_ | refine runD_ok tabOk 300 rfl rfl ?_ | refine runD_ok tabOk 6 rfl rfl ?_ | refine runD_ok tabOk 1 rfl rfl ?_ | (apply POps_run rfl rfl; focus (first | exact PO_shr rfl rfl rfl (Int.natCast_nonneg _) | exact PO_shr rfl rfl rfl (by decide) | exact PO_shl rfl rfl rfl (by decide) | exact PO_conv_int rfl (IK rfl) (IK rfl) rfl | exact PO_makeFunc rfl | exact PO_buildSlice rfl (EL rfl) (SZ rfl) (AG rfl) (ZR rfl) rfl rfl rfl rfl rfl rfl rfl | exact PO_nilCheck rfl rfl | exact PO_conv_int rfl (IK rfl) (IK rfl) rfl)) | (apply POpsD_run rfl rfl; focus (first | exact Cond_c (PO_shr rfl rfl rfl (Int.natCast_nonneg _)) | exact Cond_c (PO_shr rfl rfl rfl (by decide)) | exact Cond_c (PO_shl rfl rfl rfl (by decide)) | exact Cond_c (PO_conv_int rfl (IK rfl) (IK rfl) rfl) | exact Cond_c (PO_makeFunc rfl) | exact Cond_c (PO_buildSlice rfl (EL rfl) (SZ rfl) (AG rfl) (ZR rfl) rfl rfl rfl rfl rfl rfl rfl) | exact Cond_f (fun _ => PO_shr rfl rfl rfl (Int.natCast_nonneg _)) | exact Cond_f (fun _ => PO_shr rfl rfl rfl (by decide)) | exact Cond_f (fun _ => PO_shl rfl rfl rfl (by decide)) | exact Cond_f (fun _ => PO_conv_int rfl (IK rfl) (IK rfl) rfl) | exact Cond_f (fun _ => PO_makeFunc rfl) | exact Cond_f (fun _ => PO_buildSlice rfl (EL rfl) (SZ rfl) (AG rfl) (ZR rfl) rfl rfl rfl rfl rfl rfl rfl) | exact Cond_f (fun _ => PO_nilCheck rfl rfl) | exact Cond_f (fun _ => PO_conv_int rfl (IK rfl) (IK rfl) rfl))) | refine PW_seq ?_ | refine PW_region ?_ | refine PW_draw_all mixed (by kernel_rfl) ?_ | refine PW_block ?_ | (refine PW_skip ?_; try show PW _ _ _ _ _ _) | (refine PW_exit ?_; try show PW _ _ _ _ _ _) | (refine PW_ret ?_; try show PW _ _ _ _ _ _) | refine PW_cond_t rfl ?_ | refine PW_cond_f rfl ?_))
      (first | refine POps_split rfl rfl (fun h => ?_) (fun h => ?_) | refine POpsD_split rfl rfl (fun h => ?_) (fun h => ?_) | refine PW_cond rfl (fun h => ?_) (fun h => ?_))
      · have hd : ((rrun (rsum 0xffffffff#32 (l.take i)) l[i] k).getLsbD 31 != cbit l[i] k) = true := by
          have h' := h
          rw [b1, b2] at h'
          revert h'
          cases (rrun (rsum 0xffffffff#32 (l.take i)) l[i] k).getLsbD 31 <;> cases cbit l[i] k <;> simp
        unfold rstep at hst
        rw [if_pos hd] at hst
        have b4 := xor_val ((rrun (rsum 0xffffffff#32 (l.take i)) l[i] k) <<< 1)
        rw [← b3] at b4
        (repeat (first | (refine POps_nil ?_; try show PW _ _ _ _ _ _) | (refine POpsD_nil ?_; try show PW _ _ _ _ _ _) | refine runO_ok tabOk 300 rfl rfl ?_ | refine runO_ok tabOk 6 rfl rfl ?_ | refine runO_ok tabOk 1 rfl rfl ?_ | refine runD_ok tabOk 300 rfl rfl ?_ | refine runD_ok tabOk 6 rfl rfl ?_ | refine runD_ok tabOk 1 rfl rfl ?_ | (apply POps_run rfl rfl; focus (first | exact PO_conv_int rfl (IK rfl) (IK rfl) rfl | exact PO_makeFunc rfl | exact PO_buildSlice rfl (EL rfl) (SZ rfl) (AG rfl) (ZR rfl) rfl rfl rfl rfl rfl rfl rfl | exact PO_nilCheck rfl rfl | exact PO_conv_int rfl (IK rfl) (IK rfl) rfl)) | (apply POpsD_run rfl rfl; focus (first | exact Cond_c (PO_conv_int rfl (IK rfl) (IK rfl) rfl) | exact Cond_c (PO_makeFunc rfl) | exact Cond_c (PO_buildSlice rfl (EL rfl) (SZ rfl) (AG rfl) (ZR rfl) rfl rfl rfl rfl rfl rfl rfl) | exact Cond_f (fun _ => PO_conv_int rfl (IK rfl) (IK rfl) rfl) | exact Cond_f (fun _ => PO_makeFunc rfl) | exact Cond_f (fun _ => PO_buildSlice rfl (EL rfl) (SZ rfl) (AG rfl) (ZR rfl) rfl rfl rfl rfl rfl rfl rfl) | exact Cond_f (fun _ => PO_nilCheck rfl rfl) | exact Cond_f (fun _ => PO_conv_int rfl (IK rfl) (IK rfl) rfl))) | refine PW_seq ?_ | refine PW_region ?_ | refine PW_draw_all mixed (by kernel_rfl) ?_ | refine PW_block ?_ | (refine PW_skip ?_; try show PW _ _ _ _ _ _) | (refine PW_exit ?_; try show PW _ _ _ _ _ _) | (refine PW_ret ?_; try show PW _ _ _ _ _ _) | refine PW_cond_t rfl ?_ | refine PW_cond_f rfl ?_))
        refine ⟨k + 1, hk8, by omega, SlotsOk.le ⟨.inl rfl, .inl rfl, .inl rfl, .inl rfl, .inl (congrArg (fun x => PV.g (.int .i64 x)) (wrap64 (by omega))), .inl (by rw [hst]; exact congrArg (fun x => PV.g (.int .u64 x)) b4), trivial⟩, HLe.refl _⟩
      · have hd : ¬ ((rrun (rsum 0xffffffff#32 (l.take i)) l[i] k).getLsbD 31 != cbit l[i] k) = true := by
          have h' := h
          rw [b1, b2] at h'
          revert h'
          cases (rrun (rsum 0xffffffff#32 (l.take i)) l[i] k).getLsbD 31 <;> cases cbit l[i] k <;> simp
        unfold rstep at hst
        rw [if_neg hd] at hst
        (repeat (first | (refine POps_nil ?_; try show PW _ _ _ _ _ _) | (refine POpsD_nil ?_; try show PW _ _ _ _ _ _) | refine runO_ok tabOk 300 rfl rfl ?_ | refine runO_ok tabOk 6 rfl rfl ?_ | refine runO_ok tabOk 1 rfl rfl ?_ | refine runD_ok tabOk 300 rfl rfl ?_ | refine runD_ok tabOk 6 rfl rfl ?_ | refine runD_ok tabOk 1 rfl rfl ?_ | (apply POps_run rfl rfl; focus (first | exact PO_conv_int rfl (IK rfl) (IK rfl) rfl | exact PO_makeFunc rfl | exact PO_buildSlice rfl (EL rfl) (SZ rfl) (AG rfl) (ZR rfl) rfl rfl rfl rfl rfl rfl rfl | exact PO_nilCheck rfl rfl | exact PO_conv_int rfl (IK rfl) (IK rfl) rfl)) | (apply POpsD_run rfl rfl; focus (first | exact Cond_c (PO_conv_int rfl (IK rfl) (IK rfl) rfl) | exact Cond_c (PO_makeFunc rfl) | exact Cond_c (PO_buildSlice rfl (EL rfl) (SZ rfl) (AG rfl) (ZR rfl) rfl rfl rfl rfl rfl rfl rfl) | exact Cond_f (fun _ => PO_conv_int rfl (IK rfl) (IK rfl) rfl) | exact Cond_f (fun _ => PO_makeFunc rfl) | exact Cond_f (fun _ => PO_buildSlice rfl (EL rfl) (SZ rfl) (AG rfl) (ZR rfl) rfl rfl rfl rfl rfl rfl rfl) | exact Cond_f (fun _ => PO_nilCheck rfl rfl) | exact Cond_f (fun _ => PO_conv_int rfl (IK rfl) (IK rfl) rfl))) | refine PW_seq ?_ | refine PW_region ?_ | refine PW_draw_all mixed (by kernel_rfl) ?_ | refine PW_block ?_ | (refine PW_skip ?_; try show PW _ _ _ _ _ _) | (refine PW_exit ?_; try show PW _ _ _ _ _ _) | (refine PW_ret ?_; try show PW _ _ _ _ _ _) | refine PW_cond_t rfl ?_ | refine PW_cond_f rfl ?_))
        refine ⟨k + 1, hk8, by omega, SlotsOk.le ⟨.inl rfl, .inl rfl, .inl rfl, .inl rfl, .inl (congrArg (fun x => PV.g (.int .i64 x)) (wrap64 (by omega))), .inl (by rw [hst]; exact congrArg (fun x => PV.g (.int .u64 x)) b3), trivial⟩, HLe.refl _⟩
    · have hk8 : k = 8 := by have := of_decide_eq_false h; omega
      subst hk8
      (repeat (first | (refine POps_nil ?_; try show PW _ _ _ _ _ _) | (refine POpsD_nil ?_; try show PW _ _ _ _ _ _) | refine runO_ok tabOk 300 rfl rfl ?_ | refine runO_ok tabOk 6 rfl rfl ?_ | refine runO_ok tabOk 1 rfl rfl ?_ | refine runD_ok tabOk 300 rfl rfl ?_ | refine runD_ok tabOk 6 rfl rfl ?_ | refine runD_ok tabOk 1 rfl rfl ?_ | (apply POps_run rfl rfl; focus (first | exact PO_conv_int rfl (IK rfl) (IK rfl) rfl | exact PO_makeFunc rfl | exact PO_buildSlice rfl (EL rfl) (SZ rfl) (AG rfl) (ZR rfl) rfl rfl rfl rfl rfl rfl rfl | exact PO_nilCheck rfl rfl | exact PO_conv_int rfl (IK rfl) (IK rfl) rfl)) | (apply POpsD_run rfl rfl; focus (first | exact Cond_c (PO_conv_int rfl (IK rfl) (IK rfl) rfl) | exact Cond_c (PO_makeFunc rfl) | exact Cond_c (PO_buildSlice rfl (EL rfl) (SZ rfl) (AG rfl) (ZR rfl) rfl rfl rfl rfl rfl rfl rfl) | exact Cond_f (fun _ => PO_conv_int rfl (IK rfl) (IK rfl) rfl) | exact Cond_f (fun _ => PO_makeFunc rfl) | exact Cond_f (fun _ => PO_buildSlice rfl (EL rfl) (SZ rfl) (AG rfl) (ZR rfl) rfl rfl rfl rfl rfl rfl rfl) | exact Cond_f (fun _ => PO_nilCheck rfl rfl) | exact Cond_f (fun _ => PO_conv_int rfl (IK rfl) (IK rfl) rfl))) | refine PW_seq ?_ | refine PW_region ?_ | refine PW_draw_all mixed (by kernel_rfl) ?_ | refine PW_block ?_ | (refine PW_skip ?_; try show PW _ _ _ _ _ _) | (refine PW_exit ?_; try show PW _ _ _ _ _ _) | (refine PW_ret ?_; try show PW _ _ _ _ _ _) | refine PW_cond_t rfl ?_ | refine PW_cond_f rfl ?_))
      refine ⟨i + 1, hlt, by omega, SlotsOk.le ⟨.inl rfl, .inl rfl, .inl (congrArg (fun x => PV.g (.int .i64 x)) (wrap64 (by omega))), .inl (congrArg (fun x => PV.g (w64 x)) (rsum_take hlt).symm), trivial⟩, HLe.refl _⟩
  · have hi' : i = l.length := by have := of_decide_eq_false h; omega
    subst hi'
    rw [List.take_length]
    have hout := sum_turned l
    generalize rsum 0xffffffff#32 l = R at hout
    (repeat (first | (refine POps_nil ?_; try show PW _ _ _ _ _ _) | (refine POpsD_nil ?_; try show PW _ _ _ _ _ _) | refine runO_ok tabOk 300 rfl rfl ?_ | refine runO_ok tabOk 6 rfl rfl ?_ | refine runO_ok tabOk 1 rfl rfl ?_ | refine runD_ok tabOk 300 rfl rfl ?_ | refine runD_ok tabOk 6 rfl rfl ?_ | refine runD_ok tabOk 1 rfl rfl ?_ | (apply POps_run rfl rfl; focus (first | exact PO_conv_int rfl (IK rfl) (IK rfl) rfl | exact PO_makeFunc rfl | exact PO_buildSlice rfl (EL rfl) (SZ rfl) (AG rfl) (ZR rfl) rfl rfl rfl rfl rfl rfl rfl | exact PO_nilCheck rfl rfl | exact PO_conv_int rfl (IK rfl) (IK rfl) rfl)) | (apply POpsD_run rfl rfl; focus (first | exact Cond_c (PO_conv_int rfl (IK rfl) (IK rfl) rfl) | exact Cond_c (PO_makeFunc rfl) | exact Cond_c (PO_buildSlice rfl (EL rfl) (SZ rfl) (AG rfl) (ZR rfl) rfl rfl rfl rfl rfl rfl rfl) | exact Cond_f (fun _ => PO_conv_int rfl (IK rfl) (IK rfl) rfl) | exact Cond_f (fun _ => PO_makeFunc rfl) | exact Cond_f (fun _ => PO_buildSlice rfl (EL rfl) (SZ rfl) (AG rfl) (ZR rfl) rfl rfl rfl rfl rfl rfl rfl) | exact Cond_f (fun _ => PO_nilCheck rfl rfl) | exact Cond_f (fun _ => PO_conv_int rfl (IK rfl) (IK rfl) rfl))) | refine PW_seq ?_ | refine PW_region ?_ | refine PW_draw_all mixed (by kernel_rfl) ?_ | refine PW_block ?_ | (refine PW_skip ?_; try show PW _ _ _ _ _ _) | (refine PW_exit ?_; try show PW _ _ _ _ _ _) | (refine PW_ret ?_; try show PW _ _ _ _ _ _) | refine PW_cond_t rfl ?_ | refine PW_cond_f rfl ?_))
    refine PW_loop (S := Nat) (fun k => slots [(3, .g (w64 R)), (9, .g (w32 (outR R k))), (10, .g (.int .i64 k))]) (fun _ => ⟨[], [], []⟩) (fun k => k ≤ 32) (fun k => 32 - k) 0 (Nat.zero_le _) (SlotsOk.le ⟨.inl rfl, .inl rfl, .inl rfl, trivial⟩) (HLe.refl _) (fun k hk => ?_)
    (repeat (first | (refine POps_nil ?_; try show PW _ _ _ _ _ _) | (refine POpsD_nil ?_; try show PW _ _ _ _ _ _) | refine runO_ok tabOk 300 rfl rfl ?_ | refine runO_ok tabOk 6 rfl rfl ?_ | refine runO_ok tabOk 1 rfl rfl ?_ | refine runD_ok tabOk 300 rfl rfl ?_ | refine runD_ok tabOk 6 rfl rfl ?_ | refine runD_ok tabOk 1 rfl rfl ?_ | (apply POps_run rfl rfl; focus (first | exact PO_conv_int rfl (IK rfl) (IK rfl) rfl | exact PO_makeFunc rfl | exact PO_buildSlice rfl (EL rfl) (SZ rfl) (AG rfl) (ZR rfl) rfl rfl rfl rfl rfl rfl rfl | exact PO_nilCheck rfl rfl | exact PO_conv_int rfl (IK rfl) (IK rfl) rfl)) | (apply POpsD_run rfl rfl; focus (first | exact Cond_c (PO_conv_int rfl (IK rfl) (IK rfl) rfl) | exact Cond_c (PO_makeFunc rfl) | exact Cond_c (PO_buildSlice rfl (EL rfl) (SZ rfl) (AG rfl) (ZR rfl) rfl rfl rfl rfl rfl rfl rfl) | exact Cond_f (fun _ => PO_conv_int rfl (IK rfl) (IK rfl) rfl) | exact Cond_f (fun _ => PO_makeFunc rfl) | exact Cond_f (fun _ => PO_buildSlice rfl (EL rfl) (SZ rfl) (AG rfl) (ZR rfl) rfl rfl rfl rfl rfl rfl rfl) | exact Cond_f (fun _ => PO_nilCheck rfl rfl) | exact Cond_f (fun _ => PO_conv_int rfl (IK rfl) (IK rfl) rfl))) | refine PW_seq ?_ | refine PW_region ?_ | refine PW_draw_all mixed (by kernel_rfl) ?_ | refine PW_block ?_ | (refine PW_skip ?_; try show PW _ _ _ _ _ _) | (refine PW_exit ?_; try show PW _ _ _ _ _ _) | (refine PW_ret ?_; try show PW _ _ _ _ _ _) | refine PW_cond_t rfl ?_ | refine PW_cond_f rfl ?_))
    (first | refine POps_split rfl rfl (fun h => ?_) (fun h => ?_) | refine POpsD_split rfl rfl (fun h => ?_) (fun h => ?_) | refine PW_cond rfl (fun h => ?_) (fun h => ?_))
    · have hk8 : k < 32 := by have := of_decide_eq_true h; omega
      have n1 := nought_val R k hk8
      have n2 := or_val (outR R k) k hk8
      (repeat (first | (refine POps_nil ?_; try show PW _ _ _ _ _ _) | (refine POpsD_nil ?_; try show PW _ _ _ _ _ _) | refine runO_ok tabOk 300 rfl rfl ?_ | refine runO_ok tabOk 6 rfl rfl ?_ | refine runO_ok tabOk 1 rfl rfl ?_ | refine runD_ok tabOk 300 rfl rfl ?_ | refine runD_ok tabOk 6 rfl rfl ?_ | refine runD_ok tabOk 1 rfl rfl ?_ | (apply POps_run rfl rfl; focus (first | exact PO_shr rfl rfl rfl (Int.natCast_nonneg _) | exact PO_conv_int rfl (IK rfl) (IK rfl) rfl | exact PO_makeFunc rfl | exact PO_buildSlice rfl (EL rfl) (SZ rfl) (AG rfl) (ZR rfl) rfl rfl rfl rfl rfl rfl rfl | exact PO_nilCheck rfl rfl | exact PO_conv_int rfl (IK rfl) (IK rfl) rfl)) | (apply POpsD_run rfl rfl; focus (first | exact Cond_c (PO_shr rfl rfl rfl (Int.natCast_nonneg _)) | exact Cond_c (PO_conv_int rfl (IK rfl) (IK rfl) rfl) | exact Cond_c (PO_makeFunc rfl) | exact Cond_c (PO_buildSlice rfl (EL rfl) (SZ rfl) (AG rfl) (ZR rfl) rfl rfl rfl rfl rfl rfl rfl) | exact Cond_f (fun _ => PO_shr rfl rfl rfl (Int.natCast_nonneg _)) | exact Cond_f (fun _ => PO_conv_int rfl (IK rfl) (IK rfl) rfl) | exact Cond_f (fun _ => PO_makeFunc rfl) | exact Cond_f (fun _ => PO_buildSlice rfl (EL rfl) (SZ rfl) (AG rfl) (ZR rfl) rfl rfl rfl rfl rfl rfl rfl) | exact Cond_f (fun _ => PO_nilCheck rfl rfl) | exact Cond_f (fun _ => PO_conv_int rfl (IK rfl) (IK rfl) rfl))) | refine PW_seq ?_ | refine PW_region ?_ | refine PW_draw_all mixed (by kernel_rfl) ?_ | refine PW_block ?_ | (refine PW_skip ?_; try show PW _ _ _ _ _ _) | (refine PW_exit ?_; try show PW _ _ _ _ _ _) | (refine PW_ret ?_; try show PW _ _ _ _ _ _) | refine PW_cond_t rfl ?_ | refine PW_cond_f rfl ?_))
      (first | refine POps_split rfl rfl (fun h => ?_) (fun h => ?_) | refine POpsD_split rfl rfl (fun h => ?_) (fun h => ?_) | refine PW_cond rfl (fun h => ?_) (fun h => ?_))
      · have hd : R.getLsbD k = false := by
          have h' := h
          rw [n1] at h'
          revert h'
          cases R.getLsbD k <;> simp
        (repeat (first | (refine POps_nil ?_; try show PW _ _ _ _ _ _) | (refine POpsD_nil ?_; try show PW _ _ _ _ _ _) | refine runO_ok tabOk 300 rfl rfl ?_ | refine runO_ok tabOk 6 rfl rfl ?_ | refine runO_ok tabOk 1 rfl rfl ?_ | refine runD_ok tabOk 300 rfl rfl ?_ | refine runD_ok tabOk 6 rfl rfl ?_ | refine runD_ok tabOk 1 rfl rfl ?_ | (apply POps_run rfl rfl; focus (first | exact PO_shl rfl rfl rfl (by rw [wrap64 (by omega)]; omega) | exact PO_conv_int rfl (IK rfl) (IK rfl) rfl | exact PO_makeFunc rfl | exact PO_buildSlice rfl (EL rfl) (SZ rfl) (AG rfl) (ZR rfl) rfl rfl rfl rfl rfl rfl rfl | exact PO_nilCheck rfl rfl | exact PO_conv_int rfl (IK rfl) (IK rfl) rfl)) | (apply POpsD_run rfl rfl; focus (first | exact Cond_c (PO_shl rfl rfl rfl (by rw [wrap64 (by omega)]; omega)) | exact Cond_c (PO_conv_int rfl (IK rfl) (IK rfl) rfl) | exact Cond_c (PO_makeFunc rfl) | exact Cond_c (PO_buildSlice rfl (EL rfl) (SZ rfl) (AG rfl) (ZR rfl) rfl rfl rfl rfl rfl rfl rfl) | exact Cond_f (fun _ => PO_shl rfl rfl rfl (by rw [wrap64 (by omega)]; omega)) | exact Cond_f (fun _ => PO_conv_int rfl (IK rfl) (IK rfl) rfl) | exact Cond_f (fun _ => PO_makeFunc rfl) | exact Cond_f (fun _ => PO_buildSlice rfl (EL rfl) (SZ rfl) (AG rfl) (ZR rfl) rfl rfl rfl rfl rfl rfl rfl) | exact Cond_f (fun _ => PO_nilCheck rfl rfl) | exact Cond_f (fun _ => PO_conv_int rfl (IK rfl) (IK rfl) rfl))) | refine PW_seq ?_ | refine PW_region ?_ | refine PW_draw_all mixed (by kernel_rfl) ?_ | refine PW_block ?_ | (refine PW_skip ?_; try show PW _ _ _ _ _ _) | (refine PW_exit ?_; try show PW _ _ _ _ _ _) | (refine PW_ret ?_; try show PW _ _ _ _ _ _) | refine PW_cond_t rfl ?_ | refine PW_cond_f rfl ?_))
        refine ⟨k + 1, hk8, by omega, SlotsOk.le ⟨.inl rfl, .inl (by rw [outR, if_pos hd]; exact congrArg (fun x => PV.g (.int .u32 x)) n2), .inl (congrArg (fun x => PV.g (.int .i64 x)) (wrap64 (by omega))), trivial⟩, HLe.refl _⟩
      · have hd : ¬ R.getLsbD k = false := by
          have h' := h
          rw [n1] at h'
          revert h'
          cases R.getLsbD k <;> simp
        (repeat (first | (refine POps_nil ?_; try show PW _ _ _ _ _ _) | (refine POpsD_nil ?_; try show PW _ _ _ _ _ _) | refine runO_ok tabOk 300 rfl rfl ?_ | refine runO_ok tabOk 6 rfl rfl ?_ | refine runO_ok tabOk 1 rfl rfl ?_ | refine runD_ok tabOk 300 rfl rfl ?_ | refine runD_ok tabOk 6 rfl rfl ?_ | refine runD_ok tabOk 1 rfl rfl ?_ | (apply POps_run rfl rfl; focus (first | exact PO_conv_int rfl (IK rfl) (IK rfl) rfl | exact PO_makeFunc rfl | exact PO_buildSlice rfl (EL rfl) (SZ rfl) (AG rfl) (ZR rfl) rfl rfl rfl rfl rfl rfl rfl | exact PO_nilCheck rfl rfl | exact PO_conv_int rfl (IK rfl) (IK rfl) rfl)) | (apply POpsD_run rfl rfl; focus (first | exact Cond_c (PO_conv_int rfl (IK rfl) (IK rfl) rfl) | exact Cond_c (PO_makeFunc rfl) | exact Cond_c (PO_buildSlice rfl (EL rfl) (SZ rfl) (AG rfl) (ZR rfl) rfl rfl rfl rfl rfl rfl rfl) | exact Cond_f (fun _ => PO_conv_int rfl (IK rfl) (IK rfl) rfl) | exact Cond_f (fun _ => PO_makeFunc rfl) | exact Cond_f (fun _ => PO_buildSlice rfl (EL rfl) (SZ rfl) (AG rfl) (ZR rfl) rfl rfl rfl rfl rfl rfl rfl) | exact Cond_f (fun _ => PO_nilCheck rfl rfl) | exact Cond_f (fun _ => PO_conv_int rfl (IK rfl) (IK rfl) rfl))) | refine PW_seq ?_ | refine PW_region ?_ | refine PW_draw_all mixed (by kernel_rfl) ?_ | refine PW_block ?_ | (refine PW_skip ?_; try show PW _ _ _ _ _ _) | (refine PW_exit ?_; try show PW _ _ _ _ _ _) | (refine PW_ret ?_; try show PW _ _ _ _ _ _) | refine PW_cond_t rfl ?_ | refine PW_cond_f rfl ?_))
        refine ⟨k + 1, hk8, by omega, SlotsOk.le ⟨.inl rfl, .inl (by rw [outR, if_neg hd]; rfl), .inl (congrArg (fun x => PV.g (.int .i64 x)) (wrap64 (by omega))), trivial⟩, HLe.refl _⟩
    · have hk8 : k = 32 := by have := of_decide_eq_false h; omega
      subst hk8
      (repeat (first | (refine POps_nil ?_; try show PW _ _ _ _ _ _) | (refine POpsD_nil ?_; try show PW _ _ _ _ _ _) | refine runO_ok tabOk 300 rfl rfl ?_ | refine runO_ok tabOk 6 rfl rfl ?_ | refine runO_ok tabOk 1 rfl rfl ?_ | refine runD_ok tabOk 300 rfl rfl ?_ | refine runD_ok tabOk 6 rfl rfl ?_ | refine runD_ok tabOk 1 rfl rfl ?_ | (apply POps_run rfl rfl; focus (first | exact PO_conv_int rfl (IK rfl) (IK rfl) rfl | exact PO_makeFunc rfl | exact PO_buildSlice rfl (EL rfl) (SZ rfl) (AG rfl) (ZR rfl) rfl rfl rfl rfl rfl rfl rfl | exact PO_nilCheck rfl rfl | exact PO_conv_int rfl (IK rfl) (IK rfl) rfl)) | (apply POpsD_run rfl rfl; focus (first | exact Cond_c (PO_conv_int rfl (IK rfl) (IK rfl) rfl) | exact Cond_c (PO_makeFunc rfl) | exact Cond_c (PO_buildSlice rfl (EL rfl) (SZ rfl) (AG rfl) (ZR rfl) rfl rfl rfl rfl rfl rfl rfl) | exact Cond_f (fun _ => PO_conv_int rfl (IK rfl) (IK rfl) rfl) | exact Cond_f (fun _ => PO_makeFunc rfl) | exact Cond_f (fun _ => PO_buildSlice rfl (EL rfl) (SZ rfl) (AG rfl) (ZR rfl) rfl rfl rfl rfl rfl rfl rfl) | exact Cond_f (fun _ => PO_nilCheck rfl rfl) | exact Cond_f (fun _ => PO_conv_int rfl (IK rfl) (IK rfl) rfl))) | refine PW_seq ?_ | refine PW_region ?_ | refine PW_draw_all mixed (by kernel_rfl) ?_ | refine PW_block ?_ | (refine PW_skip ?_; try show PW _ _ _ _ _ _) | (refine PW_exit ?_; try show PW _ _ _ _ _ _) | (refine PW_ret ?_; try show PW _ _ _ _ _ _) | refine PW_cond_t rfl ?_ | refine PW_cond_f rfl ?_))
      (first | refine Ret_int (resVs_cons resV_tmp resVs_nil) rfl ?_ | refine Ret_bool (resVs_cons resV_tmp resVs_nil) rfl ?_ | refine Ret_g (resVs_cons resV_tmp resVs_nil) rfl ?_ | refine Ret_int (resVs_cons (resV_agg (AG rfl) (SZ rfl) rfl rfl (Nat.le_of_ble_eq_true rfl)) resVs_nil) rfl ?_ | refine Ret_bool (resVs_cons (resV_agg (AG rfl) (SZ rfl) rfl rfl (Nat.le_of_ble_eq_true rfl)) resVs_nil) rfl ?_ | refine Ret_g (resVs_cons (resV_agg (AG rfl) (SZ rfl) rfl rfl (Nat.le_of_ble_eq_true rfl)) resVs_nil) rfl ?_)
      rw [hout]
end Go.Proofs.Ytffpepmfdjjjaaa
