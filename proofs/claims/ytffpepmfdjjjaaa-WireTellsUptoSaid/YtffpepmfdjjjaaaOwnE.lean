/- The law WireTells holds in the second form: for every tree and any bytes of bulk at most 1048576 the program returns true, and leaves them as they were. Conditions: the bulk's bound, nothing else. -/
import Derived.Test.YtffpepmfdjjjaaaOwnD
namespace Go.Proofs.Ytffpepmfdjjjaaa
open Go.Pure
attribute [local irreducible] PW POps POpsD PO PC Cond

def cntH (n : Int) : PH := ⟨[[.g (.int .i64 n)]], [], []⟩
set_option maxRecDepth 100000 in
set_option maxHeartbeats 8000000 in
theorem look_ref : ∀ (m : Nat) (t : Tr) (d n : Int), SizeOf.sizeOf t ≤ m → (0 ≤ n ∧ n ≤ 5000) → (0 ≤ d ∧ d ≤ 41) → t.ok →
    PC Try.prog 51 [.ptr 0 0, .g t.g, .g (.int .i64 d)] (cntH n) (.g (.int .i64 (look d n t).1)) (cntH (look d n t).2)
  | 0, t, d, n, hm, _, _, _ => by cases t; simp at hm
  | m + 1, .mk tag tn text kids, d, n, hm, hn, hd, hk => by
    have hw := wrap64 (n := n + 1) (by omega)
    simp only [Tr.ok, maxLen] at hk
    refine PC_of_PW Try.func51 rfl rfl (rs := _) rfl (Nat.le_of_ble_eq_true (by kernel_rfl)) ?_
    (repeat' (first | (first | (refine POps_nil ?_; try show PW _ _ _ _ _ _) | (refine POpsD_nil ?_; try show PW _ _ _ _ _ _) | refine runO_ok tabOk 300 rfl rfl ?_ | refine runO_ok tabOk 6 rfl rfl ?_ | refine runO_ok tabOk 1 rfl rfl ?_ | refine runD_ok tabOk 300 rfl rfl ?_ | refine runD_ok tabOk 6 rfl rfl ?_ | refine runD_ok tabOk 1 rfl rfl ?_ | (apply POps_run rfl rfl; focus (first | exact PO_conv_int rfl (IK rfl) (IK rfl) rfl | exact PO_makeFunc rfl | exact PO_buildSlice rfl (EL rfl) (SZ rfl) (AG rfl) (ZR rfl) rfl rfl rfl rfl rfl rfl rfl | exact PO_nilCheck rfl rfl | exact PO_conv_int rfl (IK rfl) (IK rfl) rfl)) | (apply POpsD_run rfl rfl; focus (first | exact Cond_c (PO_conv_int rfl (IK rfl) (IK rfl) rfl) | exact Cond_c (PO_makeFunc rfl) | exact Cond_c (PO_buildSlice rfl (EL rfl) (SZ rfl) (AG rfl) (ZR rfl) rfl rfl rfl rfl rfl rfl rfl) | exact Cond_f (fun _ => PO_conv_int rfl (IK rfl) (IK rfl) rfl) | exact Cond_f (fun _ => PO_makeFunc rfl) | exact Cond_f (fun _ => PO_buildSlice rfl (EL rfl) (SZ rfl) (AG rfl) (ZR rfl) rfl rfl rfl rfl rfl rfl rfl) | exact Cond_f (fun _ => PO_nilCheck rfl rfl) | exact Cond_f (fun _ => PO_conv_int rfl (IK rfl) (IK rfl) rfl))) | refine PW_seq_unless [6] rfl ?_ | refine PW_region ?_ | refine PW_draw_all mixed (by kernel_rfl) ?_ | refine PW_block ?_ | (refine PW_skip ?_; try show PW _ _ _ _ _ _) | (refine PW_exit ?_; try show PW _ _ _ _ _ _) | (refine PW_ret ?_; try show PW _ _ _ _ _ _) | refine PW_cond_t rfl ?_ | refine PW_cond_f rfl ?_) | refine POps_split rfl rfl (fun h => ?_) (fun h => ?_) | refine POpsD_split rfl rfl (fun h => ?_) (fun h => ?_) | refine PW_cond rfl (fun h => ?_) (fun h => ?_)))
    · have h5 : 5000 < n + 1 := by have := of_decide_eq_true h; rw [hw] at this; exact this
      (first | refine Ret_box (resRs_cons resV_tmp resRs_nil) rfl rfl rfl rfl rfl rfl rfl rfl rfl ?_ ?_ ?_ rfl | refine Ret_box (resRs_cons (resV_agg (AG rfl) (SZ rfl) rfl rfl (Nat.le_of_ble_eq_true rfl)) resRs_nil) rfl rfl rfl rfl rfl rfl rfl rfl rfl ?_ ?_ ?_ rfl | refine Ret_box (resRs_cons resV_tmp (resRs_cons resV_tmp resRs_nil)) rfl rfl rfl rfl rfl rfl rfl rfl rfl ?_ ?_ ?_ rfl | refine Ret_box (resRs_cons (resV_agg (AG rfl) (SZ rfl) rfl rfl (Nat.le_of_ble_eq_true rfl)) (resRs_cons resV_tmp resRs_nil)) rfl rfl rfl rfl rfl rfl rfl rfl rfl ?_ ?_ ?_ rfl)
      · simp [look, h5, constG]
      · simp [look, h5, cntH, hw]
      · rfl
    · rename_i q
      have h5 : ¬ 5000 < n + 1 := by have := of_decide_eq_false q; rw [hw] at this; exact this
      have h6 : 40 < d := of_decide_eq_true h
      (first | refine Ret_box (resRs_cons resV_tmp resRs_nil) rfl rfl rfl rfl rfl rfl rfl rfl rfl ?_ ?_ ?_ rfl | refine Ret_box (resRs_cons (resV_agg (AG rfl) (SZ rfl) rfl rfl (Nat.le_of_ble_eq_true rfl)) resRs_nil) rfl rfl rfl rfl rfl rfl rfl rfl rfl ?_ ?_ ?_ rfl | refine Ret_box (resRs_cons resV_tmp (resRs_cons resV_tmp resRs_nil)) rfl rfl rfl rfl rfl rfl rfl rfl rfl ?_ ?_ ?_ rfl | refine Ret_box (resRs_cons (resV_agg (AG rfl) (SZ rfl) rfl rfl (Nat.le_of_ble_eq_true rfl)) (resRs_cons resV_tmp resRs_nil)) rfl rfl rfl rfl rfl rfl rfl rfl rfl ?_ ?_ ?_ rfl)
      · simp [look, h6, constG]
      · simp [look, h6, cntH, hw]
      · rfl
    · rename_i q1 q2
      have h5 : ¬ 5000 < n + 1 := by have := of_decide_eq_false q1; rw [hw] at this; exact this
      have h6 : ¬ 40 < d := of_decide_eq_false q2
      have h7 : tag < 0 := of_decide_eq_true h
      (first | refine Ret_box (resRs_cons resV_tmp resRs_nil) rfl rfl rfl rfl rfl rfl rfl rfl rfl ?_ ?_ ?_ rfl | refine Ret_box (resRs_cons (resV_agg (AG rfl) (SZ rfl) rfl rfl (Nat.le_of_ble_eq_true rfl)) resRs_nil) rfl rfl rfl rfl rfl rfl rfl rfl rfl ?_ ?_ ?_ rfl | refine Ret_box (resRs_cons resV_tmp (resRs_cons resV_tmp resRs_nil)) rfl rfl rfl rfl rfl rfl rfl rfl rfl ?_ ?_ ?_ rfl | refine Ret_box (resRs_cons (resV_agg (AG rfl) (SZ rfl) rfl rfl (Nat.le_of_ble_eq_true rfl)) (resRs_cons resV_tmp resRs_nil)) rfl rfl rfl rfl rfl rfl rfl rfl rfl ?_ ?_ ?_ rfl)
      · simp [look, h5, h6, h7, constG]
      · simp [look, h5, h6, h7, cntH, hw]
      · rfl
    · rename_i q1 q2 q3
      have h5 : ¬ 5000 < n + 1 := by have := of_decide_eq_false q1; rw [hw] at this; exact this
      have h6 : ¬ 40 < d := of_decide_eq_false q2
      have h7 : ¬ tag < 0 := of_decide_eq_false q3
      have h8 : 255 < tag := of_decide_eq_true h
      (first | refine Ret_box (resRs_cons resV_tmp resRs_nil) rfl rfl rfl rfl rfl rfl rfl rfl rfl ?_ ?_ ?_ rfl | refine Ret_box (resRs_cons (resV_agg (AG rfl) (SZ rfl) rfl rfl (Nat.le_of_ble_eq_true rfl)) resRs_nil) rfl rfl rfl rfl rfl rfl rfl rfl rfl ?_ ?_ ?_ rfl | refine Ret_box (resRs_cons resV_tmp (resRs_cons resV_tmp resRs_nil)) rfl rfl rfl rfl rfl rfl rfl rfl rfl ?_ ?_ ?_ rfl | refine Ret_box (resRs_cons (resV_agg (AG rfl) (SZ rfl) rfl rfl (Nat.le_of_ble_eq_true rfl)) (resRs_cons resV_tmp resRs_nil)) rfl rfl rfl rfl rfl rfl rfl rfl rfl ?_ ?_ ?_ rfl)
      · simp [look, h5, h6, h8, constG]
      · simp [look, h5, h6, h8, cntH, hw]
      · rfl
    · rename_i q1 q2 q3
      have h5 : ¬ 5000 < n + 1 := by have := of_decide_eq_false q1; rw [hw] at this; exact this
      have h6 : ¬ 40 < d := of_decide_eq_false q2
      have h7 : ¬ tag < 0 := of_decide_eq_false q3
      have h8 : ¬ 255 < tag := of_decide_eq_false h
      have hlook : look d n (.mk tag tn text kids) = looks (d + 1) (n + 1) kids := by simp [look, h5, h6, h7, h8]
      clear h q1 q2 q3
      (repeat (first | (refine POps_nil ?_; try show PW _ _ _ _ _ _) | (refine POpsD_nil ?_; try show PW _ _ _ _ _ _) | refine runO_ok tabOk 300 rfl rfl ?_ | refine runO_ok tabOk 6 rfl rfl ?_ | refine runO_ok tabOk 1 rfl rfl ?_ | refine runD_ok tabOk 300 rfl rfl ?_ | refine runD_ok tabOk 6 rfl rfl ?_ | refine runD_ok tabOk 1 rfl rfl ?_ | (apply POps_run rfl rfl; focus (first | exact PO_conv_int rfl (IK rfl) (IK rfl) rfl | exact PO_makeFunc rfl | exact PO_buildSlice rfl (EL rfl) (SZ rfl) (AG rfl) (ZR rfl) rfl rfl rfl rfl rfl rfl rfl | exact PO_nilCheck rfl rfl | exact PO_conv_int rfl (IK rfl) (IK rfl) rfl)) | (apply POpsD_run rfl rfl; focus (first | exact Cond_c (PO_conv_int rfl (IK rfl) (IK rfl) rfl) | exact Cond_c (PO_makeFunc rfl) | exact Cond_c (PO_buildSlice rfl (EL rfl) (SZ rfl) (AG rfl) (ZR rfl) rfl rfl rfl rfl rfl rfl rfl) | exact Cond_f (fun _ => PO_conv_int rfl (IK rfl) (IK rfl) rfl) | exact Cond_f (fun _ => PO_makeFunc rfl) | exact Cond_f (fun _ => PO_buildSlice rfl (EL rfl) (SZ rfl) (AG rfl) (ZR rfl) rfl rfl rfl rfl rfl rfl rfl) | exact Cond_f (fun _ => PO_nilCheck rfl rfl) | exact Cond_f (fun _ => PO_conv_int rfl (IK rfl) (IK rfl) rfl))) | refine PW_seq ?_ | refine PW_region ?_ | refine PW_draw_all mixed (by kernel_rfl) ?_ | refine PW_block ?_ | (refine PW_skip ?_; try show PW _ _ _ _ _ _) | (refine PW_exit ?_; try show PW _ _ _ _ _ _) | (refine PW_ret ?_; try show PW _ _ _ _ _ _) | refine PW_cond_t rfl ?_ | refine PW_cond_f rfl ?_))
      refine PW_loop_cut (S := Nat × Int) (fun s => [(0, .ptr 0 0), (2, .g (.int .i64 d)), (35, .g (.sl (Tr.gs kids))), (36, .g (.int .i64 kids.length)), (37, .g (.int .i64 s.1))])
        (fun s => ⟨[[.g (.int .i64 s.2)], [.g (.int .i64 tag), .g (.int .i64 tn), .g (.str text), .g (.sl (Tr.gs kids))]], [], []⟩)
        (fun s => s.1 ≤ kids.length ∧ (0 ≤ s.2 ∧ s.2 ≤ 5000) ∧ looks (d + 1) s.2 (kids.drop s.1) = looks (d + 1) (n + 1) kids) (fun s => kids.length - s.1) (0, n + 1) ⟨Nat.zero_le _, by omega, rfl⟩
        (SlotsOk.le ⟨.inl rfl, .inl rfl, .inl rfl, .inl (congrArg (fun k : Nat => PV.g (.int .i64 k)) (gs_len kids)), .inl rfl, trivial⟩) (HLe.of_eq (congrArg (fun z => (⟨[[.g (.int .i64 z)], _], [], []⟩ : PH)) hw)) (fun _ => rfl) (fun s hs => ?_)
      obtain ⟨i, n1⟩ := s
      obtain ⟨hi, hn1, hl⟩ := hs
      dsimp only at hi hn1 hl
      (repeat (first | (refine POps_nil ?_; try show PW _ _ _ _ _ _) | (refine POpsD_nil ?_; try show PW _ _ _ _ _ _) | refine runO_ok tabOk 300 rfl rfl ?_ | refine runO_ok tabOk 6 rfl rfl ?_ | refine runO_ok tabOk 1 rfl rfl ?_ | refine runD_ok tabOk 300 rfl rfl ?_ | refine runD_ok tabOk 6 rfl rfl ?_ | refine runD_ok tabOk 1 rfl rfl ?_ | (apply POps_run rfl rfl; focus (first | exact PO_conv_int rfl (IK rfl) (IK rfl) rfl | exact PO_makeFunc rfl | exact PO_buildSlice rfl (EL rfl) (SZ rfl) (AG rfl) (ZR rfl) rfl rfl rfl rfl rfl rfl rfl | exact PO_nilCheck rfl rfl | exact PO_conv_int rfl (IK rfl) (IK rfl) rfl)) | (apply POpsD_run rfl rfl; focus (first | exact Cond_c (PO_conv_int rfl (IK rfl) (IK rfl) rfl) | exact Cond_c (PO_makeFunc rfl) | exact Cond_c (PO_buildSlice rfl (EL rfl) (SZ rfl) (AG rfl) (ZR rfl) rfl rfl rfl rfl rfl rfl rfl) | exact Cond_f (fun _ => PO_conv_int rfl (IK rfl) (IK rfl) rfl) | exact Cond_f (fun _ => PO_makeFunc rfl) | exact Cond_f (fun _ => PO_buildSlice rfl (EL rfl) (SZ rfl) (AG rfl) (ZR rfl) rfl rfl rfl rfl rfl rfl rfl) | exact Cond_f (fun _ => PO_nilCheck rfl rfl) | exact Cond_f (fun _ => PO_conv_int rfl (IK rfl) (IK rfl) rfl))) | refine PW_seq ?_ | refine PW_region ?_ | refine PW_draw_all mixed (by kernel_rfl) ?_ | refine PW_block ?_ | (refine PW_skip ?_; try show PW _ _ _ _ _ _) | (refine PW_exit ?_; try show PW _ _ _ _ _ _) | (refine PW_ret ?_; try show PW _ _ _ _ _ _) | refine PW_cond_t rfl ?_ | refine PW_cond_f rfl ?_))
      (first | refine POps_split rfl rfl (fun h => ?_) (fun h => ?_) | refine POpsD_split rfl rfl (fun h => ?_) (fun h => ?_) | refine PW_cond rfl (fun h => ?_) (fun h => ?_))
      · have hlt : i < kids.length := by have := of_decide_eq_true h; dsimp only at this; omega
        have hg := gs_get hlt
        have hdr : kids.drop i = kids[i] :: kids.drop (i + 1) := List.drop_eq_getElem_cons hlt
        have hsz := kid_size hlt tag tn text
        have hI := look_ref m kids[i] (d + 1) n1 (by omega) hn1 (by omega) (oks_get hlt hk.2)
        rw [← wrap64 (n := d + 1) (by omega)] at hI
        generalize hkid : kids[i] = kid at hg hI hdr
        rw [wrap64 (n := d + 1) (by omega)] at hI
        obtain ⟨ta, tb, tc, td⟩ := kid
        have hI' : PC Try.prog 51 [.ptr 0 0, .g (Tr.mk ta tb tc td).g, .g (.int .i64 (IntKind.i64.wrap (d + 1)))] (cntH n1) (.g (.int .i64 (look (d + 1) n1 (.mk ta tb tc td)).1)) (cntH (look (d + 1) n1 (.mk ta tb tc td)).2) := by
          rw [wrap64 (by omega)]; exact hI
        (repeat (first | (refine POps_nil ?_; try show PW _ _ _ _ _ _) | (refine POpsD_nil ?_; try show PW _ _ _ _ _ _) | refine runO_ok tabOk 300 rfl rfl ?_ | refine runO_ok tabOk 6 rfl rfl ?_ | refine runO_ok tabOk 1 rfl rfl ?_ | refine runD_ok tabOk 300 rfl rfl ?_ | refine runD_ok tabOk 6 rfl rfl ?_ | refine runD_ok tabOk 1 rfl rfl ?_ | (apply POps_run rfl rfl; focus (first | exact call_box [] rfl rfl (EN rfl) (hI') rfl rfl rfl rfl rfl rfl rfl rfl rfl rfl rfl | exact PO_indexAddr rfl (EL rfl) (SZ rfl) rfl rfl (Int.natCast_nonneg _) hg rfl | exact PO_conv_int rfl (IK rfl) (IK rfl) rfl | exact PO_makeFunc rfl | exact PO_buildSlice rfl (EL rfl) (SZ rfl) (AG rfl) (ZR rfl) rfl rfl rfl rfl rfl rfl rfl | exact PO_nilCheck rfl rfl | exact PO_conv_int rfl (IK rfl) (IK rfl) rfl)) | (apply POpsD_run rfl rfl; focus (first | exact Cond_c (call_box [] rfl rfl (EN rfl) (hI') rfl rfl rfl rfl rfl rfl rfl rfl rfl rfl rfl) | exact Cond_c (PO_indexAddr rfl (EL rfl) (SZ rfl) rfl rfl (Int.natCast_nonneg _) hg rfl) | exact Cond_c (PO_conv_int rfl (IK rfl) (IK rfl) rfl) | exact Cond_c (PO_makeFunc rfl) | exact Cond_c (PO_buildSlice rfl (EL rfl) (SZ rfl) (AG rfl) (ZR rfl) rfl rfl rfl rfl rfl rfl rfl) | exact Cond_f (fun _ => call_box [] rfl rfl (EN rfl) (hI') rfl rfl rfl rfl rfl rfl rfl rfl rfl rfl rfl) | exact Cond_f (fun _ => PO_indexAddr rfl (EL rfl) (SZ rfl) rfl rfl (Int.natCast_nonneg _) hg rfl) | exact Cond_f (fun _ => PO_conv_int rfl (IK rfl) (IK rfl) rfl) | exact Cond_f (fun _ => PO_makeFunc rfl) | exact Cond_f (fun _ => PO_buildSlice rfl (EL rfl) (SZ rfl) (AG rfl) (ZR rfl) rfl rfl rfl rfl rfl rfl rfl) | exact Cond_f (fun _ => PO_nilCheck rfl rfl) | exact Cond_f (fun _ => PO_conv_int rfl (IK rfl) (IK rfl) rfl))) | refine PW_seq ?_ | refine PW_region ?_ | refine PW_draw_all mixed (by kernel_rfl) ?_ | refine PW_block ?_ | (refine PW_skip ?_; try show PW _ _ _ _ _ _) | (refine PW_exit ?_; try show PW _ _ _ _ _ _) | (refine PW_ret ?_; try show PW _ _ _ _ _ _) | refine PW_cond_t rfl ?_ | refine PW_cond_f rfl ?_))
        (first | refine POps_split rfl rfl (fun h => ?_) (fun h => ?_) | refine POpsD_split rfl rfl (fun h => ?_) (fun h => ?_) | refine PW_cond rfl (fun h => ?_) (fun h => ?_))
        · have he : ¬ (look (d + 1) n1 (.mk ta tb tc td)).1 = 0 := by simpa [bne] using h
          have hlk : looks (d + 1) (n + 1) kids = look (d + 1) n1 (.mk ta tb tc td) := by rw [← hl, hdr, looks, if_neg he]
          (repeat (first | (refine POps_nil ?_; try show PW _ _ _ _ _ _) | (refine POpsD_nil ?_; try show PW _ _ _ _ _ _) | refine runO_ok tabOk 300 rfl rfl ?_ | refine runO_ok tabOk 6 rfl rfl ?_ | refine runO_ok tabOk 1 rfl rfl ?_ | refine runD_ok tabOk 300 rfl rfl ?_ | refine runD_ok tabOk 6 rfl rfl ?_ | refine runD_ok tabOk 1 rfl rfl ?_ | (apply POps_run rfl rfl; focus (first | exact PO_conv_int rfl (IK rfl) (IK rfl) rfl | exact PO_makeFunc rfl | exact PO_buildSlice rfl (EL rfl) (SZ rfl) (AG rfl) (ZR rfl) rfl rfl rfl rfl rfl rfl rfl | exact PO_nilCheck rfl rfl | exact PO_conv_int rfl (IK rfl) (IK rfl) rfl)) | (apply POpsD_run rfl rfl; focus (first | exact Cond_c (PO_conv_int rfl (IK rfl) (IK rfl) rfl) | exact Cond_c (PO_makeFunc rfl) | exact Cond_c (PO_buildSlice rfl (EL rfl) (SZ rfl) (AG rfl) (ZR rfl) rfl rfl rfl rfl rfl rfl rfl) | exact Cond_f (fun _ => PO_conv_int rfl (IK rfl) (IK rfl) rfl) | exact Cond_f (fun _ => PO_makeFunc rfl) | exact Cond_f (fun _ => PO_buildSlice rfl (EL rfl) (SZ rfl) (AG rfl) (ZR rfl) rfl rfl rfl rfl rfl rfl rfl) | exact Cond_f (fun _ => PO_nilCheck rfl rfl) | exact Cond_f (fun _ => PO_conv_int rfl (IK rfl) (IK rfl) rfl))) | refine PW_seq ?_ | refine PW_region ?_ | refine PW_draw_all mixed (by kernel_rfl) ?_ | refine PW_block ?_ | (refine PW_skip ?_; try show PW _ _ _ _ _ _) | (refine PW_exit ?_; try show PW _ _ _ _ _ _) | (refine PW_ret ?_; try show PW _ _ _ _ _ _) | refine PW_cond_t rfl ?_ | refine PW_cond_f rfl ?_))
          (first | refine Ret_box (resRs_cons resV_tmp resRs_nil) rfl rfl rfl rfl rfl rfl rfl rfl rfl ?_ ?_ ?_ rfl | refine Ret_box (resRs_cons (resV_agg (AG rfl) (SZ rfl) rfl rfl (Nat.le_of_ble_eq_true rfl)) resRs_nil) rfl rfl rfl rfl rfl rfl rfl rfl rfl ?_ ?_ ?_ rfl | refine Ret_box (resRs_cons resV_tmp (resRs_cons resV_tmp resRs_nil)) rfl rfl rfl rfl rfl rfl rfl rfl rfl ?_ ?_ ?_ rfl | refine Ret_box (resRs_cons (resV_agg (AG rfl) (SZ rfl) rfl rfl (Nat.le_of_ble_eq_true rfl)) (resRs_cons resV_tmp resRs_nil)) rfl rfl rfl rfl rfl rfl rfl rfl rfl ?_ ?_ ?_ rfl)
          · rw [hlook, hlk]
          · rw [hlook, hlk]; rfl
          · rfl
        · have he : (look (d + 1) n1 (.mk ta tb tc td)).1 = 0 := by simpa [bne] using h
          have hle := look_le n1 (.mk ta tb tc td) hn1.1 he
          (repeat (first | (refine POps_nil ?_; try show PW _ _ _ _ _ _) | (refine POpsD_nil ?_; try show PW _ _ _ _ _ _) | refine runO_ok tabOk 300 rfl rfl ?_ | refine runO_ok tabOk 6 rfl rfl ?_ | refine runO_ok tabOk 1 rfl rfl ?_ | refine runD_ok tabOk 300 rfl rfl ?_ | refine runD_ok tabOk 6 rfl rfl ?_ | refine runD_ok tabOk 1 rfl rfl ?_ | (apply POps_run rfl rfl; focus (first | exact PO_conv_int rfl (IK rfl) (IK rfl) rfl | exact PO_makeFunc rfl | exact PO_buildSlice rfl (EL rfl) (SZ rfl) (AG rfl) (ZR rfl) rfl rfl rfl rfl rfl rfl rfl | exact PO_nilCheck rfl rfl | exact PO_conv_int rfl (IK rfl) (IK rfl) rfl)) | (apply POpsD_run rfl rfl; focus (first | exact Cond_c (PO_conv_int rfl (IK rfl) (IK rfl) rfl) | exact Cond_c (PO_makeFunc rfl) | exact Cond_c (PO_buildSlice rfl (EL rfl) (SZ rfl) (AG rfl) (ZR rfl) rfl rfl rfl rfl rfl rfl rfl) | exact Cond_f (fun _ => PO_conv_int rfl (IK rfl) (IK rfl) rfl) | exact Cond_f (fun _ => PO_makeFunc rfl) | exact Cond_f (fun _ => PO_buildSlice rfl (EL rfl) (SZ rfl) (AG rfl) (ZR rfl) rfl rfl rfl rfl rfl rfl rfl) | exact Cond_f (fun _ => PO_nilCheck rfl rfl) | exact Cond_f (fun _ => PO_conv_int rfl (IK rfl) (IK rfl) rfl))) | refine PW_seq ?_ | refine PW_region ?_ | refine PW_draw_all mixed (by kernel_rfl) ?_ | refine PW_block ?_ | (refine PW_skip ?_; try show PW _ _ _ _ _ _) | (refine PW_exit ?_; try show PW _ _ _ _ _ _) | (refine PW_ret ?_; try show PW _ _ _ _ _ _) | refine PW_cond_t rfl ?_ | refine PW_cond_f rfl ?_))
          refine ⟨(i + 1, (look (d + 1) n1 (.mk ta tb tc td)).2), ⟨hlt, hle, ?_⟩, by dsimp only; omega, SlotsOk.le ⟨.inl rfl, .inl rfl, .inl rfl, .inl rfl, .inl (congrArg (fun k => PV.g (.int .i64 k)) (wrap64 (by dsimp only; omega))), trivial⟩, Drops.mk [_] [] [] rfl⟩
          rw [← hl, hdr, looks, if_pos he]
      · have hi' : i = kids.length := by have := of_decide_eq_false h; dsimp only at this; omega
        subst hi'
        (repeat (first | (refine POps_nil ?_; try show PW _ _ _ _ _ _) | (refine POpsD_nil ?_; try show PW _ _ _ _ _ _) | refine runO_ok tabOk 300 rfl rfl ?_ | refine runO_ok tabOk 6 rfl rfl ?_ | refine runO_ok tabOk 1 rfl rfl ?_ | refine runD_ok tabOk 300 rfl rfl ?_ | refine runD_ok tabOk 6 rfl rfl ?_ | refine runD_ok tabOk 1 rfl rfl ?_ | (apply POps_run rfl rfl; focus (first | exact PO_conv_int rfl (IK rfl) (IK rfl) rfl | exact PO_makeFunc rfl | exact PO_buildSlice rfl (EL rfl) (SZ rfl) (AG rfl) (ZR rfl) rfl rfl rfl rfl rfl rfl rfl | exact PO_nilCheck rfl rfl | exact PO_conv_int rfl (IK rfl) (IK rfl) rfl)) | (apply POpsD_run rfl rfl; focus (first | exact Cond_c (PO_conv_int rfl (IK rfl) (IK rfl) rfl) | exact Cond_c (PO_makeFunc rfl) | exact Cond_c (PO_buildSlice rfl (EL rfl) (SZ rfl) (AG rfl) (ZR rfl) rfl rfl rfl rfl rfl rfl rfl) | exact Cond_f (fun _ => PO_conv_int rfl (IK rfl) (IK rfl) rfl) | exact Cond_f (fun _ => PO_makeFunc rfl) | exact Cond_f (fun _ => PO_buildSlice rfl (EL rfl) (SZ rfl) (AG rfl) (ZR rfl) rfl rfl rfl rfl rfl rfl rfl) | exact Cond_f (fun _ => PO_nilCheck rfl rfl) | exact Cond_f (fun _ => PO_conv_int rfl (IK rfl) (IK rfl) rfl))) | refine PW_seq ?_ | refine PW_region ?_ | refine PW_draw_all mixed (by kernel_rfl) ?_ | refine PW_block ?_ | (refine PW_skip ?_; try show PW _ _ _ _ _ _) | (refine PW_exit ?_; try show PW _ _ _ _ _ _) | (refine PW_ret ?_; try show PW _ _ _ _ _ _) | refine PW_cond_t rfl ?_ | refine PW_cond_f rfl ?_))
        (first | refine Ret_box (resRs_cons resV_tmp resRs_nil) rfl rfl rfl rfl rfl rfl rfl rfl rfl ?_ ?_ ?_ rfl | refine Ret_box (resRs_cons (resV_agg (AG rfl) (SZ rfl) rfl rfl (Nat.le_of_ble_eq_true rfl)) resRs_nil) rfl rfl rfl rfl rfl rfl rfl rfl rfl ?_ ?_ ?_ rfl | refine Ret_box (resRs_cons resV_tmp (resRs_cons resV_tmp resRs_nil)) rfl rfl rfl rfl rfl rfl rfl rfl rfl ?_ ?_ ?_ rfl | refine Ret_box (resRs_cons (resV_agg (AG rfl) (SZ rfl) rfl rfl (Nat.le_of_ble_eq_true rfl)) (resRs_cons resV_tmp resRs_nil)) rfl rfl rfl rfl rfl rfl rfl rfl rfl ?_ ?_ ?_ rfl)
        · rw [hlook, ← hl]; simp [looks, constG]
        · rw [hlook, ← hl]; simp [looks, cntH]
        · rfl
set_option maxRecDepth 100000 in
set_option maxHeartbeats 4000000 in
theorem wrong_ref (t : Tr) (hk : t.ok) : PC Try.prog 18 [.g t.g] ⟨[], [], []⟩ (.g (.int .i64 (wrongT t))) ⟨[], [], []⟩ := by
  have hb := look_ref _ t 1 0 (Nat.le_refl _) (by omega) (by omega) hk
  obtain ⟨tag, tn, text, kids⟩ := t
  refine PC_of_PW Try.func18 rfl rfl (rs := _) rfl (Nat.le_of_ble_eq_true (by kernel_rfl)) ?_
  (repeat (first | (refine POps_nil ?_; try show PW _ _ _ _ _ _) | (refine POpsD_nil ?_; try show PW _ _ _ _ _ _) | refine runO_ok tabOk 300 rfl rfl ?_ | refine runO_ok tabOk 6 rfl rfl ?_ | refine runO_ok tabOk 1 rfl rfl ?_ | refine runD_ok tabOk 300 rfl rfl ?_ | refine runD_ok tabOk 6 rfl rfl ?_ | refine runD_ok tabOk 1 rfl rfl ?_ | (apply POps_run rfl rfl; focus (first | exact call_box [] rfl rfl (EN rfl) (hb) rfl rfl rfl rfl rfl rfl rfl rfl rfl rfl rfl | exact PO_conv_int rfl (IK rfl) (IK rfl) rfl | exact PO_makeFunc rfl | exact PO_buildSlice rfl (EL rfl) (SZ rfl) (AG rfl) (ZR rfl) rfl rfl rfl rfl rfl rfl rfl | exact PO_nilCheck rfl rfl | exact PO_conv_int rfl (IK rfl) (IK rfl) rfl)) | (apply POpsD_run rfl rfl; focus (first | exact Cond_c (call_box [] rfl rfl (EN rfl) (hb) rfl rfl rfl rfl rfl rfl rfl rfl rfl rfl rfl) | exact Cond_c (PO_conv_int rfl (IK rfl) (IK rfl) rfl) | exact Cond_c (PO_makeFunc rfl) | exact Cond_c (PO_buildSlice rfl (EL rfl) (SZ rfl) (AG rfl) (ZR rfl) rfl rfl rfl rfl rfl rfl rfl) | exact Cond_f (fun _ => call_box [] rfl rfl (EN rfl) (hb) rfl rfl rfl rfl rfl rfl rfl rfl rfl rfl rfl) | exact Cond_f (fun _ => PO_conv_int rfl (IK rfl) (IK rfl) rfl) | exact Cond_f (fun _ => PO_makeFunc rfl) | exact Cond_f (fun _ => PO_buildSlice rfl (EL rfl) (SZ rfl) (AG rfl) (ZR rfl) rfl rfl rfl rfl rfl rfl rfl) | exact Cond_f (fun _ => PO_nilCheck rfl rfl) | exact Cond_f (fun _ => PO_conv_int rfl (IK rfl) (IK rfl) rfl))) | refine PW_seq ?_ | refine PW_region ?_ | refine PW_draw_all mixed (by kernel_rfl) ?_ | refine PW_block ?_ | (refine PW_skip ?_; try show PW _ _ _ _ _ _) | (refine PW_exit ?_; try show PW _ _ _ _ _ _) | (refine PW_ret ?_; try show PW _ _ _ _ _ _) | refine PW_cond_t rfl ?_ | refine PW_cond_f rfl ?_))
  (first | refine Ret_int (resVs_cons resV_tmp resVs_nil) rfl ?_ | refine Ret_bool (resVs_cons resV_tmp resVs_nil) rfl ?_ | refine Ret_g (resVs_cons resV_tmp resVs_nil) rfl ?_ | refine Ret_int (resVs_cons (resV_agg (AG rfl) (SZ rfl) rfl rfl (Nat.le_of_ble_eq_true rfl)) resVs_nil) rfl ?_ | refine Ret_bool (resVs_cons (resV_agg (AG rfl) (SZ rfl) rfl rfl (Nat.le_of_ble_eq_true rfl)) resVs_nil) rfl ?_ | refine Ret_g (resVs_cons (resV_agg (AG rfl) (SZ rfl) rfl rfl (Nat.le_of_ble_eq_true rfl)) resVs_nil) rfl ?_)
  rfl
end Go.Proofs.Ytffpepmfdjjjaaa

namespace Go.Proofs.Ytffpepmfdjjjaaa
open Go.Pure
attribute [local irreducible] PW POps POpsD PO PC Cond

theorem wfs_get : ∀ {l : List Tr} {i : Nat} (h : i < l.length), Tr.wfs l → (l[i]).wf
  | t :: r, 0, _, h => by simp only [Tr.wfs] at h; exact h.1
  | t :: r, i + 1, hi, h => by simp only [Tr.wfs] at h; have := wfs_get (l := r) (i := i) (by simpa using hi) h.2; simpa using this
set_option maxRecDepth 100000 in
set_option maxHeartbeats 8000000 in
theorem put_ref : ∀ (m : Nat) (t : Tr), SizeOf.sizeOf t ≤ m → t.ok → t.wf → (enc t).length ≤ 900000000 → PC Try.prog 53 [.g t.g] ⟨[], [], []⟩ (.own (bys (enc t)) 0) ⟨[], [(5, (enc t).length)], []⟩
  | 0, t, hm, _, _, _ => by cases t; simp at hm
  | m + 1, .mk tag tn text kids, hm, hk, hw, hb => by
    have hb' := hb
    simp only [enc, List.length_cons, List.length_append, Array.length_toList] at hb'
    have hts : text.data.size = text.size := rfl
    rw [hts] at hb'
    simp only [Tr.ok, maxLen] at hk
    simp only [Tr.wf] at hw
    have hke := encs_pos kids
    have n1 := signed_ref tn hw.2.1
    have n2 := number_ref text.size text.size (Nat.le_refl _) (by omega)
    have n3 := number_ref kids.length kids.length (Nat.le_refl _) (by omega)
    rw [← u64nat (n := text.size) (by omega)] at n2
    rw [← u64nat (n := kids.length) (by omega), ← gs_len kids] at n3
    have hdb : (IntKind.u8.wrap tag) = ((byteI tag).toNat : Int) := u8int tag
    refine PC_of_PW Try.func53 rfl rfl (rs := _) rfl (Nat.le_of_ble_eq_true (by kernel_rfl)) ?_
    (repeat (first | (refine POps_nil ?_; try show PW _ _ _ _ _ _) | (refine POpsD_nil ?_; try show PW _ _ _ _ _ _) | refine runO_ok tabOk 300 rfl rfl ?_ | refine runO_ok tabOk 6 rfl rfl ?_ | refine runO_ok tabOk 1 rfl rfl ?_ | refine runD_ok tabOk 300 rfl rfl ?_ | refine runD_ok tabOk 6 rfl rfl ?_ | refine runD_ok tabOk 1 rfl rfl ?_ | (apply POps_run rfl rfl; focus (first | exact PO_buildSlice_lit rfl (EL rfl) (SZ rfl) (AG rfl) (ZR rfl) rfl rfl rfl rfl rfl rfl rfl | exact call_pure rfl rfl (EN rfl) (n1) rfl rfl rfl | exact call_pure rfl rfl (EN rfl) (n2) rfl rfl rfl | exact call_pure rfl rfl (EN rfl) (n3) rfl rfl rfl | exact PO_appb_lit [byteI tag] (varint (fold64 tn)) rfl (EL rfl) (SZ rfl) (BY rfl) (ZR rfl) rfl (congrArg (fun z => PV.lit [GV.int .u8 z]) hdb) rfl rfl (varint_pos _) (by simp; omega) (by simp [maxLen]; omega) | exact PO_appb (varint text.size) rfl (EL rfl) (SZ rfl) (BY rfl) (ZR rfl) rfl rfl rfl rfl rfl (by simp; omega) (by simp [maxLen]; omega) | exact PO_apps rfl (EL rfl) (ST rfl) (SZ rfl) (BY rfl) (ZR rfl) rfl rfl rfl rfl (by simp; omega) (by simp [maxLen]; omega) | exact PO_appb (varint kids.length) rfl (EL rfl) (SZ rfl) (BY rfl) (ZR rfl) rfl rfl rfl rfl (congrArg (fun k => bys (varint k)) (gs_len kids)) (by simp; omega) (by simp [maxLen]; omega) | exact PO_conv_int rfl (IK rfl) (IK rfl) rfl | exact PO_makeFunc rfl | exact PO_buildSlice rfl (EL rfl) (SZ rfl) (AG rfl) (ZR rfl) rfl rfl rfl rfl rfl rfl rfl | exact PO_nilCheck rfl rfl | exact PO_conv_int rfl (IK rfl) (IK rfl) rfl)) | (apply POpsD_run rfl rfl; focus (first | exact Cond_c (PO_buildSlice_lit rfl (EL rfl) (SZ rfl) (AG rfl) (ZR rfl) rfl rfl rfl rfl rfl rfl rfl) | exact Cond_c (call_pure rfl rfl (EN rfl) (n1) rfl rfl rfl) | exact Cond_c (call_pure rfl rfl (EN rfl) (n2) rfl rfl rfl) | exact Cond_c (call_pure rfl rfl (EN rfl) (n3) rfl rfl rfl) | exact Cond_c (PO_appb_lit [byteI tag] (varint (fold64 tn)) rfl (EL rfl) (SZ rfl) (BY rfl) (ZR rfl) rfl (congrArg (fun z => PV.lit [GV.int .u8 z]) hdb) rfl rfl (varint_pos _) (by simp; omega) (by simp [maxLen]; omega)) | exact Cond_c (PO_appb (varint text.size) rfl (EL rfl) (SZ rfl) (BY rfl) (ZR rfl) rfl rfl rfl rfl rfl (by simp; omega) (by simp [maxLen]; omega)) | exact Cond_c (PO_apps rfl (EL rfl) (ST rfl) (SZ rfl) (BY rfl) (ZR rfl) rfl rfl rfl rfl (by simp; omega) (by simp [maxLen]; omega)) | exact Cond_c (PO_appb (varint kids.length) rfl (EL rfl) (SZ rfl) (BY rfl) (ZR rfl) rfl rfl rfl rfl (congrArg (fun k => bys (varint k)) (gs_len kids)) (by simp; omega) (by simp [maxLen]; omega)) | exact Cond_c (PO_conv_int rfl (IK rfl) (IK rfl) rfl) | exact Cond_c (PO_makeFunc rfl) | exact Cond_c (PO_buildSlice rfl (EL rfl) (SZ rfl) (AG rfl) (ZR rfl) rfl rfl rfl rfl rfl rfl rfl) | exact Cond_f (fun _ => PO_buildSlice_lit rfl (EL rfl) (SZ rfl) (AG rfl) (ZR rfl) rfl rfl rfl rfl rfl rfl rfl) | exact Cond_f (fun _ => call_pure rfl rfl (EN rfl) (n1) rfl rfl rfl) | exact Cond_f (fun _ => call_pure rfl rfl (EN rfl) (n2) rfl rfl rfl) | exact Cond_f (fun _ => call_pure rfl rfl (EN rfl) (n3) rfl rfl rfl) | exact Cond_f (fun _ => PO_appb_lit [byteI tag] (varint (fold64 tn)) rfl (EL rfl) (SZ rfl) (BY rfl) (ZR rfl) rfl (congrArg (fun z => PV.lit [GV.int .u8 z]) hdb) rfl rfl (varint_pos _) (by simp; omega) (by simp [maxLen]; omega)) | exact Cond_f (fun _ => PO_appb (varint text.size) rfl (EL rfl) (SZ rfl) (BY rfl) (ZR rfl) rfl rfl rfl rfl rfl (by simp; omega) (by simp [maxLen]; omega)) | exact Cond_f (fun _ => PO_apps rfl (EL rfl) (ST rfl) (SZ rfl) (BY rfl) (ZR rfl) rfl rfl rfl rfl (by simp; omega) (by simp [maxLen]; omega)) | exact Cond_f (fun _ => PO_appb (varint kids.length) rfl (EL rfl) (SZ rfl) (BY rfl) (ZR rfl) rfl rfl rfl rfl (congrArg (fun k => bys (varint k)) (gs_len kids)) (by simp; omega) (by simp [maxLen]; omega)) | exact Cond_f (fun _ => PO_conv_int rfl (IK rfl) (IK rfl) rfl) | exact Cond_f (fun _ => PO_makeFunc rfl) | exact Cond_f (fun _ => PO_buildSlice rfl (EL rfl) (SZ rfl) (AG rfl) (ZR rfl) rfl rfl rfl rfl rfl rfl rfl) | exact Cond_f (fun _ => PO_nilCheck rfl rfl) | exact Cond_f (fun _ => PO_conv_int rfl (IK rfl) (IK rfl) rfl))) | refine PW_seq ?_ | refine PW_region ?_ | refine PW_draw [0] mixed (by kernel_rfl) ?_ | refine PW_block ?_ | (refine PW_skip ?_; try show PW _ _ _ _ _ _) | (refine PW_exit ?_; try show PW _ _ _ _ _ _) | (refine PW_ret ?_; try show PW _ _ _ _ _ _) | refine PW_cond_t rfl ?_ | refine PW_cond_f rfl ?_))
    obtain ⟨hd, hhd⟩ : ∃ hd, [byteI tag] ++ varint (fold64 tn) ++ varint text.size ++ text.data.toList ++ varint kids.length = hd := ⟨_, rfl⟩
    have hdl : hd.length + (encs kids).length ≤ 900000000 := by rw [← hhd]; simp; omega
    have henc : enc (.mk tag tn text kids) = hd ++ encs kids := by rw [← hhd]; simp [enc]
    have h0 : [byteI tag] ++ varint (fold64 tn) ++ varint text.size ++ text.data.toList ++ varint kids.length = hd ++ encs (kids.take 0) := by rw [hhd]; simp [encs]
    refine PW_loop_cut (S := Nat) (fun i => [(3, .own (bys (hd ++ encs (kids.take i))) 0), (32, .g (.sl (Tr.gs kids))), (33, .g (.int .i64 kids.length)), (34, .g (.int .i64 i))])
      (fun i => ⟨[[.g (.int .i64 tag), .g (.int .i64 tn), .g (.str text), .g (.sl (Tr.gs kids))]], [(5, (hd ++ encs (kids.take i)).length)], []⟩)
      (fun i => i ≤ kids.length) (fun i => kids.length - i) 0 (Nat.zero_le _) ?_ ?_ (fun _ => rfl) (fun i hi => ?_)
    · exact SlotsOk.le ⟨.inl (congrArg (fun z => PV.own (bys z) 0) h0), .inl rfl, .inl (congrArg (fun k : Nat => PV.g (.int .i64 k)) (gs_len kids)), .inl rfl, trivial⟩
    · exact (HLe.of_eq (congrArg (fun z : List UInt8 => (⟨[[.g (.int .i64 tag), .g (.int .i64 tn), .g (.str text), .g (.sl (Tr.gs kids))]], [(5, z.length)], []⟩ : PH)) h0))
    (repeat (first | (refine POps_nil ?_; try show PW _ _ _ _ _ _) | (refine POpsD_nil ?_; try show PW _ _ _ _ _ _) | refine runO_ok tabOk 300 rfl rfl ?_ | refine runO_ok tabOk 6 rfl rfl ?_ | refine runO_ok tabOk 1 rfl rfl ?_ | refine runD_ok tabOk 300 rfl rfl ?_ | refine runD_ok tabOk 6 rfl rfl ?_ | refine runD_ok tabOk 1 rfl rfl ?_ | (apply POps_run rfl rfl; focus (first | exact PO_conv_int rfl (IK rfl) (IK rfl) rfl | exact PO_makeFunc rfl | exact PO_buildSlice rfl (EL rfl) (SZ rfl) (AG rfl) (ZR rfl) rfl rfl rfl rfl rfl rfl rfl | exact PO_nilCheck rfl rfl | exact PO_conv_int rfl (IK rfl) (IK rfl) rfl)) | (apply POpsD_run rfl rfl; focus (first | exact Cond_c (PO_conv_int rfl (IK rfl) (IK rfl) rfl) | exact Cond_c (PO_makeFunc rfl) | exact Cond_c (PO_buildSlice rfl (EL rfl) (SZ rfl) (AG rfl) (ZR rfl) rfl rfl rfl rfl rfl rfl rfl) | exact Cond_f (fun _ => PO_conv_int rfl (IK rfl) (IK rfl) rfl) | exact Cond_f (fun _ => PO_makeFunc rfl) | exact Cond_f (fun _ => PO_buildSlice rfl (EL rfl) (SZ rfl) (AG rfl) (ZR rfl) rfl rfl rfl rfl rfl rfl rfl) | exact Cond_f (fun _ => PO_nilCheck rfl rfl) | exact Cond_f (fun _ => PO_conv_int rfl (IK rfl) (IK rfl) rfl))) | refine PW_seq ?_ | refine PW_region ?_ | refine PW_draw_all mixed (by kernel_rfl) ?_ | refine PW_block ?_ | (refine PW_skip ?_; try show PW _ _ _ _ _ _) | (refine PW_exit ?_; try show PW _ _ _ _ _ _) | (refine PW_ret ?_; try show PW _ _ _ _ _ _) | refine PW_cond_t rfl ?_ | refine PW_cond_f rfl ?_))
    (first | refine POps_split rfl rfl (fun h => ?_) (fun h => ?_) | refine POpsD_split rfl rfl (fun h => ?_) (fun h => ?_) | refine PW_cond rfl (fun h => ?_) (fun h => ?_))
    · have hlt : i < kids.length := by have := of_decide_eq_true h; omega
      have hg := gs_get hlt
      have hsz := kid_size hlt tag tn text
      have hle := encs_le hlt
      have htk := encs_take hlt
      have hkw : (kids[i]).wf := wfs_get hlt hw.2.2
      have hI := put_ref m kids[i] (by omega) (oks_get hlt hk.2) hkw (by omega)
      generalize kids[i] = kid at hg hI hle htk
      obtain ⟨ta, tb, tc, td⟩ := kid
      (repeat (first | (refine POps_nil ?_; try show PW _ _ _ _ _ _) | (refine POpsD_nil ?_; try show PW _ _ _ _ _ _) | refine runO_ok tabOk 300 rfl rfl ?_ | refine runO_ok tabOk 6 rfl rfl ?_ | refine runO_ok tabOk 1 rfl rfl ?_ | refine runD_ok tabOk 300 rfl rfl ?_ | refine runD_ok tabOk 6 rfl rfl ?_ | refine runD_ok tabOk 1 rfl rfl ?_ | (apply POps_run rfl rfl; focus (first | exact call_box [] rfl rfl (EN rfl) (hI) rfl rfl rfl rfl rfl rfl rfl rfl rfl rfl rfl | exact PO_indexAddr rfl (EL rfl) (SZ rfl) rfl rfl (Int.natCast_nonneg _) hg rfl | exact PO_appb (enc (.mk ta tb tc td)) rfl (EL rfl) (SZ rfl) (BY rfl) (ZR rfl) rfl rfl rfl rfl rfl (by simp; omega) (by simp [maxLen]; omega) | exact PO_conv_int rfl (IK rfl) (IK rfl) rfl | exact PO_makeFunc rfl | exact PO_buildSlice rfl (EL rfl) (SZ rfl) (AG rfl) (ZR rfl) rfl rfl rfl rfl rfl rfl rfl | exact PO_nilCheck rfl rfl | exact PO_conv_int rfl (IK rfl) (IK rfl) rfl)) | (apply POpsD_run rfl rfl; focus (first | exact Cond_c (call_box [] rfl rfl (EN rfl) (hI) rfl rfl rfl rfl rfl rfl rfl rfl rfl rfl rfl) | exact Cond_c (PO_indexAddr rfl (EL rfl) (SZ rfl) rfl rfl (Int.natCast_nonneg _) hg rfl) | exact Cond_c (PO_appb (enc (.mk ta tb tc td)) rfl (EL rfl) (SZ rfl) (BY rfl) (ZR rfl) rfl rfl rfl rfl rfl (by simp; omega) (by simp [maxLen]; omega)) | exact Cond_c (PO_conv_int rfl (IK rfl) (IK rfl) rfl) | exact Cond_c (PO_makeFunc rfl) | exact Cond_c (PO_buildSlice rfl (EL rfl) (SZ rfl) (AG rfl) (ZR rfl) rfl rfl rfl rfl rfl rfl rfl) | exact Cond_f (fun _ => call_box [] rfl rfl (EN rfl) (hI) rfl rfl rfl rfl rfl rfl rfl rfl rfl rfl rfl) | exact Cond_f (fun _ => PO_indexAddr rfl (EL rfl) (SZ rfl) rfl rfl (Int.natCast_nonneg _) hg rfl) | exact Cond_f (fun _ => PO_appb (enc (.mk ta tb tc td)) rfl (EL rfl) (SZ rfl) (BY rfl) (ZR rfl) rfl rfl rfl rfl rfl (by simp; omega) (by simp [maxLen]; omega)) | exact Cond_f (fun _ => PO_conv_int rfl (IK rfl) (IK rfl) rfl) | exact Cond_f (fun _ => PO_makeFunc rfl) | exact Cond_f (fun _ => PO_buildSlice rfl (EL rfl) (SZ rfl) (AG rfl) (ZR rfl) rfl rfl rfl rfl rfl rfl rfl) | exact Cond_f (fun _ => PO_nilCheck rfl rfl) | exact Cond_f (fun _ => PO_conv_int rfl (IK rfl) (IK rfl) rfl))) | refine PW_seq ?_ | refine PW_region ?_ | refine PW_draw_all mixed (by kernel_rfl) ?_ | refine PW_block ?_ | (refine PW_skip ?_; try show PW _ _ _ _ _ _) | (refine PW_exit ?_; try show PW _ _ _ _ _ _) | (refine PW_ret ?_; try show PW _ _ _ _ _ _) | refine PW_cond_t rfl ?_ | refine PW_cond_f rfl ?_))
      refine ⟨i + 1, hlt, by omega, SlotsOk.le ⟨.inl (by rw [htk, ← List.append_assoc]; rfl), .inl rfl, .inl rfl, .inl (congrArg (fun x => PV.g (.int .i64 x)) (wrap64 (by omega))), trivial⟩, Drops.mk [[.g (.int .i64 ta), .g (.int .i64 tb), .g (.str tc), .g (.sl (Tr.gs td))]] [(5, (enc (.mk ta tb tc td)).length)] [] ?_⟩
      rw [htk, ← List.append_assoc]
      rfl
    · have hi' : i = kids.length := by have := of_decide_eq_false h; omega
      subst hi'
      have he : hd ++ encs (kids.take kids.length) = enc (.mk tag tn text kids) := by rw [henc, List.take_length]
      (repeat (first | (refine POps_nil ?_; try show PW _ _ _ _ _ _) | (refine POpsD_nil ?_; try show PW _ _ _ _ _ _) | refine runO_ok tabOk 300 rfl rfl ?_ | refine runO_ok tabOk 6 rfl rfl ?_ | refine runO_ok tabOk 1 rfl rfl ?_ | refine runD_ok tabOk 300 rfl rfl ?_ | refine runD_ok tabOk 6 rfl rfl ?_ | refine runD_ok tabOk 1 rfl rfl ?_ | (apply POps_run rfl rfl; focus (first | exact PO_conv_int rfl (IK rfl) (IK rfl) rfl | exact PO_makeFunc rfl | exact PO_buildSlice rfl (EL rfl) (SZ rfl) (AG rfl) (ZR rfl) rfl rfl rfl rfl rfl rfl rfl | exact PO_nilCheck rfl rfl | exact PO_conv_int rfl (IK rfl) (IK rfl) rfl)) | (apply POpsD_run rfl rfl; focus (first | exact Cond_c (PO_conv_int rfl (IK rfl) (IK rfl) rfl) | exact Cond_c (PO_makeFunc rfl) | exact Cond_c (PO_buildSlice rfl (EL rfl) (SZ rfl) (AG rfl) (ZR rfl) rfl rfl rfl rfl rfl rfl rfl) | exact Cond_f (fun _ => PO_conv_int rfl (IK rfl) (IK rfl) rfl) | exact Cond_f (fun _ => PO_makeFunc rfl) | exact Cond_f (fun _ => PO_buildSlice rfl (EL rfl) (SZ rfl) (AG rfl) (ZR rfl) rfl rfl rfl rfl rfl rfl rfl) | exact Cond_f (fun _ => PO_nilCheck rfl rfl) | exact Cond_f (fun _ => PO_conv_int rfl (IK rfl) (IK rfl) rfl))) | refine PW_seq ?_ | refine PW_region ?_ | refine PW_draw_all mixed (by kernel_rfl) ?_ | refine PW_block ?_ | (refine PW_skip ?_; try show PW _ _ _ _ _ _) | (refine PW_exit ?_; try show PW _ _ _ _ _ _) | (refine PW_ret ?_; try show PW _ _ _ _ _ _) | refine PW_cond_t rfl ?_ | refine PW_cond_f rfl ?_))
      (first | refine Ret_box (resRs_cons resV_tmp resRs_nil) rfl rfl rfl rfl rfl rfl rfl rfl rfl ?_ ?_ ?_ rfl | refine Ret_box (resRs_cons (resV_agg (AG rfl) (SZ rfl) rfl rfl (Nat.le_of_ble_eq_true rfl)) resRs_nil) rfl rfl rfl rfl rfl rfl rfl rfl rfl ?_ ?_ ?_ rfl | refine Ret_box (resRs_cons resV_tmp (resRs_cons resV_tmp resRs_nil)) rfl rfl rfl rfl rfl rfl rfl rfl rfl ?_ ?_ ?_ rfl | refine Ret_box (resRs_cons (resV_agg (AG rfl) (SZ rfl) rfl rfl (Nat.le_of_ble_eq_true rfl)) (resRs_cons resV_tmp resRs_nil)) rfl rfl rfl rfl rfl rfl rfl rfl rfl ?_ ?_ ?_ rfl)
      · rw [← he]
      · rfl
      · rw [← he]
end Go.Proofs.Ytffpepmfdjjjaaa

namespace Go.Proofs.Ytffpepmfdjjjaaa
open Go.Pure
attribute [local irreducible] PW POps POpsD PO PC Cond

set_option maxRecDepth 100000 in
set_option maxHeartbeats 4000000 in
theorem bytes_ref (tag tn : Int) (text : ByteArray) (kids : List Tr) (hk : (Tr.mk tag tn text kids).ok) (hw : (Tr.mk tag tn text kids).wf) (hb : (enc (.mk tag tn text kids)).length ≤ 900000000) :
    PC Try.prog 22 [.g (Tr.mk tag tn text kids).g] ⟨[], [], []⟩ (.tuple [.g (.sl (bys (bytesT (.mk tag tn text kids)).1)), .g (.int .i64 (bytesT (.mk tag tn text kids)).2)]) ⟨[], [], []⟩ := by
  have hwr := wrong_ref _ hk
  have hp := put_ref _ (Tr.mk tag tn text kids) (Nat.le_refl _) hk hw hb
  refine PC_of_PW Try.func22 rfl rfl (rs := _) rfl (Nat.le_of_ble_eq_true (by kernel_rfl)) ?_
  (repeat (first | (refine POps_nil ?_; try show PW _ _ _ _ _ _) | (refine POpsD_nil ?_; try show PW _ _ _ _ _ _) | refine runO_ok tabOk 300 rfl rfl ?_ | refine runO_ok tabOk 6 rfl rfl ?_ | refine runO_ok tabOk 1 rfl rfl ?_ | refine runD_ok tabOk 300 rfl rfl ?_ | refine runD_ok tabOk 6 rfl rfl ?_ | refine runD_ok tabOk 1 rfl rfl ?_ | (apply POps_run rfl rfl; focus (first | exact call_pure rfl rfl (EN rfl) (hwr) rfl rfl rfl | exact PO_conv_int rfl (IK rfl) (IK rfl) rfl | exact PO_makeFunc rfl | exact PO_buildSlice rfl (EL rfl) (SZ rfl) (AG rfl) (ZR rfl) rfl rfl rfl rfl rfl rfl rfl | exact PO_nilCheck rfl rfl | exact PO_conv_int rfl (IK rfl) (IK rfl) rfl)) | (apply POpsD_run rfl rfl; focus (first | exact Cond_c (call_pure rfl rfl (EN rfl) (hwr) rfl rfl rfl) | exact Cond_c (PO_conv_int rfl (IK rfl) (IK rfl) rfl) | exact Cond_c (PO_makeFunc rfl) | exact Cond_c (PO_buildSlice rfl (EL rfl) (SZ rfl) (AG rfl) (ZR rfl) rfl rfl rfl rfl rfl rfl rfl) | exact Cond_f (fun _ => call_pure rfl rfl (EN rfl) (hwr) rfl rfl rfl) | exact Cond_f (fun _ => PO_conv_int rfl (IK rfl) (IK rfl) rfl) | exact Cond_f (fun _ => PO_makeFunc rfl) | exact Cond_f (fun _ => PO_buildSlice rfl (EL rfl) (SZ rfl) (AG rfl) (ZR rfl) rfl rfl rfl rfl rfl rfl rfl) | exact Cond_f (fun _ => PO_nilCheck rfl rfl) | exact Cond_f (fun _ => PO_conv_int rfl (IK rfl) (IK rfl) rfl))) | refine PW_seq ?_ | refine PW_region ?_ | refine PW_draw_all mixed (by kernel_rfl) ?_ | refine PW_block ?_ | (refine PW_skip ?_; try show PW _ _ _ _ _ _) | (refine PW_exit ?_; try show PW _ _ _ _ _ _) | (refine PW_ret ?_; try show PW _ _ _ _ _ _) | refine PW_cond_t rfl ?_ | refine PW_cond_f rfl ?_))
  (first | refine POps_split rfl rfl (fun h => ?_) (fun h => ?_) | refine POpsD_split rfl rfl (fun h => ?_) (fun h => ?_) | refine PW_cond rfl (fun h => ?_) (fun h => ?_))
  · have he : ¬ wrongT (.mk tag tn text kids) = 0 := by simpa [bne] using h
    (repeat (first | (refine POps_nil ?_; try show PW _ _ _ _ _ _) | (refine POpsD_nil ?_; try show PW _ _ _ _ _ _) | refine runO_ok tabOk 300 rfl rfl ?_ | refine runO_ok tabOk 6 rfl rfl ?_ | refine runO_ok tabOk 1 rfl rfl ?_ | refine runD_ok tabOk 300 rfl rfl ?_ | refine runD_ok tabOk 6 rfl rfl ?_ | refine runD_ok tabOk 1 rfl rfl ?_ | (apply POps_run rfl rfl; focus (first | exact PO_conv_int rfl (IK rfl) (IK rfl) rfl | exact PO_makeFunc rfl | exact PO_buildSlice rfl (EL rfl) (SZ rfl) (AG rfl) (ZR rfl) rfl rfl rfl rfl rfl rfl rfl | exact PO_nilCheck rfl rfl | exact PO_conv_int rfl (IK rfl) (IK rfl) rfl)) | (apply POpsD_run rfl rfl; focus (first | exact Cond_c (PO_conv_int rfl (IK rfl) (IK rfl) rfl) | exact Cond_c (PO_makeFunc rfl) | exact Cond_c (PO_buildSlice rfl (EL rfl) (SZ rfl) (AG rfl) (ZR rfl) rfl rfl rfl rfl rfl rfl rfl) | exact Cond_f (fun _ => PO_conv_int rfl (IK rfl) (IK rfl) rfl) | exact Cond_f (fun _ => PO_makeFunc rfl) | exact Cond_f (fun _ => PO_buildSlice rfl (EL rfl) (SZ rfl) (AG rfl) (ZR rfl) rfl rfl rfl rfl rfl rfl rfl) | exact Cond_f (fun _ => PO_nilCheck rfl rfl) | exact Cond_f (fun _ => PO_conv_int rfl (IK rfl) (IK rfl) rfl))) | refine PW_seq ?_ | refine PW_region ?_ | refine PW_draw_all mixed (by kernel_rfl) ?_ | refine PW_block ?_ | (refine PW_skip ?_; try show PW _ _ _ _ _ _) | (refine PW_exit ?_; try show PW _ _ _ _ _ _) | (refine PW_ret ?_; try show PW _ _ _ _ _ _) | refine PW_cond_t rfl ?_ | refine PW_cond_f rfl ?_))
    refine Ret_two (resVs_cons resV_tmp (resVs_cons resV_tmp resVs_nil)) rfl ?_ ?_
    · simp [bytesT, he, bys]
    · simp [bytesT, he]
  · have he : wrongT (.mk tag tn text kids) = 0 := by simpa [bne] using h
    have hsum := sum_ref (enc (.mk tag tn text kids)) (by omega)
    have hfour := four_ref (sumB (enc (.mk tag tn text kids)))
    (repeat (first | (refine POps_nil ?_; try show PW _ _ _ _ _ _) | (refine POpsD_nil ?_; try show PW _ _ _ _ _ _) | refine runO_ok tabOk 300 rfl rfl ?_ | refine runO_ok tabOk 6 rfl rfl ?_ | refine runO_ok tabOk 1 rfl rfl ?_ | refine runD_ok tabOk 300 rfl rfl ?_ | refine runD_ok tabOk 6 rfl rfl ?_ | refine runD_ok tabOk 1 rfl rfl ?_ | (apply POps_run rfl rfl; focus (first | exact call_box [] rfl rfl (EN rfl) (hp) rfl rfl rfl rfl rfl rfl rfl rfl rfl rfl rfl | exact PO_conv_int rfl (IK rfl) (IK rfl) rfl | exact PO_makeFunc rfl | exact PO_buildSlice rfl (EL rfl) (SZ rfl) (AG rfl) (ZR rfl) rfl rfl rfl rfl rfl rfl rfl | exact PO_nilCheck rfl rfl | exact PO_conv_int rfl (IK rfl) (IK rfl) rfl)) | (apply POpsD_run rfl rfl; focus (first | exact Cond_c (call_box [] rfl rfl (EN rfl) (hp) rfl rfl rfl rfl rfl rfl rfl rfl rfl rfl rfl) | exact Cond_c (PO_conv_int rfl (IK rfl) (IK rfl) rfl) | exact Cond_c (PO_makeFunc rfl) | exact Cond_c (PO_buildSlice rfl (EL rfl) (SZ rfl) (AG rfl) (ZR rfl) rfl rfl rfl rfl rfl rfl rfl) | exact Cond_f (fun _ => call_box [] rfl rfl (EN rfl) (hp) rfl rfl rfl rfl rfl rfl rfl rfl rfl rfl rfl) | exact Cond_f (fun _ => PO_conv_int rfl (IK rfl) (IK rfl) rfl) | exact Cond_f (fun _ => PO_makeFunc rfl) | exact Cond_f (fun _ => PO_buildSlice rfl (EL rfl) (SZ rfl) (AG rfl) (ZR rfl) rfl rfl rfl rfl rfl rfl rfl) | exact Cond_f (fun _ => PO_nilCheck rfl rfl) | exact Cond_f (fun _ => PO_conv_int rfl (IK rfl) (IK rfl) rfl))) | refine PW_seq ?_ | refine PW_region ?_ | refine PW_draw_all mixed (by kernel_rfl) ?_ | refine PW_block ?_ | (refine PW_skip ?_; try show PW _ _ _ _ _ _) | (refine PW_exit ?_; try show PW _ _ _ _ _ _) | (refine PW_ret ?_; try show PW _ _ _ _ _ _) | refine PW_cond_t rfl ?_ | refine PW_cond_f rfl ?_))
    (repeat (first | (refine POps_nil ?_; try show PW _ _ _ _ _ _) | (refine POpsD_nil ?_; try show PW _ _ _ _ _ _) | refine runO_ok tabOk 300 rfl rfl ?_ | refine runO_ok tabOk 6 rfl rfl ?_ | refine runO_ok tabOk 1 rfl rfl ?_ | refine runD_ok tabOk 300 rfl rfl ?_ | refine runD_ok tabOk 6 rfl rfl ?_ | refine runD_ok tabOk 1 rfl rfl ?_ | (apply POps_run rfl rfl; focus (first | exact call_pure rfl rfl (EN rfl) (hsum) rfl rfl rfl | exact call_pure rfl rfl (EN rfl) (hfour) rfl rfl rfl | exact PO_appb (four (sumB (enc (.mk tag tn text kids)))) rfl (EL rfl) (SZ rfl) (BY rfl) (ZR rfl) rfl rfl rfl rfl rfl (by simp [four]; omega) (by simp [four, maxLen]; omega) | exact PO_conv_int rfl (IK rfl) (IK rfl) rfl | exact PO_makeFunc rfl | exact PO_buildSlice rfl (EL rfl) (SZ rfl) (AG rfl) (ZR rfl) rfl rfl rfl rfl rfl rfl rfl | exact PO_nilCheck rfl rfl | exact PO_conv_int rfl (IK rfl) (IK rfl) rfl)) | (apply POpsD_run rfl rfl; focus (first | exact Cond_c (call_pure rfl rfl (EN rfl) (hsum) rfl rfl rfl) | exact Cond_c (call_pure rfl rfl (EN rfl) (hfour) rfl rfl rfl) | exact Cond_c (PO_appb (four (sumB (enc (.mk tag tn text kids)))) rfl (EL rfl) (SZ rfl) (BY rfl) (ZR rfl) rfl rfl rfl rfl rfl (by simp [four]; omega) (by simp [four, maxLen]; omega)) | exact Cond_c (PO_conv_int rfl (IK rfl) (IK rfl) rfl) | exact Cond_c (PO_makeFunc rfl) | exact Cond_c (PO_buildSlice rfl (EL rfl) (SZ rfl) (AG rfl) (ZR rfl) rfl rfl rfl rfl rfl rfl rfl) | exact Cond_f (fun _ => call_pure rfl rfl (EN rfl) (hsum) rfl rfl rfl) | exact Cond_f (fun _ => call_pure rfl rfl (EN rfl) (hfour) rfl rfl rfl) | exact Cond_f (fun _ => PO_appb (four (sumB (enc (.mk tag tn text kids)))) rfl (EL rfl) (SZ rfl) (BY rfl) (ZR rfl) rfl rfl rfl rfl rfl (by simp [four]; omega) (by simp [four, maxLen]; omega)) | exact Cond_f (fun _ => PO_conv_int rfl (IK rfl) (IK rfl) rfl) | exact Cond_f (fun _ => PO_makeFunc rfl) | exact Cond_f (fun _ => PO_buildSlice rfl (EL rfl) (SZ rfl) (AG rfl) (ZR rfl) rfl rfl rfl rfl rfl rfl rfl) | exact Cond_f (fun _ => PO_nilCheck rfl rfl) | exact Cond_f (fun _ => PO_conv_int rfl (IK rfl) (IK rfl) rfl))) | refine PW_seq ?_ | refine PW_region ?_ | refine PW_draw_all mixed (by kernel_rfl) ?_ | refine PW_block ?_ | (refine PW_skip ?_; try show PW _ _ _ _ _ _) | (refine PW_exit ?_; try show PW _ _ _ _ _ _) | (refine PW_ret ?_; try show PW _ _ _ _ _ _) | refine PW_cond_t rfl ?_ | refine PW_cond_f rfl ?_))
    have hlen : ((bys (enc (.mk tag tn text kids) ++ four (sumB (enc (.mk tag tn text kids))))).length : Int) = (enc (.mk tag tn text kids)).length + 4 := by
      rw [bys_len]; simp [four]
    (first | refine POps_split rfl rfl (fun h => ?_) (fun h => ?_) | refine POpsD_split rfl rfl (fun h => ?_) (fun h => ?_) | refine PW_cond rfl (fun h => ?_) (fun h => ?_))
    · have hgt : 100000 < (enc (.mk tag tn text kids)).length + 4 := by
        have := of_decide_eq_true h
        rw [hlen] at this
        omega
      (repeat (first | (refine POps_nil ?_; try show PW _ _ _ _ _ _) | (refine POpsD_nil ?_; try show PW _ _ _ _ _ _) | refine runO_ok tabOk 300 rfl rfl ?_ | refine runO_ok tabOk 6 rfl rfl ?_ | refine runO_ok tabOk 1 rfl rfl ?_ | refine runD_ok tabOk 300 rfl rfl ?_ | refine runD_ok tabOk 6 rfl rfl ?_ | refine runD_ok tabOk 1 rfl rfl ?_ | (apply POps_run rfl rfl; focus (first | exact PO_conv_int rfl (IK rfl) (IK rfl) rfl | exact PO_makeFunc rfl | exact PO_buildSlice rfl (EL rfl) (SZ rfl) (AG rfl) (ZR rfl) rfl rfl rfl rfl rfl rfl rfl | exact PO_nilCheck rfl rfl | exact PO_conv_int rfl (IK rfl) (IK rfl) rfl)) | (apply POpsD_run rfl rfl; focus (first | exact Cond_c (PO_conv_int rfl (IK rfl) (IK rfl) rfl) | exact Cond_c (PO_makeFunc rfl) | exact Cond_c (PO_buildSlice rfl (EL rfl) (SZ rfl) (AG rfl) (ZR rfl) rfl rfl rfl rfl rfl rfl rfl) | exact Cond_f (fun _ => PO_conv_int rfl (IK rfl) (IK rfl) rfl) | exact Cond_f (fun _ => PO_makeFunc rfl) | exact Cond_f (fun _ => PO_buildSlice rfl (EL rfl) (SZ rfl) (AG rfl) (ZR rfl) rfl rfl rfl rfl rfl rfl rfl) | exact Cond_f (fun _ => PO_nilCheck rfl rfl) | exact Cond_f (fun _ => PO_conv_int rfl (IK rfl) (IK rfl) rfl))) | refine PW_seq ?_ | refine PW_region ?_ | refine PW_draw_all mixed (by kernel_rfl) ?_ | refine PW_block ?_ | (refine PW_skip ?_; try show PW _ _ _ _ _ _) | (refine PW_exit ?_; try show PW _ _ _ _ _ _) | (refine PW_ret ?_; try show PW _ _ _ _ _ _) | refine PW_cond_t rfl ?_ | refine PW_cond_f rfl ?_))
      refine Ret_two (resVs_cons resV_tmp (resVs_cons resV_tmp resVs_nil)) rfl ?_ ?_
      · simp [bytesT, he, hgt, bys]
      · simp [bytesT, he, hgt, constG]
    · have hgt : ¬ 100000 < (enc (.mk tag tn text kids)).length + 4 := by
        have := of_decide_eq_false h
        rw [hlen] at this
        omega
      (repeat (first | (refine POps_nil ?_; try show PW _ _ _ _ _ _) | (refine POpsD_nil ?_; try show PW _ _ _ _ _ _) | refine runO_ok tabOk 300 rfl rfl ?_ | refine runO_ok tabOk 6 rfl rfl ?_ | refine runO_ok tabOk 1 rfl rfl ?_ | refine runD_ok tabOk 300 rfl rfl ?_ | refine runD_ok tabOk 6 rfl rfl ?_ | refine runD_ok tabOk 1 rfl rfl ?_ | (apply POps_run rfl rfl; focus (first | exact PO_conv_int rfl (IK rfl) (IK rfl) rfl | exact PO_makeFunc rfl | exact PO_buildSlice rfl (EL rfl) (SZ rfl) (AG rfl) (ZR rfl) rfl rfl rfl rfl rfl rfl rfl | exact PO_nilCheck rfl rfl | exact PO_conv_int rfl (IK rfl) (IK rfl) rfl)) | (apply POpsD_run rfl rfl; focus (first | exact Cond_c (PO_conv_int rfl (IK rfl) (IK rfl) rfl) | exact Cond_c (PO_makeFunc rfl) | exact Cond_c (PO_buildSlice rfl (EL rfl) (SZ rfl) (AG rfl) (ZR rfl) rfl rfl rfl rfl rfl rfl rfl) | exact Cond_f (fun _ => PO_conv_int rfl (IK rfl) (IK rfl) rfl) | exact Cond_f (fun _ => PO_makeFunc rfl) | exact Cond_f (fun _ => PO_buildSlice rfl (EL rfl) (SZ rfl) (AG rfl) (ZR rfl) rfl rfl rfl rfl rfl rfl rfl) | exact Cond_f (fun _ => PO_nilCheck rfl rfl) | exact Cond_f (fun _ => PO_conv_int rfl (IK rfl) (IK rfl) rfl))) | refine PW_seq ?_ | refine PW_region ?_ | refine PW_draw_all mixed (by kernel_rfl) ?_ | refine PW_block ?_ | (refine PW_skip ?_; try show PW _ _ _ _ _ _) | (refine PW_exit ?_; try show PW _ _ _ _ _ _) | (refine PW_ret ?_; try show PW _ _ _ _ _ _) | refine PW_cond_t rfl ?_ | refine PW_cond_f rfl ?_))
      refine Ret_two (resVs_cons resV_tmp (resVs_cons resV_tmp resVs_nil)) rfl ?_ ?_
      · simp [bytesT, he, hgt]
      · simp [bytesT, he, hgt, constG]
end Go.Proofs.Ytffpepmfdjjjaaa

namespace Go.Proofs.Ytffpepmfdjjjaaa
open Go.Pure
attribute [local irreducible] PW POps POpsD PO PC Cond

/-- The unit of the next seven bits, as the slow reading keeps it. -/
def unitN (k : Nat) : Nat := 2 ^ (7 * k) % 18446744073709551616
theorem val_step (x c k : Nat) : IntKind.u64.wrap ((x : Int) + IntKind.u64.wrap (((c : Nat) : Int).tmod 128 * ((unitN k : Nat) : Int))) = ((numVal k c x : Nat) : Int) := by
  rw [show (128 : Int) = ((128 : Nat) : Int) from rfl, tmodN, ← Int.natCast_mul, u64mod, ← Int.natCast_add, u64mod]
  congr 1
  unfold numVal unitN
  rw [Nat.add_mod, Nat.mod_mod, ← Nat.add_mod, Nat.add_mod, Nat.mul_mod, Nat.mod_mod, ← Nat.mul_mod, ← Nat.add_mod]
theorem unit_step (k : Nat) : IntKind.u64.wrap (((unitN k : Nat) : Int) * 128) = ((unitN (k + 1) : Nat) : Int) := by
  rw [show (128 : Int) = ((128 : Nat) : Int) from rfl, ← Int.natCast_mul, u64mod]
  congr 1
  unfold unitN
  rw [Nat.mul_mod, Nat.mod_mod, ← Nat.mul_mod, pow7, Nat.mul_comm]
theorem u64byte (c : UInt8) : IntKind.u64.wrap ((c.toNat : Nat) : Int) = ((c.toNat : Nat) : Int) := by
  have := c.toNat_lt
  rw [u64mod]; congr 1; omega
/-- A number that begins at p: itself, and where it ends; -1 where none is. -/
def numAt (l : List UInt8) (p : Nat) : Nat × Int :=
  if (numGo 10 0 0 (l.drop p) false).2.2 = true then (0, -1) else ((numGo 10 0 0 (l.drop p) false).1, (l.length : Int) - (numGo 10 0 0 (l.drop p) false).2.1.length)
theorem numGo_at {l : List UInt8} {p : Nat} (h : p < l.length) (n k x : Nat) : numGo (n + 1) k x (l.drop p) false =
    if l[p].toNat < 128 ∨ numBad k l[p].toNat false = true then (numVal k l[p].toNat x, l.drop (p + 1), numBad k l[p].toNat false) else numGo n (k + 1) (numVal k l[p].toNat x) (l.drop (p + 1)) (numBad k l[p].toNat false) := by
  rw [List.drop_eq_getElem_cons h]
  exact numGo_cons _ _ _ _ _ _ _ rfl
theorem numGo_out {l : List UInt8} {p : Nat} (h : l.length ≤ p) (n k x : Nat) : (numGo (n + 1) k x (l.drop p) false).2.2 = true := by
  rw [List.drop_of_length_le h]
  have hb : numBad k 0 true = true := by unfold numBad; split <;> rfl
  show (if (0 : Nat) < 128 ∨ numBad k 0 true = true then (numVal k 0 x, ([] : List UInt8), numBad k 0 true) else numGo n (k + 1) (numVal k 0 x) [] (numBad k 0 true)).2.2 = true
  rw [hb]; simp

set_option maxRecDepth 100000 in
set_option maxHeartbeats 8000000 in
theorem number_at (l : List UInt8) (p : Nat) (hl : l.length ≤ 1000000000) :
    PC Try.prog 85 [.g (.sl (bys l)), .g (.int .i64 p)] ⟨[], [], []⟩ (.tuple [.g (.int .u64 (numAt l p).1), .g (.int .i64 (numAt l p).2)]) ⟨[], [], []⟩ := by
  refine PC_of_PW Try.func85 rfl rfl (rs := _) rfl (Nat.le_of_ble_eq_true (by kernel_rfl)) ?_
  (repeat (first | (refine POps_nil ?_; try show PW _ _ _ _ _ _) | (refine POpsD_nil ?_; try show PW _ _ _ _ _ _) | refine runO_ok tabOk 300 rfl rfl ?_ | refine runO_ok tabOk 6 rfl rfl ?_ | refine runO_ok tabOk 1 rfl rfl ?_ | refine runD_ok tabOk 300 rfl rfl ?_ | refine runD_ok tabOk 6 rfl rfl ?_ | refine runD_ok tabOk 1 rfl rfl ?_ | (apply POps_run rfl rfl; focus (first | exact PO_conv_int rfl (IK rfl) (IK rfl) rfl | exact PO_makeFunc rfl | exact PO_buildSlice rfl (EL rfl) (SZ rfl) (AG rfl) (ZR rfl) rfl rfl rfl rfl rfl rfl rfl | exact PO_nilCheck rfl rfl | exact PO_conv_int rfl (IK rfl) (IK rfl) rfl)) | (apply POpsD_run rfl rfl; focus (first | exact Cond_c (PO_conv_int rfl (IK rfl) (IK rfl) rfl) | exact Cond_c (PO_makeFunc rfl) | exact Cond_c (PO_buildSlice rfl (EL rfl) (SZ rfl) (AG rfl) (ZR rfl) rfl rfl rfl rfl rfl rfl rfl) | exact Cond_f (fun _ => PO_conv_int rfl (IK rfl) (IK rfl) rfl) | exact Cond_f (fun _ => PO_makeFunc rfl) | exact Cond_f (fun _ => PO_buildSlice rfl (EL rfl) (SZ rfl) (AG rfl) (ZR rfl) rfl rfl rfl rfl rfl rfl rfl) | exact Cond_f (fun _ => PO_nilCheck rfl rfl) | exact Cond_f (fun _ => PO_conv_int rfl (IK rfl) (IK rfl) rfl))) | refine PW_seq ?_ | refine PW_region ?_ | refine PW_draw_all mixed (by kernel_rfl) ?_ | refine PW_block ?_ | (refine PW_skip ?_; try show PW _ _ _ _ _ _) | (refine PW_exit ?_; try show PW _ _ _ _ _ _) | (refine PW_ret ?_; try show PW _ _ _ _ _ _) | refine PW_cond_t rfl ?_ | refine PW_cond_f rfl ?_))
  refine PW_loop (S := Nat × Nat × Nat) (fun s => slots [(0, .g (.sl (bys l))), (1, .g (.int .i64 (s.2.2 : Int))), (6, .g (.int .u64 s.2.1)), (7, .g (.int .u64 (unitN s.1))), (8, .g (.int .i64 s.1))]) (fun _ => ⟨[], [], []⟩)
    (fun s => s.1 ≤ 10 ∧ s.2.2 ≤ p + s.1 ∧ numGo (10 - s.1) s.1 s.2.1 (l.drop s.2.2) false = numGo 10 0 0 (l.drop p) false) (fun s => 10 - s.1) (0, 0, p) ⟨Nat.zero_le _, Nat.le_refl _, rfl⟩
    (SlotsOk.le ⟨.inl rfl, .inl rfl, .inl rfl, .inl rfl, .inl rfl, trivial⟩) (HLe.refl _) (fun s hs => ?_)
  obtain ⟨k, x, q⟩ := s
  obtain ⟨hk, hq, hgo⟩ := hs
  dsimp only at hk hq hgo ⊢
  (repeat (first | (refine POps_nil ?_; try show PW _ _ _ _ _ _) | (refine POpsD_nil ?_; try show PW _ _ _ _ _ _) | refine runO_ok tabOk 300 rfl rfl ?_ | refine runO_ok tabOk 6 rfl rfl ?_ | refine runO_ok tabOk 1 rfl rfl ?_ | refine runD_ok tabOk 300 rfl rfl ?_ | refine runD_ok tabOk 6 rfl rfl ?_ | refine runD_ok tabOk 1 rfl rfl ?_ | (apply POps_run rfl rfl; focus (first | exact PO_conv_int rfl (IK rfl) (IK rfl) rfl | exact PO_makeFunc rfl | exact PO_buildSlice rfl (EL rfl) (SZ rfl) (AG rfl) (ZR rfl) rfl rfl rfl rfl rfl rfl rfl | exact PO_nilCheck rfl rfl | exact PO_conv_int rfl (IK rfl) (IK rfl) rfl)) | (apply POpsD_run rfl rfl; focus (first | exact Cond_c (PO_conv_int rfl (IK rfl) (IK rfl) rfl) | exact Cond_c (PO_makeFunc rfl) | exact Cond_c (PO_buildSlice rfl (EL rfl) (SZ rfl) (AG rfl) (ZR rfl) rfl rfl rfl rfl rfl rfl rfl) | exact Cond_f (fun _ => PO_conv_int rfl (IK rfl) (IK rfl) rfl) | exact Cond_f (fun _ => PO_makeFunc rfl) | exact Cond_f (fun _ => PO_buildSlice rfl (EL rfl) (SZ rfl) (AG rfl) (ZR rfl) rfl rfl rfl rfl rfl rfl rfl) | exact Cond_f (fun _ => PO_nilCheck rfl rfl) | exact Cond_f (fun _ => PO_conv_int rfl (IK rfl) (IK rfl) rfl))) | refine PW_seq ?_ | refine PW_region ?_ | refine PW_draw_all mixed (by kernel_rfl) ?_ | refine PW_block ?_ | (refine PW_skip ?_; try show PW _ _ _ _ _ _) | (refine PW_exit ?_; try show PW _ _ _ _ _ _) | (refine PW_ret ?_; try show PW _ _ _ _ _ _) | refine PW_cond_t rfl ?_ | refine PW_cond_f rfl ?_))
  (first | refine POps_split rfl rfl (fun h => ?_) (fun h => ?_) | refine POpsD_split rfl rfl (fun h => ?_) (fun h => ?_) | refine PW_cond rfl (fun h => ?_) (fun h => ?_))
  · have hk9 : k ≤ 9 := by have := of_decide_eq_true h; omega
    have hn : numGo 10 0 0 (l.drop p) false = numGo (10 - k - 1 + 1) k x (l.drop q) false := by rw [← hgo]; congr 1; omega
    clear h
    (repeat (first | (refine POps_nil ?_; try show PW _ _ _ _ _ _) | (refine POpsD_nil ?_; try show PW _ _ _ _ _ _) | refine runO_ok tabOk 300 rfl rfl ?_ | refine runO_ok tabOk 6 rfl rfl ?_ | refine runO_ok tabOk 1 rfl rfl ?_ | refine runD_ok tabOk 300 rfl rfl ?_ | refine runD_ok tabOk 6 rfl rfl ?_ | refine runD_ok tabOk 1 rfl rfl ?_ | (apply POps_run rfl rfl; focus (first | exact PO_conv_int rfl (IK rfl) (IK rfl) rfl | exact PO_makeFunc rfl | exact PO_buildSlice rfl (EL rfl) (SZ rfl) (AG rfl) (ZR rfl) rfl rfl rfl rfl rfl rfl rfl | exact PO_nilCheck rfl rfl | exact PO_conv_int rfl (IK rfl) (IK rfl) rfl)) | (apply POpsD_run rfl rfl; focus (first | exact Cond_c (PO_conv_int rfl (IK rfl) (IK rfl) rfl) | exact Cond_c (PO_makeFunc rfl) | exact Cond_c (PO_buildSlice rfl (EL rfl) (SZ rfl) (AG rfl) (ZR rfl) rfl rfl rfl rfl rfl rfl rfl) | exact Cond_f (fun _ => PO_conv_int rfl (IK rfl) (IK rfl) rfl) | exact Cond_f (fun _ => PO_makeFunc rfl) | exact Cond_f (fun _ => PO_buildSlice rfl (EL rfl) (SZ rfl) (AG rfl) (ZR rfl) rfl rfl rfl rfl rfl rfl rfl) | exact Cond_f (fun _ => PO_nilCheck rfl rfl) | exact Cond_f (fun _ => PO_conv_int rfl (IK rfl) (IK rfl) rfl))) | refine PW_seq ?_ | refine PW_region ?_ | refine PW_draw_all mixed (by kernel_rfl) ?_ | refine PW_block ?_ | (refine PW_skip ?_; try show PW _ _ _ _ _ _) | (refine PW_exit ?_; try show PW _ _ _ _ _ _) | (refine PW_ret ?_; try show PW _ _ _ _ _ _) | refine PW_cond_t rfl ?_ | refine PW_cond_f rfl ?_))
    (first | refine POps_split rfl rfl (fun h => ?_) (fun h => ?_) | refine POpsD_split rfl rfl (fun h => ?_) (fun h => ?_) | refine PW_cond rfl (fun h => ?_) (fun h => ?_))
    · have hout : l.length ≤ q := by have := of_decide_eq_true h; rw [bys_len] at this; omega
      have hb := numGo_out hout (10 - k - 1) k x
      (repeat (first | (refine POps_nil ?_; try show PW _ _ _ _ _ _) | (refine POpsD_nil ?_; try show PW _ _ _ _ _ _) | refine runO_ok tabOk 300 rfl rfl ?_ | refine runO_ok tabOk 6 rfl rfl ?_ | refine runO_ok tabOk 1 rfl rfl ?_ | refine runD_ok tabOk 300 rfl rfl ?_ | refine runD_ok tabOk 6 rfl rfl ?_ | refine runD_ok tabOk 1 rfl rfl ?_ | (apply POps_run rfl rfl; focus (first | exact PO_conv_int rfl (IK rfl) (IK rfl) rfl | exact PO_makeFunc rfl | exact PO_buildSlice rfl (EL rfl) (SZ rfl) (AG rfl) (ZR rfl) rfl rfl rfl rfl rfl rfl rfl | exact PO_nilCheck rfl rfl | exact PO_conv_int rfl (IK rfl) (IK rfl) rfl)) | (apply POpsD_run rfl rfl; focus (first | exact Cond_c (PO_conv_int rfl (IK rfl) (IK rfl) rfl) | exact Cond_c (PO_makeFunc rfl) | exact Cond_c (PO_buildSlice rfl (EL rfl) (SZ rfl) (AG rfl) (ZR rfl) rfl rfl rfl rfl rfl rfl rfl) | exact Cond_f (fun _ => PO_conv_int rfl (IK rfl) (IK rfl) rfl) | exact Cond_f (fun _ => PO_makeFunc rfl) | exact Cond_f (fun _ => PO_buildSlice rfl (EL rfl) (SZ rfl) (AG rfl) (ZR rfl) rfl rfl rfl rfl rfl rfl rfl) | exact Cond_f (fun _ => PO_nilCheck rfl rfl) | exact Cond_f (fun _ => PO_conv_int rfl (IK rfl) (IK rfl) rfl))) | refine PW_seq ?_ | refine PW_region ?_ | refine PW_draw_all mixed (by kernel_rfl) ?_ | refine PW_block ?_ | (refine PW_skip ?_; try show PW _ _ _ _ _ _) | (refine PW_exit ?_; try show PW _ _ _ _ _ _) | (refine PW_ret ?_; try show PW _ _ _ _ _ _) | refine PW_cond_t rfl ?_ | refine PW_cond_f rfl ?_))
      refine Ret_two (resVs_cons resV_tmp (resVs_cons resV_tmp resVs_nil)) rfl ?_ ?_
      · rw [numAt, hn, if_pos hb]; rfl
      · rw [numAt, hn, if_pos hb]; rfl
    · have hlt : q < l.length := by have := of_decide_eq_false h; rw [bys_len] at this; omega
      have hg := bys_get hlt
      rw [numGo_at hlt] at hn
      have hc8 := (l[q]).toNat_lt
      have hcv := u64byte l[q]
      have hv := val_step x l[q].toNat k
      have hu := unit_step k
      clear h
      generalize l[q] = ch at hg hn hc8 hcv hv
      (repeat (first | (refine POps_nil ?_; try show PW _ _ _ _ _ _) | (refine POpsD_nil ?_; try show PW _ _ _ _ _ _) | refine runO_ok tabOk 300 rfl rfl ?_ | refine runO_ok tabOk 6 rfl rfl ?_ | refine runO_ok tabOk 1 rfl rfl ?_ | refine runD_ok tabOk 300 rfl rfl ?_ | refine runD_ok tabOk 6 rfl rfl ?_ | refine runD_ok tabOk 1 rfl rfl ?_ | (apply POps_run rfl rfl; focus (first | exact PO_indexAddr rfl (EL rfl) (SZ rfl) rfl rfl (Int.natCast_nonneg _) hg rfl | exact PO_rem rfl rfl rfl (by decide) | exact PO_conv_int rfl (IK rfl) (IK rfl) rfl | exact PO_makeFunc rfl | exact PO_buildSlice rfl (EL rfl) (SZ rfl) (AG rfl) (ZR rfl) rfl rfl rfl rfl rfl rfl rfl | exact PO_nilCheck rfl rfl | exact PO_conv_int rfl (IK rfl) (IK rfl) rfl)) | (apply POpsD_run rfl rfl; focus (first | exact Cond_c (PO_indexAddr rfl (EL rfl) (SZ rfl) rfl rfl (Int.natCast_nonneg _) hg rfl) | exact Cond_c (PO_rem rfl rfl rfl (by decide)) | exact Cond_c (PO_conv_int rfl (IK rfl) (IK rfl) rfl) | exact Cond_c (PO_makeFunc rfl) | exact Cond_c (PO_buildSlice rfl (EL rfl) (SZ rfl) (AG rfl) (ZR rfl) rfl rfl rfl rfl rfl rfl rfl) | exact Cond_f (fun _ => PO_indexAddr rfl (EL rfl) (SZ rfl) rfl rfl (Int.natCast_nonneg _) hg rfl) | exact Cond_f (fun _ => PO_rem rfl rfl rfl (by decide)) | exact Cond_f (fun _ => PO_conv_int rfl (IK rfl) (IK rfl) rfl) | exact Cond_f (fun _ => PO_makeFunc rfl) | exact Cond_f (fun _ => PO_buildSlice rfl (EL rfl) (SZ rfl) (AG rfl) (ZR rfl) rfl rfl rfl rfl rfl rfl rfl) | exact Cond_f (fun _ => PO_nilCheck rfl rfl) | exact Cond_f (fun _ => PO_conv_int rfl (IK rfl) (IK rfl) rfl))) | refine PW_seq_unless [9] rfl ?_ | refine PW_region ?_ | refine PW_draw_all mixed (by kernel_rfl) ?_ | refine PW_block ?_ | (refine PW_skip ?_; try show PW _ _ _ _ _ _) | (refine PW_exit ?_; try show PW _ _ _ _ _ _) | (refine PW_ret ?_; try show PW _ _ _ _ _ _) | refine PW_cond_t rfl ?_ | refine PW_cond_f rfl ?_))
      (repeat' (first | (first | (refine POps_nil ?_; try show PW _ _ _ _ _ _) | (refine POpsD_nil ?_; try show PW _ _ _ _ _ _) | refine runO_ok tabOk 300 rfl rfl ?_ | refine runO_ok tabOk 6 rfl rfl ?_ | refine runO_ok tabOk 1 rfl rfl ?_ | refine runD_ok tabOk 300 rfl rfl ?_ | refine runD_ok tabOk 6 rfl rfl ?_ | refine runD_ok tabOk 1 rfl rfl ?_ | (apply POps_run rfl rfl; focus (first | exact PO_rem rfl rfl rfl (by decide) | exact PO_conv_int rfl (IK rfl) (IK rfl) rfl | exact PO_makeFunc rfl | exact PO_buildSlice rfl (EL rfl) (SZ rfl) (AG rfl) (ZR rfl) rfl rfl rfl rfl rfl rfl rfl | exact PO_nilCheck rfl rfl | exact PO_conv_int rfl (IK rfl) (IK rfl) rfl)) | (apply POpsD_run rfl rfl; focus (first | exact Cond_c (PO_rem rfl rfl rfl (by decide)) | exact Cond_c (PO_conv_int rfl (IK rfl) (IK rfl) rfl) | exact Cond_c (PO_makeFunc rfl) | exact Cond_c (PO_buildSlice rfl (EL rfl) (SZ rfl) (AG rfl) (ZR rfl) rfl rfl rfl rfl rfl rfl rfl) | exact Cond_f (fun _ => PO_rem rfl rfl rfl (by decide)) | exact Cond_f (fun _ => PO_conv_int rfl (IK rfl) (IK rfl) rfl) | exact Cond_f (fun _ => PO_makeFunc rfl) | exact Cond_f (fun _ => PO_buildSlice rfl (EL rfl) (SZ rfl) (AG rfl) (ZR rfl) rfl rfl rfl rfl rfl rfl rfl) | exact Cond_f (fun _ => PO_nilCheck rfl rfl) | exact Cond_f (fun _ => PO_conv_int rfl (IK rfl) (IK rfl) rfl))) | refine PW_seq ?_ | refine PW_region ?_ | refine PW_draw_all mixed (by kernel_rfl) ?_ | refine PW_block ?_ | (refine PW_skip ?_; try show PW _ _ _ _ _ _) | (refine PW_exit ?_; try show PW _ _ _ _ _ _) | (refine PW_ret ?_; try show PW _ _ _ _ _ _) | refine PW_cond_t rfl ?_ | refine PW_cond_f rfl ?_) | refine POps_split rfl rfl (fun h => ?_) (fun h => ?_) | refine POpsD_split rfl rfl (fun h => ?_) (fun h => ?_) | refine PW_cond rfl (fun h => ?_) (fun h => ?_)))
      all_goals ((try simp only [decide_eq_true_eq, decide_eq_false_iff_not, beq_iff_eq, bne_iff_ne, beq_eq_false_iff_ne, bne_eq_false_iff_eq, Bool.not_eq_true', Bool.not_eq_false', gt_iff_lt, ge_iff_le, ne_eq] at *))
      all_goals first
        | (exfalso; omega)
        | (have hbad : numBad k ch.toNat false = true := by unfold numBad; rw [if_pos (by omega)]
           rw [if_pos (.inr hbad)] at hn
           refine Ret_two (resVs_cons resV_tmp (resVs_cons resV_tmp resVs_nil)) rfl ?_ ?_
           · rw [numAt, hn, if_pos hbad]; rfl
           · rw [numAt, hn, if_pos hbad]; rfl)
        | (have hbad : numBad k ch.toNat false = false := by unfold numBad; rw [if_neg (by omega)]
           have h128 : ¬ ch.toNat < 128 := by omega
           rw [hbad, if_neg (by simp; omega)] at hn
           refine ⟨(k + 1, numVal k ch.toNat x, q + 1), ⟨by dsimp only; omega, by dsimp only; omega, ?_⟩, by dsimp only; omega, SlotsOk.le ⟨.inl rfl, .inl (congrArg (fun n => PV.g (.int .i64 n)) (wrap64 (by omega))), .inl (congrArg (fun n => PV.g (.int .u64 n)) ?_), .inl (congrArg (fun n => PV.g (.int .u64 n)) hu), .inl (congrArg (fun n => PV.g (.int .i64 n)) (wrap64 (by omega))), trivial⟩, HLe.refl _⟩
           · dsimp only; rw [hn]; congr 1
           · first | rw [hcv, hcv, hv] | rw [hcv, hv])
        | (have hbad : numBad k ch.toNat false = false := by unfold numBad; rw [if_neg (by omega)]
           have h128 : ch.toNat < 128 := by omega
           rw [if_pos (.inl h128), hbad] at hn
           refine Ret_two (resVs_cons resV_tmp (resVs_cons resV_tmp resVs_nil)) rfl ?_ ?_
           · rw [numAt, hn, if_neg (by simp), hcv, hv]
           · rw [numAt, hn, if_neg (by simp), wrap64 (by omega)]
             simp only [List.length_drop]
             congr 1
             omega)
  · have hk10 : k = 10 := by have := of_decide_eq_false h; omega
    subst hk10
    have hn : (numGo 10 0 0 (l.drop p) false).2.2 = true := by rw [← hgo]; rfl
    (repeat (first | (refine POps_nil ?_; try show PW _ _ _ _ _ _) | (refine POpsD_nil ?_; try show PW _ _ _ _ _ _) | refine runO_ok tabOk 300 rfl rfl ?_ | refine runO_ok tabOk 6 rfl rfl ?_ | refine runO_ok tabOk 1 rfl rfl ?_ | refine runD_ok tabOk 300 rfl rfl ?_ | refine runD_ok tabOk 6 rfl rfl ?_ | refine runD_ok tabOk 1 rfl rfl ?_ | (apply POps_run rfl rfl; focus (first | exact PO_conv_int rfl (IK rfl) (IK rfl) rfl | exact PO_makeFunc rfl | exact PO_buildSlice rfl (EL rfl) (SZ rfl) (AG rfl) (ZR rfl) rfl rfl rfl rfl rfl rfl rfl | exact PO_nilCheck rfl rfl | exact PO_conv_int rfl (IK rfl) (IK rfl) rfl)) | (apply POpsD_run rfl rfl; focus (first | exact Cond_c (PO_conv_int rfl (IK rfl) (IK rfl) rfl) | exact Cond_c (PO_makeFunc rfl) | exact Cond_c (PO_buildSlice rfl (EL rfl) (SZ rfl) (AG rfl) (ZR rfl) rfl rfl rfl rfl rfl rfl rfl) | exact Cond_f (fun _ => PO_conv_int rfl (IK rfl) (IK rfl) rfl) | exact Cond_f (fun _ => PO_makeFunc rfl) | exact Cond_f (fun _ => PO_buildSlice rfl (EL rfl) (SZ rfl) (AG rfl) (ZR rfl) rfl rfl rfl rfl rfl rfl rfl) | exact Cond_f (fun _ => PO_nilCheck rfl rfl) | exact Cond_f (fun _ => PO_conv_int rfl (IK rfl) (IK rfl) rfl))) | refine PW_seq ?_ | refine PW_region ?_ | refine PW_draw_all mixed (by kernel_rfl) ?_ | refine PW_block ?_ | (refine PW_skip ?_; try show PW _ _ _ _ _ _) | (refine PW_exit ?_; try show PW _ _ _ _ _ _) | (refine PW_ret ?_; try show PW _ _ _ _ _ _) | refine PW_cond_t rfl ?_ | refine PW_cond_f rfl ?_))
    refine Ret_two (resVs_cons resV_tmp (resVs_cons resV_tmp resVs_nil)) rfl ?_ ?_
    · rw [numAt, if_pos hn]; rfl
    · rw [numAt, if_pos hn]; rfl
end Go.Proofs.Ytffpepmfdjjjaaa

/- Plain laws: reading by place is reading what is left. -/
namespace Go.Proofs.Ytffpepmfdjjjaaa
open Go.Pure

theorem drop_back {l a r : List UInt8} {p : Nat} (hp : p ≤ l.length) (h : l.drop p = a ++ r) : p + a.length ≤ l.length ∧ r = l.drop (p + a.length) := by
  constructor
  · have := congrArg List.length h; simp at this; omega
  · rw [← List.drop_drop, h, List.drop_left]
theorem trip {α : Type} {r : α × List UInt8 × Bool} (h : r.2.2 = false) : r = (r.1, r.2.1, false) := by
  obtain ⟨a, b, c⟩ := r
  dsimp only at h
  rw [h]
theorem numAt_cases (l : List UInt8) (p : Nat) (hp : p ≤ l.length) : (numAt l p = (0, -1) ∧ (numGo 10 0 0 (l.drop p) false).2.2 = true) ∨
    ∃ x q : Nat, numAt l p = (x, (q : Int)) ∧ p < q ∧ q ≤ l.length ∧ x < 2 ^ 64 ∧ numGo 10 0 0 (l.drop p) false = (x, l.drop q, false) := by
  cases hb : (numGo 10 0 0 (l.drop p) false).2.2 with
  | true => exact .inl ⟨by rw [numAt, if_pos hb], rfl⟩
  | false =>
    have he : numGo 10 0 0 (l.drop p) false = ((numGo 10 0 0 (l.drop p) false).1, (numGo 10 0 0 (l.drop p) false).2.1, false) := trip hb
    have hlt := numGo_lt 10 0 0 (l.drop p) false
    have hat : numAt l p = ((numGo 10 0 0 (l.drop p) false).1, (l.length : Int) - (numGo 10 0 0 (l.drop p) false).2.1.length) := by rw [numAt, if_neg (by rw [hb]; decide)]
    generalize (numGo 10 0 0 (l.drop p) false).1 = x at he hlt hat
    generalize (numGo 10 0 0 (l.drop p) false).2.1 = r at he hat
    have hw := num_was he
    obtain ⟨h1, h2⟩ := drop_back hp hw
    have hv := varint_pos x
    have hr : r.length = l.length - (p + (varint x).length) := by rw [h2]; simp
    refine .inr ⟨x, p + (varint x).length, ?_, by omega, h1, hlt, by rw [he, h2]⟩
    rw [hat, hr]
    congr 1
    omega

/-- A tree that begins at p, and where it ends; -1 where none is. -/
def treeAt (f : Nat) (l : List UInt8) (p : Nat) : Tr × Int :=
  if (treeGo f (l.drop p) false).2.2 = true then (noTree, -1) else ((treeGo f (l.drop p) false).1, (l.length : Int) - (treeGo f (l.drop p) false).2.1.length)
theorem treeAt_cases (f : Nat) (l : List UInt8) (p : Nat) (hp : p ≤ l.length) : (treeAt f l p = (noTree, -1) ∧ (treeGo f (l.drop p) false).2.2 = true) ∨
    ∃ (t : Tr) (q : Nat), treeAt f l p = (t, (q : Int)) ∧ p < q ∧ q ≤ l.length ∧ treeGo f (l.drop p) false = (t, l.drop q, false) := by
  cases hb : (treeGo f (l.drop p) false).2.2 with
  | true => exact .inl ⟨by rw [treeAt, if_pos hb], rfl⟩
  | false =>
    have he : treeGo f (l.drop p) false = ((treeGo f (l.drop p) false).1, (treeGo f (l.drop p) false).2.1, false) := trip hb
    have hat : treeAt f l p = ((treeGo f (l.drop p) false).1, (l.length : Int) - (treeGo f (l.drop p) false).2.1.length) := by rw [treeAt, if_neg (by rw [hb]; decide)]
    generalize (treeGo f (l.drop p) false).1 = t at he hat
    generalize (treeGo f (l.drop p) false).2.1 = r at he hat
    obtain ⟨_, hw, _⟩ := tree_was _ _ _ _ _ he
    obtain ⟨h1, h2⟩ := drop_back hp hw
    have hv := enc_pos t
    have hr : r.length = l.length - (p + (enc t).length) := by rw [h2]; simp
    refine .inr ⟨t, p + (enc t).length, ?_, by omega, h1, by rw [he, h2]⟩
    rw [hat, hr]
    congr 1
    omega

section
variable {l : List UInt8} {p q q2 q3 x n m f : Nat}
theorem treeGo_at (h : p < l.length) : treeGo (f + 1) (l.drop p) false =
    (.mk l[p].toNat (unfold64 (numGo 10 0 0 (l.drop (p + 1)) false).1)
      ⟨((cntGo 1 (numGo 10 0 0 (l.drop (p + 1)) false).2.1 (numGo 10 0 0 (l.drop (p + 1)) false).2.2).2.1.take (cntGo 1 (numGo 10 0 0 (l.drop (p + 1)) false).2.1 (numGo 10 0 0 (l.drop (p + 1)) false).2.2).1).toArray⟩
      (kidsGo (treeGo f) (cntGo 4 ((cntGo 1 (numGo 10 0 0 (l.drop (p + 1)) false).2.1 (numGo 10 0 0 (l.drop (p + 1)) false).2.2).2.1.drop (cntGo 1 (numGo 10 0 0 (l.drop (p + 1)) false).2.1 (numGo 10 0 0 (l.drop (p + 1)) false).2.2).1) (cntGo 1 (numGo 10 0 0 (l.drop (p + 1)) false).2.1 (numGo 10 0 0 (l.drop (p + 1)) false).2.2).2.2).1
        (cntGo 4 ((cntGo 1 (numGo 10 0 0 (l.drop (p + 1)) false).2.1 (numGo 10 0 0 (l.drop (p + 1)) false).2.2).2.1.drop (cntGo 1 (numGo 10 0 0 (l.drop (p + 1)) false).2.1 (numGo 10 0 0 (l.drop (p + 1)) false).2.2).1) (cntGo 1 (numGo 10 0 0 (l.drop (p + 1)) false).2.1 (numGo 10 0 0 (l.drop (p + 1)) false).2.2).2.2).2.1
        (cntGo 4 ((cntGo 1 (numGo 10 0 0 (l.drop (p + 1)) false).2.1 (numGo 10 0 0 (l.drop (p + 1)) false).2.2).2.1.drop (cntGo 1 (numGo 10 0 0 (l.drop (p + 1)) false).2.1 (numGo 10 0 0 (l.drop (p + 1)) false).2.2).1) (cntGo 1 (numGo 10 0 0 (l.drop (p + 1)) false).2.1 (numGo 10 0 0 (l.drop (p + 1)) false).2.2).2.2).2.2).1,
      (kidsGo (treeGo f) (cntGo 4 ((cntGo 1 (numGo 10 0 0 (l.drop (p + 1)) false).2.1 (numGo 10 0 0 (l.drop (p + 1)) false).2.2).2.1.drop (cntGo 1 (numGo 10 0 0 (l.drop (p + 1)) false).2.1 (numGo 10 0 0 (l.drop (p + 1)) false).2.2).1) (cntGo 1 (numGo 10 0 0 (l.drop (p + 1)) false).2.1 (numGo 10 0 0 (l.drop (p + 1)) false).2.2).2.2).1
        (cntGo 4 ((cntGo 1 (numGo 10 0 0 (l.drop (p + 1)) false).2.1 (numGo 10 0 0 (l.drop (p + 1)) false).2.2).2.1.drop (cntGo 1 (numGo 10 0 0 (l.drop (p + 1)) false).2.1 (numGo 10 0 0 (l.drop (p + 1)) false).2.2).1) (cntGo 1 (numGo 10 0 0 (l.drop (p + 1)) false).2.1 (numGo 10 0 0 (l.drop (p + 1)) false).2.2).2.2).2.1
        (cntGo 4 ((cntGo 1 (numGo 10 0 0 (l.drop (p + 1)) false).2.1 (numGo 10 0 0 (l.drop (p + 1)) false).2.2).2.1.drop (cntGo 1 (numGo 10 0 0 (l.drop (p + 1)) false).2.1 (numGo 10 0 0 (l.drop (p + 1)) false).2.2).1) (cntGo 1 (numGo 10 0 0 (l.drop (p + 1)) false).2.1 (numGo 10 0 0 (l.drop (p + 1)) false).2.2).2.2).2.2).2) := by
  rw [List.drop_eq_getElem_cons h, treeGo, if_neg (by decide)]
  rfl
theorem kb (r : Nat × List UInt8 × Bool) (h : r.2.2 = true) (f : Nat) : (kidsGo (treeGo f) r.1 r.2.1 r.2.2).2.2 = true := by
  rw [h]; exact kids_bad (tree_bad f) _ _
theorem cb (least : Nat) (l : List UInt8) (b : Bool) (h : b = true) : (cntGo least l b).2.2 = true := by rw [h]; exact cnt_bad _ _
theorem cnt_num (least : Nat) (l : List UInt8) (h : (numGo 10 0 0 l false).2.2 = true) : (cntGo least l false).2.2 = true := by
  unfold cntGo; dsimp only; rw [if_pos (.inl h)]
theorem cnt_many (least : Nat) {l r : List UInt8} (h : numGo 10 0 0 l false = (n, r, false)) (hn : r.length / least < n) : (cntGo least l false).2.2 = true := by
  unfold cntGo; dsimp only; rw [h, if_pos (.inr hn)]
theorem cnt_fine (least : Nat) {l r : List UInt8} (h : numGo 10 0 0 l false = (n, r, false)) (hn : n ≤ r.length / least) : cntGo least l false = (n, r, false) := by
  unfold cntGo; dsimp only; rw [h, if_neg (by rintro (hh | hh); (· cases hh); (· dsimp only at hh; omega))]
theorem tree_bad1 (h : p < l.length) (h1 : (numGo 10 0 0 (l.drop (p + 1)) false).2.2 = true) : (treeGo (f + 1) (l.drop p) false).2.2 = true := by
  rw [treeGo_at h]
  exact kb _ (cb _ _ _ (cb _ _ _ h1)) f
theorem tree_bad2 (h : p < l.length) (h1 : numGo 10 0 0 (l.drop (p + 1)) false = (x, l.drop q, false)) (h2 : (numGo 10 0 0 (l.drop q) false).2.2 = true) : (treeGo (f + 1) (l.drop p) false).2.2 = true := by
  rw [treeGo_at h, h1]
  exact kb _ (cb _ _ _ (cnt_num _ _ h2)) f
theorem tree_many (h : p < l.length) (h1 : numGo 10 0 0 (l.drop (p + 1)) false = (x, l.drop q, false)) (h2 : numGo 10 0 0 (l.drop q) false = (n, l.drop q2, false)) (hn : l.length - q2 < n) : (treeGo (f + 1) (l.drop p) false).2.2 = true := by
  rw [treeGo_at h, h1]
  exact kb _ (cb _ _ _ (cnt_many _ h2 (by simpa using hn))) f
theorem tree_bad3 (h : p < l.length) (h1 : numGo 10 0 0 (l.drop (p + 1)) false = (x, l.drop q, false)) (h2 : numGo 10 0 0 (l.drop q) false = (n, l.drop q2, false)) (hn : n ≤ l.length - q2)
    (h3 : (numGo 10 0 0 (l.drop (q2 + n)) false).2.2 = true) : (treeGo (f + 1) (l.drop p) false).2.2 = true := by
  rw [treeGo_at h, h1]
  dsimp only
  rw [cnt_fine 1 h2 (by simpa using hn)]
  dsimp only
  rw [List.drop_drop]
  exact kb _ (cnt_num _ _ h3) f
theorem kids_few (f : Nat) {m : Nat} {l : List UInt8} (h : (kidsGo (treeGo f) m l false).2.2 = false) : 4 * m ≤ l.length := by
  have he : kidsGo (treeGo f) m l false = ((kidsGo (treeGo f) m l false).1, (kidsGo (treeGo f) m l false).2.1, false) := trip h
  obtain ⟨_, h1, _⟩ := kids_was (tree_was f) _ _ _ _ _ he
  have h2 := encs_pos (kidsGo (treeGo f) m l false).1
  rw [kids_count] at h2
  rw [h1]
  simp
  omega
theorem tree_kids (h : p < l.length) (h1 : numGo 10 0 0 (l.drop (p + 1)) false = (x, l.drop q, false)) (h2 : numGo 10 0 0 (l.drop q) false = (n, l.drop q2, false)) (hn : n ≤ l.length - q2)
    (h3 : numGo 10 0 0 (l.drop (q2 + n)) false = (m, l.drop q3, false)) :
    ((kidsGo (treeGo f) m (l.drop q3) false).2.2 = true → (treeGo (f + 1) (l.drop p) false).2.2 = true) ∧
    ((kidsGo (treeGo f) m (l.drop q3) false).2.2 = false → treeGo (f + 1) (l.drop p) false = (.mk l[p].toNat (unfold64 x) ⟨((l.drop q2).take n).toArray⟩ (kidsGo (treeGo f) m (l.drop q3) false).1, (kidsGo (treeGo f) m (l.drop q3) false).2.1, false)) := by
  rw [treeGo_at h, h1]
  dsimp only
  rw [cnt_fine 1 h2 (by simpa using hn)]
  dsimp only
  rw [List.drop_drop]
  by_cases hm : m ≤ (l.drop q3).length / 4
  · rw [cnt_fine 4 h3 hm]
    dsimp only
    refine ⟨fun hh => hh, fun hh => ?_⟩
    exact congrArg (fun z => (_, z)) (congrArg Prod.snd (trip hh))
  · refine ⟨fun _ => kb _ (cnt_many 4 h3 (by omega)) f, fun hh => ?_⟩
    have := kids_few f hh
    omega
/-- Where one fails, all that is left fails. -/
theorem kids_stop (f : Nat) {i : Nat} {l : List UInt8} (h : (kidsGo (treeGo f) i l false).2.2 = true) : ∀ {m : Nat}, i ≤ m → (kidsGo (treeGo f) m l false).2.2 = true
  | 0, hm => by
    have : i = 0 := by omega
    subst this; exact h
  | m + 1, hm => by
    by_cases he : i = m + 1
    · subst he; exact h
    · have := kids_stop f h (m := m) (by omega)
      rw [kids_succ]
      dsimp only
      rw [this]
      exact tree_bad f _
end
end Go.Proofs.Ytffpepmfdjjjaaa

namespace Go.Proofs.Ytffpepmfdjjjaaa
open Go.Pure
attribute [local irreducible] PW POps POpsD PO PC Cond

theorem treeAt_bad {f p : Nat} {l : List UInt8} (h : (treeGo f (l.drop p) false).2.2 = true) : treeAt f l p = (noTree, -1) := by rw [treeAt, if_pos h]
theorem treeAt_good {f p q : Nat} {l : List UInt8} {t : Tr} (h : treeGo f (l.drop p) false = (t, l.drop q, false)) (hq : q ≤ l.length) : treeAt f l p = (t, (q : Int)) := by
  rw [treeAt, h, if_neg (by simp)]
  dsimp only
  rw [List.length_drop]
  congr 1
  omega
theorem half_val (x : Nat) (hx : x < 2 ^ 64) : IntKind.i64.wrap (IntKind.u64.wrap ((x : Int).tdiv 2)) = ((x / 2 : Nat) : Int) := by
  rw [show (2 : Int) = ((2 : Nat) : Int) from rfl, tdivN, u64mod, Nat.mod_eq_of_lt (by omega), wrap64 (by omega)]
theorem odd_val (x : Nat) : (((x : Int).tmod 2) == 1) = decide (x % 2 = 1) := by
  rw [show (2 : Int) = ((2 : Nat) : Int) from rfl, tmodN]
  rw [Bool.eq_iff_iff]
  simp
  omega
theorem tree_out {l : List UInt8} {p f : Nat} (h : l.length ≤ p) : (treeGo (f + 1) (l.drop p) false).2.2 = true := by
  rw [List.drop_of_length_le h, treeGo, if_neg (by decide)]
  exact kb _ (cb _ _ _ (cb _ _ _ (num_bad 10 0 0 []))) f

set_option maxRecDepth 100000 in
set_option maxHeartbeats 8000000 in
theorem tree_at : ∀ (f : Nat) (l : List UInt8) (p : Nat), f ≤ 40 → l.length ≤ 1000000000 → p ≤ l.length →
    PC Try.prog 56 [.g (.sl (bys l)), .g (.int .i64 p), .g (.int .i64 (41 - (f : Int)))] ⟨[], [], []⟩ (.tuple [.g (treeAt f l p).1.g, .g (.int .i64 (treeAt f l p).2)]) ⟨[], [], []⟩
  | 0, l, p, _, hl, hp => by
    have hta : treeAt 0 l p = (noTree, -1) := treeAt_bad (by simp [treeGo])
    rw [hta]
    refine PC_of_PW Try.func56 rfl rfl (rs := _) rfl (Nat.le_of_ble_eq_true (by kernel_rfl)) ?_
    (repeat' (first | (first | (refine POps_nil ?_; try show PW _ _ _ _ _ _) | (refine POpsD_nil ?_; try show PW _ _ _ _ _ _) | refine runO_ok tabOk 300 rfl rfl ?_ | refine runO_ok tabOk 6 rfl rfl ?_ | refine runO_ok tabOk 1 rfl rfl ?_ | refine runD_ok tabOk 300 rfl rfl ?_ | refine runD_ok tabOk 6 rfl rfl ?_ | refine runD_ok tabOk 1 rfl rfl ?_ | (apply POps_run rfl rfl; focus (first | exact PO_conv_int rfl (IK rfl) (IK rfl) rfl | exact PO_makeFunc rfl | exact PO_buildSlice rfl (EL rfl) (SZ rfl) (AG rfl) (ZR rfl) rfl rfl rfl rfl rfl rfl rfl | exact PO_nilCheck rfl rfl | exact PO_conv_int rfl (IK rfl) (IK rfl) rfl)) | (apply POpsD_run rfl rfl; focus (first | exact Cond_c (PO_conv_int rfl (IK rfl) (IK rfl) rfl) | exact Cond_c (PO_makeFunc rfl) | exact Cond_c (PO_buildSlice rfl (EL rfl) (SZ rfl) (AG rfl) (ZR rfl) rfl rfl rfl rfl rfl rfl rfl) | exact Cond_f (fun _ => PO_conv_int rfl (IK rfl) (IK rfl) rfl) | exact Cond_f (fun _ => PO_makeFunc rfl) | exact Cond_f (fun _ => PO_buildSlice rfl (EL rfl) (SZ rfl) (AG rfl) (ZR rfl) rfl rfl rfl rfl rfl rfl rfl) | exact Cond_f (fun _ => PO_nilCheck rfl rfl) | exact Cond_f (fun _ => PO_conv_int rfl (IK rfl) (IK rfl) rfl))) | refine PW_seq ?_ | refine PW_region ?_ | refine PW_draw_all mixed (by kernel_rfl) ?_ | refine PW_block ?_ | (refine PW_skip ?_; try show PW _ _ _ _ _ _) | (refine PW_exit ?_; try show PW _ _ _ _ _ _) | (refine PW_ret ?_; try show PW _ _ _ _ _ _) | refine PW_cond_t rfl ?_ | refine PW_cond_f rfl ?_) | refine POps_split rfl rfl (fun h => ?_) (fun h => ?_) | refine POpsD_split rfl rfl (fun h => ?_) (fun h => ?_) | refine PW_cond rfl (fun h => ?_) (fun h => ?_)))
    exact Ret_two (resVs_cons (resV_agg (AG rfl) (SZ rfl) rfl rfl (Nat.le_of_ble_eq_true rfl)) (resVs_cons resV_tmp resVs_nil)) rfl rfl rfl
  | f + 1, l, p, hf, hl, hpl => by
    by_cases hp : p < l.length
    · have hg := bys_get hp
      have e1 : IntKind.i64.wrap ((p : Int) + 1) = ((p + 1 : Nat) : Int) := by rw [wrap64 (by omega)]; omega
      have n1 := number_at l (p + 1) hl
      rcases numAt_cases l (p + 1) hp with ⟨hN, hb⟩ | ⟨x, q, hN, hpq, hql, hx, hG⟩
      · have hta := treeAt_bad (tree_bad1 (f := f) hp hb)
        rw [hta]
        rw [hN, ← e1] at n1
        dsimp only at n1
        generalize l[p] = ch at hg
        refine PC_of_PW Try.func56 rfl rfl (rs := _) rfl (Nat.le_of_ble_eq_true (by kernel_rfl)) ?_
        (repeat' (first | (first | (refine POps_nil ?_; try show PW _ _ _ _ _ _) | (refine POpsD_nil ?_; try show PW _ _ _ _ _ _) | refine runO_ok tabOk 300 rfl rfl ?_ | refine runO_ok tabOk 6 rfl rfl ?_ | refine runO_ok tabOk 1 rfl rfl ?_ | refine runD_ok tabOk 300 rfl rfl ?_ | refine runD_ok tabOk 6 rfl rfl ?_ | refine runD_ok tabOk 1 rfl rfl ?_ | (apply POps_run rfl rfl; focus (first | exact call_pure rfl rfl (EN rfl) (n1) rfl rfl rfl | exact PO_indexAddr rfl (EL rfl) (SZ rfl) rfl rfl (Int.natCast_nonneg _) hg rfl | exact PO_conv_int rfl (IK rfl) (IK rfl) rfl | exact PO_makeFunc rfl | exact PO_buildSlice rfl (EL rfl) (SZ rfl) (AG rfl) (ZR rfl) rfl rfl rfl rfl rfl rfl rfl | exact PO_nilCheck rfl rfl | exact PO_conv_int rfl (IK rfl) (IK rfl) rfl)) | (apply POpsD_run rfl rfl; focus (first | exact Cond_c (call_pure rfl rfl (EN rfl) (n1) rfl rfl rfl) | exact Cond_c (PO_indexAddr rfl (EL rfl) (SZ rfl) rfl rfl (Int.natCast_nonneg _) hg rfl) | exact Cond_c (PO_conv_int rfl (IK rfl) (IK rfl) rfl) | exact Cond_c (PO_makeFunc rfl) | exact Cond_c (PO_buildSlice rfl (EL rfl) (SZ rfl) (AG rfl) (ZR rfl) rfl rfl rfl rfl rfl rfl rfl) | exact Cond_f (fun _ => call_pure rfl rfl (EN rfl) (n1) rfl rfl rfl) | exact Cond_f (fun _ => PO_indexAddr rfl (EL rfl) (SZ rfl) rfl rfl (Int.natCast_nonneg _) hg rfl) | exact Cond_f (fun _ => PO_conv_int rfl (IK rfl) (IK rfl) rfl) | exact Cond_f (fun _ => PO_makeFunc rfl) | exact Cond_f (fun _ => PO_buildSlice rfl (EL rfl) (SZ rfl) (AG rfl) (ZR rfl) rfl rfl rfl rfl rfl rfl rfl) | exact Cond_f (fun _ => PO_nilCheck rfl rfl) | exact Cond_f (fun _ => PO_conv_int rfl (IK rfl) (IK rfl) rfl))) | refine PW_seq ?_ | refine PW_region ?_ | refine PW_draw_all mixed (by kernel_rfl) ?_ | refine PW_block ?_ | (refine PW_skip ?_; try show PW _ _ _ _ _ _) | (refine PW_exit ?_; try show PW _ _ _ _ _ _) | (refine PW_ret ?_; try show PW _ _ _ _ _ _) | refine PW_cond_t rfl ?_ | refine PW_cond_f rfl ?_) | refine POps_split rfl rfl (fun h => ?_) (fun h => ?_) | refine POpsD_split rfl rfl (fun h => ?_) (fun h => ?_) | refine PW_cond rfl (fun h => ?_) (fun h => ?_)))
        all_goals (try simp only [decide_eq_true_eq, decide_eq_false_iff_not, beq_iff_eq, bne_iff_ne, beq_eq_false_iff_ne, bne_eq_false_iff_eq, Bool.not_eq_true', Bool.not_eq_false', gt_iff_lt, ge_iff_le, ne_eq] at *)
        all_goals first
          | (exfalso; omega)
          | (exfalso; rw [bys_len] at *; omega)
          | exact Ret_two (resVs_cons (resV_agg (AG rfl) (SZ rfl) rfl rfl (Nat.le_of_ble_eq_true rfl)) (resVs_cons resV_tmp resVs_nil)) rfl rfl rfl
      · rw [hN, ← e1] at n1
        dsimp only at n1
        have hu : (if x % 2 = 1 then IntKind.i64.wrap (IntKind.i64.wrap (0 - IntKind.i64.wrap (IntKind.u64.wrap ((x : Int).tdiv 2))) - 1) else IntKind.i64.wrap (IntKind.u64.wrap ((x : Int).tdiv 2))) = unfold64 x := by
          rw [half_val x hx]
          unfold unfold64
          split
          · rw [if_neg (by omega), wrap64 (n := 0 - ((x / 2 : Nat) : Int)) (by omega), wrap64 (by omega)]; omega
          · rw [if_pos (by omega)]; omega
        have hod := odd_val x
        have n2 := number_at l q hl
        have htk := fun (q2 q3 n m : Nat) => @tree_kids l p q q2 q3 x n m f hp
        have hb2 := @tree_bad2 l p q x f hp hG
        have hmn := @tree_many l p q
        have hb3 := @tree_bad3 l p q
        generalize l[p] = ch at hg htk
        have hch := ch.toNat_lt
        have hcw : IntKind.i64.wrap ((ch.toNat : Nat) : Int) = ch.toNat := wrap64 (by omega)
        rcases numAt_cases l q hql with ⟨hN2, hbb⟩ | ⟨n, q2, hN2, hq2, hql2, hn, hG2⟩
        · have hta := treeAt_bad (hb2 hbb)
          rw [hta]
          rw [hN2] at n2
          dsimp only at n2
          refine PC_of_PW Try.func56 rfl rfl (rs := _) rfl (Nat.le_of_ble_eq_true (by kernel_rfl)) ?_
          (repeat' (first | (first | (refine POps_nil ?_; try show PW _ _ _ _ _ _) | (refine POpsD_nil ?_; try show PW _ _ _ _ _ _) | refine runO_ok tabOk 300 rfl rfl ?_ | refine runO_ok tabOk 6 rfl rfl ?_ | refine runO_ok tabOk 1 rfl rfl ?_ | refine runD_ok tabOk 300 rfl rfl ?_ | refine runD_ok tabOk 6 rfl rfl ?_ | refine runD_ok tabOk 1 rfl rfl ?_ | (apply POps_run rfl rfl; focus (first | exact call_pure rfl rfl (EN rfl) (n1) rfl rfl rfl | exact call_pure rfl rfl (EN rfl) (n2) rfl rfl rfl | exact PO_indexAddr rfl (EL rfl) (SZ rfl) rfl rfl (Int.natCast_nonneg _) hg rfl | exact PO_quo rfl rfl rfl (by decide) | exact PO_rem rfl rfl rfl (by decide) | exact PO_conv_int rfl (IK rfl) (IK rfl) rfl | exact PO_makeFunc rfl | exact PO_buildSlice rfl (EL rfl) (SZ rfl) (AG rfl) (ZR rfl) rfl rfl rfl rfl rfl rfl rfl | exact PO_nilCheck rfl rfl | exact PO_conv_int rfl (IK rfl) (IK rfl) rfl)) | (apply POpsD_run rfl rfl; focus (first | exact Cond_c (call_pure rfl rfl (EN rfl) (n1) rfl rfl rfl) | exact Cond_c (call_pure rfl rfl (EN rfl) (n2) rfl rfl rfl) | exact Cond_c (PO_indexAddr rfl (EL rfl) (SZ rfl) rfl rfl (Int.natCast_nonneg _) hg rfl) | exact Cond_c (PO_quo rfl rfl rfl (by decide)) | exact Cond_c (PO_rem rfl rfl rfl (by decide)) | exact Cond_c (PO_conv_int rfl (IK rfl) (IK rfl) rfl) | exact Cond_c (PO_makeFunc rfl) | exact Cond_c (PO_buildSlice rfl (EL rfl) (SZ rfl) (AG rfl) (ZR rfl) rfl rfl rfl rfl rfl rfl rfl) | exact Cond_f (fun _ => call_pure rfl rfl (EN rfl) (n1) rfl rfl rfl) | exact Cond_f (fun _ => call_pure rfl rfl (EN rfl) (n2) rfl rfl rfl) | exact Cond_f (fun _ => PO_indexAddr rfl (EL rfl) (SZ rfl) rfl rfl (Int.natCast_nonneg _) hg rfl) | exact Cond_f (fun _ => PO_quo rfl rfl rfl (by decide)) | exact Cond_f (fun _ => PO_rem rfl rfl rfl (by decide)) | exact Cond_f (fun _ => PO_conv_int rfl (IK rfl) (IK rfl) rfl) | exact Cond_f (fun _ => PO_makeFunc rfl) | exact Cond_f (fun _ => PO_buildSlice rfl (EL rfl) (SZ rfl) (AG rfl) (ZR rfl) rfl rfl rfl rfl rfl rfl rfl) | exact Cond_f (fun _ => PO_nilCheck rfl rfl) | exact Cond_f (fun _ => PO_conv_int rfl (IK rfl) (IK rfl) rfl))) | refine PW_seq ?_ | refine PW_region ?_ | refine PW_draw_all mixed (by kernel_rfl) ?_ | refine PW_block ?_ | (refine PW_skip ?_; try show PW _ _ _ _ _ _) | (refine PW_exit ?_; try show PW _ _ _ _ _ _) | (refine PW_ret ?_; try show PW _ _ _ _ _ _) | refine PW_cond_t rfl ?_ | refine PW_cond_f rfl ?_) | refine POps_split rfl rfl (fun h => ?_) (fun h => ?_) | refine POpsD_split rfl rfl (fun h => ?_) (fun h => ?_) | refine PW_cond rfl (fun h => ?_) (fun h => ?_)))
          all_goals (try simp only [decide_eq_true_eq, decide_eq_false_iff_not, beq_iff_eq, bne_iff_ne, beq_eq_false_iff_ne, bne_eq_false_iff_eq, Bool.not_eq_true', Bool.not_eq_false', gt_iff_lt, ge_iff_le, ne_eq] at *)
          all_goals first
            | (exfalso; omega)
            | (exfalso; simp only [bys_len] at *; omega)
            | exact Ret_two (resVs_cons (resV_agg (AG rfl) (SZ rfl) rfl rfl (Nat.le_of_ble_eq_true rfl)) (resVs_cons resV_tmp resVs_nil)) rfl rfl rfl
        · rw [hN2] at n2
          dsimp only at n2
          have hdw : IntKind.u64.wrap (IntKind.i64.wrap ((l.length : Int) - (q2 : Int))) = ((l.length - q2 : Nat) : Int) := by
            rw [wrap64 (by omega), show (l.length : Int) - (q2 : Int) = ((l.length - q2 : Nat) : Int) by omega, u64mod, Nat.mod_eq_of_lt (by omega)]
          by_cases hnl : l.length - q2 < n
          · have hta := treeAt_bad (hmn (f := f) hp hG hG2 hnl)
            rw [hta]
            refine PC_of_PW Try.func56 rfl rfl (rs := _) rfl (Nat.le_of_ble_eq_true (by kernel_rfl)) ?_
            (repeat' (first | (first | (refine POps_nil ?_; try show PW _ _ _ _ _ _) | (refine POpsD_nil ?_; try show PW _ _ _ _ _ _) | refine runO_ok tabOk 300 rfl rfl ?_ | refine runO_ok tabOk 6 rfl rfl ?_ | refine runO_ok tabOk 1 rfl rfl ?_ | refine runD_ok tabOk 300 rfl rfl ?_ | refine runD_ok tabOk 6 rfl rfl ?_ | refine runD_ok tabOk 1 rfl rfl ?_ | (apply POps_run rfl rfl; focus (first | exact call_pure rfl rfl (EN rfl) (n1) rfl rfl rfl | exact call_pure rfl rfl (EN rfl) (n2) rfl rfl rfl | exact PO_indexAddr rfl (EL rfl) (SZ rfl) rfl rfl (Int.natCast_nonneg _) hg rfl | exact PO_quo rfl rfl rfl (by decide) | exact PO_rem rfl rfl rfl (by decide) | exact PO_conv_int rfl (IK rfl) (IK rfl) rfl | exact PO_makeFunc rfl | exact PO_buildSlice rfl (EL rfl) (SZ rfl) (AG rfl) (ZR rfl) rfl rfl rfl rfl rfl rfl rfl | exact PO_nilCheck rfl rfl | exact PO_conv_int rfl (IK rfl) (IK rfl) rfl)) | (apply POpsD_run rfl rfl; focus (first | exact Cond_c (call_pure rfl rfl (EN rfl) (n1) rfl rfl rfl) | exact Cond_c (call_pure rfl rfl (EN rfl) (n2) rfl rfl rfl) | exact Cond_c (PO_indexAddr rfl (EL rfl) (SZ rfl) rfl rfl (Int.natCast_nonneg _) hg rfl) | exact Cond_c (PO_quo rfl rfl rfl (by decide)) | exact Cond_c (PO_rem rfl rfl rfl (by decide)) | exact Cond_c (PO_conv_int rfl (IK rfl) (IK rfl) rfl) | exact Cond_c (PO_makeFunc rfl) | exact Cond_c (PO_buildSlice rfl (EL rfl) (SZ rfl) (AG rfl) (ZR rfl) rfl rfl rfl rfl rfl rfl rfl) | exact Cond_f (fun _ => call_pure rfl rfl (EN rfl) (n1) rfl rfl rfl) | exact Cond_f (fun _ => call_pure rfl rfl (EN rfl) (n2) rfl rfl rfl) | exact Cond_f (fun _ => PO_indexAddr rfl (EL rfl) (SZ rfl) rfl rfl (Int.natCast_nonneg _) hg rfl) | exact Cond_f (fun _ => PO_quo rfl rfl rfl (by decide)) | exact Cond_f (fun _ => PO_rem rfl rfl rfl (by decide)) | exact Cond_f (fun _ => PO_conv_int rfl (IK rfl) (IK rfl) rfl) | exact Cond_f (fun _ => PO_makeFunc rfl) | exact Cond_f (fun _ => PO_buildSlice rfl (EL rfl) (SZ rfl) (AG rfl) (ZR rfl) rfl rfl rfl rfl rfl rfl rfl) | exact Cond_f (fun _ => PO_nilCheck rfl rfl) | exact Cond_f (fun _ => PO_conv_int rfl (IK rfl) (IK rfl) rfl))) | refine PW_seq_unless [13] rfl ?_ | refine PW_region ?_ | refine PW_draw_all mixed (by kernel_rfl) ?_ | refine PW_block ?_ | (refine PW_skip ?_; try show PW _ _ _ _ _ _) | (refine PW_exit ?_; try show PW _ _ _ _ _ _) | (refine PW_ret ?_; try show PW _ _ _ _ _ _) | refine PW_cond_t rfl ?_ | refine PW_cond_f rfl ?_) | refine POps_split rfl rfl (fun h => ?_) (fun h => ?_) | refine POpsD_split rfl rfl (fun h => ?_) (fun h => ?_) | refine PW_cond rfl (fun h => ?_) (fun h => ?_)))
            all_goals (try simp only [decide_eq_true_eq, decide_eq_false_iff_not, beq_iff_eq, bne_iff_ne, beq_eq_false_iff_ne, bne_eq_false_iff_eq, Bool.not_eq_true', Bool.not_eq_false', gt_iff_lt, ge_iff_le, ne_eq] at *)
            all_goals first
              | (exfalso; omega)
              | (exfalso; simp only [bys_len] at *; omega)
              | exact Ret_two (resVs_cons (resV_agg (AG rfl) (SZ rfl) rfl rfl (Nat.le_of_ble_eq_true rfl)) (resVs_cons resV_tmp resVs_nil)) rfl rfl rfl
          · have hc1 : IntKind.i64.wrap ((n : Nat) : Int) = n := wrap64 (by omega)
            have hc2 : IntKind.i64.wrap ((q2 : Int) + IntKind.i64.wrap (n : Int)) = ((q2 + n : Nat) : Int) := by rw [hc1, wrap64 (by omega)]; omega
            have n3 := number_at l (q2 + n) hl
            have hlw : IntKind.u64.wrap ((l.length : Nat) : Int) = (l.length : Int) := by rw [u64mod, Nat.mod_eq_of_lt (by omega)]
            rw [← hc2] at n3
            rcases numAt_cases l (q2 + n) (by omega) with ⟨hN3, hbb⟩ | ⟨m, q3, hN3, hq3, hql3, hm, hG3⟩
            · have hta := treeAt_bad (hb3 (f := f) hp hG hG2 (by omega) hbb)
              rw [hta]
              rw [hN3] at n3
              dsimp only at n3
              refine PC_of_PW Try.func56 rfl rfl (rs := _) rfl (Nat.le_of_ble_eq_true (by kernel_rfl)) ?_
              (repeat' (first | (first | (refine POps_nil ?_; try show PW _ _ _ _ _ _) | (refine POpsD_nil ?_; try show PW _ _ _ _ _ _) | refine runO_ok tabOk 300 rfl rfl ?_ | refine runO_ok tabOk 6 rfl rfl ?_ | refine runO_ok tabOk 1 rfl rfl ?_ | refine runD_ok tabOk 300 rfl rfl ?_ | refine runD_ok tabOk 6 rfl rfl ?_ | refine runD_ok tabOk 1 rfl rfl ?_ | (apply POps_run rfl rfl; focus (first | exact call_pure rfl rfl (EN rfl) (n1) rfl rfl rfl | exact call_pure rfl rfl (EN rfl) (n2) rfl rfl rfl | exact call_pure rfl rfl (EN rfl) (n3) rfl rfl rfl | exact PO_indexAddr rfl (EL rfl) (SZ rfl) rfl rfl (Int.natCast_nonneg _) hg rfl | exact PO_quo rfl rfl rfl (by decide) | exact PO_rem rfl rfl rfl (by decide) | exact PO_slice_bys ((l.drop q2).take n) q2 (q2 + n) rfl (EL rfl) (SZ rfl) rfl rfl rfl rfl hc2 (by omega) (by omega) (by rw [Nat.add_sub_cancel_left]) | exact PO_conv_bytes rfl (EL rfl) (IK rfl) (ST rfl) rfl | exact PO_conv_int rfl (IK rfl) (IK rfl) rfl | exact PO_makeFunc rfl | exact PO_buildSlice rfl (EL rfl) (SZ rfl) (AG rfl) (ZR rfl) rfl rfl rfl rfl rfl rfl rfl | exact PO_nilCheck rfl rfl | exact PO_conv_int rfl (IK rfl) (IK rfl) rfl)) | (apply POpsD_run rfl rfl; focus (first | exact Cond_c (call_pure rfl rfl (EN rfl) (n1) rfl rfl rfl) | exact Cond_c (call_pure rfl rfl (EN rfl) (n2) rfl rfl rfl) | exact Cond_c (call_pure rfl rfl (EN rfl) (n3) rfl rfl rfl) | exact Cond_c (PO_indexAddr rfl (EL rfl) (SZ rfl) rfl rfl (Int.natCast_nonneg _) hg rfl) | exact Cond_c (PO_quo rfl rfl rfl (by decide)) | exact Cond_c (PO_rem rfl rfl rfl (by decide)) | exact Cond_c (PO_slice_bys ((l.drop q2).take n) q2 (q2 + n) rfl (EL rfl) (SZ rfl) rfl rfl rfl rfl hc2 (by omega) (by omega) (by rw [Nat.add_sub_cancel_left])) | exact Cond_c (PO_conv_bytes rfl (EL rfl) (IK rfl) (ST rfl) rfl) | exact Cond_c (PO_conv_int rfl (IK rfl) (IK rfl) rfl) | exact Cond_c (PO_makeFunc rfl) | exact Cond_c (PO_buildSlice rfl (EL rfl) (SZ rfl) (AG rfl) (ZR rfl) rfl rfl rfl rfl rfl rfl rfl) | exact Cond_f (fun _ => call_pure rfl rfl (EN rfl) (n1) rfl rfl rfl) | exact Cond_f (fun _ => call_pure rfl rfl (EN rfl) (n2) rfl rfl rfl) | exact Cond_f (fun _ => call_pure rfl rfl (EN rfl) (n3) rfl rfl rfl) | exact Cond_f (fun _ => PO_indexAddr rfl (EL rfl) (SZ rfl) rfl rfl (Int.natCast_nonneg _) hg rfl) | exact Cond_f (fun _ => PO_quo rfl rfl rfl (by decide)) | exact Cond_f (fun _ => PO_rem rfl rfl rfl (by decide)) | exact Cond_f (fun _ => PO_slice_bys ((l.drop q2).take n) q2 (q2 + n) rfl (EL rfl) (SZ rfl) rfl rfl rfl rfl hc2 (by omega) (by omega) (by rw [Nat.add_sub_cancel_left])) | exact Cond_f (fun _ => PO_conv_bytes rfl (EL rfl) (IK rfl) (ST rfl) rfl) | exact Cond_f (fun _ => PO_conv_int rfl (IK rfl) (IK rfl) rfl) | exact Cond_f (fun _ => PO_makeFunc rfl) | exact Cond_f (fun _ => PO_buildSlice rfl (EL rfl) (SZ rfl) (AG rfl) (ZR rfl) rfl rfl rfl rfl rfl rfl rfl) | exact Cond_f (fun _ => PO_nilCheck rfl rfl) | exact Cond_f (fun _ => PO_conv_int rfl (IK rfl) (IK rfl) rfl))) | refine PW_seq ?_ | refine PW_region ?_ | refine PW_draw_all mixed (by kernel_rfl) ?_ | refine PW_block ?_ | (refine PW_skip ?_; try show PW _ _ _ _ _ _) | (refine PW_exit ?_; try show PW _ _ _ _ _ _) | (refine PW_ret ?_; try show PW _ _ _ _ _ _) | refine PW_cond_t rfl ?_ | refine PW_cond_f rfl ?_) | refine POps_split rfl rfl (fun h => ?_) (fun h => ?_) | refine POpsD_split rfl rfl (fun h => ?_) (fun h => ?_) | refine PW_cond rfl (fun h => ?_) (fun h => ?_)))
              all_goals (try simp only [decide_eq_true_eq, decide_eq_false_iff_not, beq_iff_eq, bne_iff_ne, beq_eq_false_iff_ne, bne_eq_false_iff_eq, Bool.not_eq_true', Bool.not_eq_false', gt_iff_lt, ge_iff_le, ne_eq] at *)
              all_goals first
                | (exfalso; omega)
                | (exfalso; simp only [bys_len] at *; omega)
                | exact Ret_two (resVs_cons (resV_agg (AG rfl) (SZ rfl) rfl rfl (Nat.le_of_ble_eq_true rfl)) (resVs_cons resV_tmp resVs_nil)) rfl rfl rfl
            · rw [hN3] at n3
              dsimp only at n3
              obtain ⟨htk1, htk2⟩ := htk q2 q3 n m hG hG2 (by omega) hG3
              clear hb2 hmn hb3
              by_cases hml : l.length < m
              · have hkb : (kidsGo (treeGo f) m (l.drop q3) false).2.2 = true := by
                  cases hkk : (kidsGo (treeGo f) m (l.drop q3) false).2.2 with
                  | true => rfl
                  | false => have := kids_few f hkk; simp at this; omega
                have hta := treeAt_bad (htk1 hkb)
                rw [hta]
                refine PC_of_PW Try.func56 rfl rfl (rs := _) rfl (Nat.le_of_ble_eq_true (by kernel_rfl)) ?_
                (repeat' (first | (first | (refine POps_nil ?_; try show PW _ _ _ _ _ _) | (refine POpsD_nil ?_; try show PW _ _ _ _ _ _) | refine runO_ok tabOk 300 rfl rfl ?_ | refine runO_ok tabOk 6 rfl rfl ?_ | refine runO_ok tabOk 1 rfl rfl ?_ | refine runD_ok tabOk 300 rfl rfl ?_ | refine runD_ok tabOk 6 rfl rfl ?_ | refine runD_ok tabOk 1 rfl rfl ?_ | (apply POps_run rfl rfl; focus (first | exact call_pure rfl rfl (EN rfl) (n1) rfl rfl rfl | exact call_pure rfl rfl (EN rfl) (n2) rfl rfl rfl | exact call_pure rfl rfl (EN rfl) (n3) rfl rfl rfl | exact PO_indexAddr rfl (EL rfl) (SZ rfl) rfl rfl (Int.natCast_nonneg _) hg rfl | exact PO_quo rfl rfl rfl (by decide) | exact PO_rem rfl rfl rfl (by decide) | exact PO_slice_bys ((l.drop q2).take n) q2 (q2 + n) rfl (EL rfl) (SZ rfl) rfl rfl rfl rfl hc2 (by omega) (by omega) (by rw [Nat.add_sub_cancel_left]) | exact PO_conv_bytes rfl (EL rfl) (IK rfl) (ST rfl) rfl | exact PO_conv_int rfl (IK rfl) (IK rfl) rfl | exact PO_makeFunc rfl | exact PO_buildSlice rfl (EL rfl) (SZ rfl) (AG rfl) (ZR rfl) rfl rfl rfl rfl rfl rfl rfl | exact PO_nilCheck rfl rfl | exact PO_conv_int rfl (IK rfl) (IK rfl) rfl)) | (apply POpsD_run rfl rfl; focus (first | exact Cond_c (call_pure rfl rfl (EN rfl) (n1) rfl rfl rfl) | exact Cond_c (call_pure rfl rfl (EN rfl) (n2) rfl rfl rfl) | exact Cond_c (call_pure rfl rfl (EN rfl) (n3) rfl rfl rfl) | exact Cond_c (PO_indexAddr rfl (EL rfl) (SZ rfl) rfl rfl (Int.natCast_nonneg _) hg rfl) | exact Cond_c (PO_quo rfl rfl rfl (by decide)) | exact Cond_c (PO_rem rfl rfl rfl (by decide)) | exact Cond_c (PO_slice_bys ((l.drop q2).take n) q2 (q2 + n) rfl (EL rfl) (SZ rfl) rfl rfl rfl rfl hc2 (by omega) (by omega) (by rw [Nat.add_sub_cancel_left])) | exact Cond_c (PO_conv_bytes rfl (EL rfl) (IK rfl) (ST rfl) rfl) | exact Cond_c (PO_conv_int rfl (IK rfl) (IK rfl) rfl) | exact Cond_c (PO_makeFunc rfl) | exact Cond_c (PO_buildSlice rfl (EL rfl) (SZ rfl) (AG rfl) (ZR rfl) rfl rfl rfl rfl rfl rfl rfl) | exact Cond_f (fun _ => call_pure rfl rfl (EN rfl) (n1) rfl rfl rfl) | exact Cond_f (fun _ => call_pure rfl rfl (EN rfl) (n2) rfl rfl rfl) | exact Cond_f (fun _ => call_pure rfl rfl (EN rfl) (n3) rfl rfl rfl) | exact Cond_f (fun _ => PO_indexAddr rfl (EL rfl) (SZ rfl) rfl rfl (Int.natCast_nonneg _) hg rfl) | exact Cond_f (fun _ => PO_quo rfl rfl rfl (by decide)) | exact Cond_f (fun _ => PO_rem rfl rfl rfl (by decide)) | exact Cond_f (fun _ => PO_slice_bys ((l.drop q2).take n) q2 (q2 + n) rfl (EL rfl) (SZ rfl) rfl rfl rfl rfl hc2 (by omega) (by omega) (by rw [Nat.add_sub_cancel_left])) | exact Cond_f (fun _ => PO_conv_bytes rfl (EL rfl) (IK rfl) (ST rfl) rfl) | exact Cond_f (fun _ => PO_conv_int rfl (IK rfl) (IK rfl) rfl) | exact Cond_f (fun _ => PO_makeFunc rfl) | exact Cond_f (fun _ => PO_buildSlice rfl (EL rfl) (SZ rfl) (AG rfl) (ZR rfl) rfl rfl rfl rfl rfl rfl rfl) | exact Cond_f (fun _ => PO_nilCheck rfl rfl) | exact Cond_f (fun _ => PO_conv_int rfl (IK rfl) (IK rfl) rfl))) | refine PW_seq ?_ | refine PW_region ?_ | refine PW_draw_all mixed (by kernel_rfl) ?_ | refine PW_block ?_ | (refine PW_skip ?_; try show PW _ _ _ _ _ _) | (refine PW_exit ?_; try show PW _ _ _ _ _ _) | (refine PW_ret ?_; try show PW _ _ _ _ _ _) | refine PW_cond_t rfl ?_ | refine PW_cond_f rfl ?_) | refine POps_split rfl rfl (fun h => ?_) (fun h => ?_) | refine POpsD_split rfl rfl (fun h => ?_) (fun h => ?_) | refine PW_cond rfl (fun h => ?_) (fun h => ?_)))
                all_goals (try simp only [decide_eq_true_eq, decide_eq_false_iff_not, beq_iff_eq, bne_iff_ne, beq_eq_false_iff_ne, bne_eq_false_iff_eq, Bool.not_eq_true', Bool.not_eq_false', gt_iff_lt, ge_iff_le, ne_eq] at *)
                all_goals first
                  | (exfalso; omega)
                  | (exfalso; simp only [bys_len] at *; omega)
                  | exact Ret_two (resVs_cons (resV_agg (AG rfl) (SZ rfl) rfl rfl (Nat.le_of_ble_eq_true rfl)) (resVs_cons resV_tmp resVs_nil)) rfl rfl rfl
              · refine PC_of_PW Try.func56 rfl rfl (rs := _) rfl (Nat.le_of_ble_eq_true (by kernel_rfl)) ?_
                (repeat' (first | (first | (refine POps_nil ?_; try show PW _ _ _ _ _ _) | (refine POpsD_nil ?_; try show PW _ _ _ _ _ _) | refine runO_ok tabOk 300 rfl rfl ?_ | refine runO_ok tabOk 6 rfl rfl ?_ | refine runO_ok tabOk 1 rfl rfl ?_ | refine runD_ok tabOk 300 rfl rfl ?_ | refine runD_ok tabOk 6 rfl rfl ?_ | refine runD_ok tabOk 1 rfl rfl ?_ | (apply POps_run rfl rfl; focus (first | exact call_pure rfl rfl (EN rfl) (n1) rfl rfl rfl | exact PO_indexAddr rfl (EL rfl) (SZ rfl) rfl rfl (Int.natCast_nonneg _) hg rfl | exact PO_quo rfl rfl rfl (by decide) | exact PO_rem rfl rfl rfl (by decide) | exact PO_conv_int rfl (IK rfl) (IK rfl) rfl | exact PO_makeFunc rfl | exact PO_buildSlice rfl (EL rfl) (SZ rfl) (AG rfl) (ZR rfl) rfl rfl rfl rfl rfl rfl rfl | exact PO_nilCheck rfl rfl | exact PO_conv_int rfl (IK rfl) (IK rfl) rfl)) | (apply POpsD_run rfl rfl; focus (first | exact Cond_c (call_pure rfl rfl (EN rfl) (n1) rfl rfl rfl) | exact Cond_c (PO_indexAddr rfl (EL rfl) (SZ rfl) rfl rfl (Int.natCast_nonneg _) hg rfl) | exact Cond_c (PO_quo rfl rfl rfl (by decide)) | exact Cond_c (PO_rem rfl rfl rfl (by decide)) | exact Cond_c (PO_conv_int rfl (IK rfl) (IK rfl) rfl) | exact Cond_c (PO_makeFunc rfl) | exact Cond_c (PO_buildSlice rfl (EL rfl) (SZ rfl) (AG rfl) (ZR rfl) rfl rfl rfl rfl rfl rfl rfl) | exact Cond_f (fun _ => call_pure rfl rfl (EN rfl) (n1) rfl rfl rfl) | exact Cond_f (fun _ => PO_indexAddr rfl (EL rfl) (SZ rfl) rfl rfl (Int.natCast_nonneg _) hg rfl) | exact Cond_f (fun _ => PO_quo rfl rfl rfl (by decide)) | exact Cond_f (fun _ => PO_rem rfl rfl rfl (by decide)) | exact Cond_f (fun _ => PO_conv_int rfl (IK rfl) (IK rfl) rfl) | exact Cond_f (fun _ => PO_makeFunc rfl) | exact Cond_f (fun _ => PO_buildSlice rfl (EL rfl) (SZ rfl) (AG rfl) (ZR rfl) rfl rfl rfl rfl rfl rfl rfl) | exact Cond_f (fun _ => PO_nilCheck rfl rfl) | exact Cond_f (fun _ => PO_conv_int rfl (IK rfl) (IK rfl) rfl))) | refine PW_seq_unless [8] rfl ?_ | refine PW_region ?_ | refine PW_draw_all mixed (by kernel_rfl) ?_ | refine PW_block ?_ | (refine PW_skip ?_; try show PW _ _ _ _ _ _) | (refine PW_exit ?_; try show PW _ _ _ _ _ _) | (refine PW_ret ?_; try show PW _ _ _ _ _ _) | refine PW_cond_t rfl ?_ | refine PW_cond_f rfl ?_) | refine POps_split rfl rfl (fun h => ?_) (fun h => ?_) | refine POpsD_split rfl rfl (fun h => ?_) (fun h => ?_) | refine PW_cond rfl (fun h => ?_) (fun h => ?_)))
                all_goals (try simp only [decide_eq_true_eq, decide_eq_false_iff_not, beq_iff_eq, bne_iff_ne, beq_eq_false_iff_ne, bne_eq_false_iff_eq, Bool.not_eq_true', Bool.not_eq_false', gt_iff_lt, ge_iff_le, ne_eq] at *)
                all_goals try (exfalso; first | omega | (simp only [bys_len] at *; omega))
                refine PW_cut (slots [(0, .g (.sl (bys l))), (1, .g (.int .i64 q)), (2, .g (.int .i64 (41 - ((f + 1 : Nat) : Int)))), (6, .ptr 0 0), (8, .ptr 1 0)])
                  ⟨[[.g (.int .i64 0), .g (.int .i64 0), .g (.str ⟨#[]⟩), .nils], [.g (.int .i64 ch.toNat), .g (.int .i64 (unfold64 x)), .g (.str ⟨#[]⟩), .nils]], [], []⟩ ?_ ?_
                · (repeat' (first | (first | (refine POps_nil ?_; try show PW _ _ _ _ _ _) | (refine POpsD_nil ?_; try show PW _ _ _ _ _ _) | refine runO_ok tabOk 300 rfl rfl ?_ | refine runO_ok tabOk 6 rfl rfl ?_ | refine runO_ok tabOk 1 rfl rfl ?_ | refine runD_ok tabOk 300 rfl rfl ?_ | refine runD_ok tabOk 6 rfl rfl ?_ | refine runD_ok tabOk 1 rfl rfl ?_ | (apply POps_run rfl rfl; focus (first | exact PO_quo rfl rfl rfl (by decide) | exact PO_rem rfl rfl rfl (by decide) | exact PO_conv_int rfl (IK rfl) (IK rfl) rfl | exact PO_makeFunc rfl | exact PO_buildSlice rfl (EL rfl) (SZ rfl) (AG rfl) (ZR rfl) rfl rfl rfl rfl rfl rfl rfl | exact PO_nilCheck rfl rfl | exact PO_conv_int rfl (IK rfl) (IK rfl) rfl)) | (apply POpsD_run rfl rfl; focus (first | exact Cond_c (PO_quo rfl rfl rfl (by decide)) | exact Cond_c (PO_rem rfl rfl rfl (by decide)) | exact Cond_c (PO_conv_int rfl (IK rfl) (IK rfl) rfl) | exact Cond_c (PO_makeFunc rfl) | exact Cond_c (PO_buildSlice rfl (EL rfl) (SZ rfl) (AG rfl) (ZR rfl) rfl rfl rfl rfl rfl rfl rfl) | exact Cond_f (fun _ => PO_quo rfl rfl rfl (by decide)) | exact Cond_f (fun _ => PO_rem rfl rfl rfl (by decide)) | exact Cond_f (fun _ => PO_conv_int rfl (IK rfl) (IK rfl) rfl) | exact Cond_f (fun _ => PO_makeFunc rfl) | exact Cond_f (fun _ => PO_buildSlice rfl (EL rfl) (SZ rfl) (AG rfl) (ZR rfl) rfl rfl rfl rfl rfl rfl rfl) | exact Cond_f (fun _ => PO_nilCheck rfl rfl) | exact Cond_f (fun _ => PO_conv_int rfl (IK rfl) (IK rfl) rfl))) | refine PW_seq ?_ | refine PW_region ?_ | refine PW_draw_all mixed (by kernel_rfl) ?_ | refine PW_block ?_ | (refine PW_skip ?_; try show PW _ _ _ _ _ _) | (refine PW_exit ?_; try show PW _ _ _ _ _ _) | (refine PW_ret ?_; try show PW _ _ _ _ _ _) | refine PW_cond_t rfl ?_ | refine PW_cond_f rfl ?_) | refine POps_split rfl rfl (fun h => ?_) (fun h => ?_) | refine POpsD_split rfl rfl (fun h => ?_) (fun h => ?_) | refine PW_cond rfl (fun h => ?_) (fun h => ?_)))
                  · rw [hod] at h
                    rw [if_pos (of_decide_eq_true h)] at hu
                    (refine ⟨SlotsOk.le ?_, HLe.of_eq ?_⟩; (repeat (first | exact meet_nil | refine meet_cons (.inl rfl) ?_ | refine meet_cons (.inr rfl) ?_ | refine meet_cons (.inl (by simp_all)) ?_)))
                    rw [hu, hcw]
                    rfl
                  · rw [hod] at h
                    rw [if_neg (of_decide_eq_false h)] at hu
                    (refine ⟨SlotsOk.le ?_, HLe.of_eq ?_⟩; (repeat (first | exact meet_nil | refine meet_cons (.inl rfl) ?_ | refine meet_cons (.inr rfl) ?_ | refine meet_cons (.inl (by simp_all)) ?_)))
                    rw [hu, hcw]
                    rfl
                · (repeat' (first | (first | (refine POps_nil ?_; try show PW _ _ _ _ _ _) | (refine POpsD_nil ?_; try show PW _ _ _ _ _ _) | refine runO_ok tabOk 300 rfl rfl ?_ | refine runO_ok tabOk 6 rfl rfl ?_ | refine runO_ok tabOk 1 rfl rfl ?_ | refine runD_ok tabOk 300 rfl rfl ?_ | refine runD_ok tabOk 6 rfl rfl ?_ | refine runD_ok tabOk 1 rfl rfl ?_ | (apply POps_run rfl rfl; focus (first | exact call_pure rfl rfl (EN rfl) (n2) rfl rfl rfl | exact call_pure rfl rfl (EN rfl) (n3) rfl rfl rfl | exact PO_slice_bys ((l.drop q2).take n) q2 (q2 + n) rfl (EL rfl) (SZ rfl) rfl rfl rfl rfl hc2 (by omega) (by omega) (by rw [Nat.add_sub_cancel_left]) | exact PO_conv_bytes rfl (EL rfl) (IK rfl) (ST rfl) rfl | exact PO_conv_int rfl (IK rfl) (IK rfl) rfl | exact PO_makeFunc rfl | exact PO_buildSlice rfl (EL rfl) (SZ rfl) (AG rfl) (ZR rfl) rfl rfl rfl rfl rfl rfl rfl | exact PO_nilCheck rfl rfl | exact PO_conv_int rfl (IK rfl) (IK rfl) rfl)) | (apply POpsD_run rfl rfl; focus (first | exact Cond_c (call_pure rfl rfl (EN rfl) (n2) rfl rfl rfl) | exact Cond_c (call_pure rfl rfl (EN rfl) (n3) rfl rfl rfl) | exact Cond_c (PO_slice_bys ((l.drop q2).take n) q2 (q2 + n) rfl (EL rfl) (SZ rfl) rfl rfl rfl rfl hc2 (by omega) (by omega) (by rw [Nat.add_sub_cancel_left])) | exact Cond_c (PO_conv_bytes rfl (EL rfl) (IK rfl) (ST rfl) rfl) | exact Cond_c (PO_conv_int rfl (IK rfl) (IK rfl) rfl) | exact Cond_c (PO_makeFunc rfl) | exact Cond_c (PO_buildSlice rfl (EL rfl) (SZ rfl) (AG rfl) (ZR rfl) rfl rfl rfl rfl rfl rfl rfl) | exact Cond_f (fun _ => call_pure rfl rfl (EN rfl) (n2) rfl rfl rfl) | exact Cond_f (fun _ => call_pure rfl rfl (EN rfl) (n3) rfl rfl rfl) | exact Cond_f (fun _ => PO_slice_bys ((l.drop q2).take n) q2 (q2 + n) rfl (EL rfl) (SZ rfl) rfl rfl rfl rfl hc2 (by omega) (by omega) (by rw [Nat.add_sub_cancel_left])) | exact Cond_f (fun _ => PO_conv_bytes rfl (EL rfl) (IK rfl) (ST rfl) rfl) | exact Cond_f (fun _ => PO_conv_int rfl (IK rfl) (IK rfl) rfl) | exact Cond_f (fun _ => PO_makeFunc rfl) | exact Cond_f (fun _ => PO_buildSlice rfl (EL rfl) (SZ rfl) (AG rfl) (ZR rfl) rfl rfl rfl rfl rfl rfl rfl) | exact Cond_f (fun _ => PO_nilCheck rfl rfl) | exact Cond_f (fun _ => PO_conv_int rfl (IK rfl) (IK rfl) rfl))) | refine PW_seq ?_ | refine PW_region ?_ | refine PW_draw_all mixed (by kernel_rfl) ?_ | refine PW_block ?_ | (refine PW_skip ?_; try show PW _ _ _ _ _ _) | (refine PW_exit ?_; try show PW _ _ _ _ _ _) | (refine PW_ret ?_; try show PW _ _ _ _ _ _) | refine PW_cond_t rfl ?_ | refine PW_cond_f rfl ?_) | refine POps_split rfl rfl (fun h => ?_) (fun h => ?_) | refine POpsD_split rfl rfl (fun h => ?_) (fun h => ?_) | refine PW_cond rfl (fun h => ?_) (fun h => ?_)))
                  all_goals (try simp only [decide_eq_true_eq, decide_eq_false_iff_not, beq_iff_eq, bne_iff_ne, beq_eq_false_iff_ne, bne_eq_false_iff_eq, Bool.not_eq_true', Bool.not_eq_false', gt_iff_lt, ge_iff_le, ne_eq] at *)
                  all_goals try (exfalso; first | omega | (simp only [bys_len] at *; omega))
                  refine PW_bufbox 1 3 30 (SZ rfl) rfl rfl ?_
                  refine PW_loop_cut (S := Nat × Nat) (fun s => [(0, .g (.sl (bys l))), (1, .g (.int .i64 (s.2 : Int))), (2, .g (.int .i64 (41 - ((f + 1 : Nat) : Int)))), (6, .ptr 0 0), (8, .ptr 1 0), (11, .g (.int .u64 ((m - s.1 : Nat) : Int)))])
                    (fun s => ⟨[[.g (.int .i64 0), .g (.int .i64 0), .g (.str ⟨#[]⟩), .nils], [.g (.int .i64 ch.toNat), .g (.int .i64 (unfold64 x)), .g (.str ⟨((l.drop q2).take n).toArray⟩), .own (Tr.gs (kidsGo (treeGo f) s.1 (l.drop q3) false).1) 0]], [(30, s.1)], []⟩)
                    (fun s => s.1 ≤ m ∧ s.2 ≤ l.length ∧ (kidsGo (treeGo f) s.1 (l.drop q3) false).2 = (l.drop s.2, false)) (fun s => m - s.1) (0, q3) ⟨Nat.zero_le _, hql3, rfl⟩ ?_ ?_ (fun _ => rfl) (fun s hs => ?_)
                  · exact SlotsOk.le ⟨.inl rfl, .inl rfl, .inl rfl, .inl rfl, .inl rfl, .inl rfl, trivial⟩
                  · exact HLe.of_eq rfl
                  obtain ⟨i, q'⟩ := s
                  obtain ⟨hi, hq', hK⟩ := hs
                  dsimp only at hi hq' hK ⊢
                  (repeat (first | (refine POps_nil ?_; try show PW _ _ _ _ _ _) | (refine POpsD_nil ?_; try show PW _ _ _ _ _ _) | refine runO_ok tabOk 300 rfl rfl ?_ | refine runO_ok tabOk 6 rfl rfl ?_ | refine runO_ok tabOk 1 rfl rfl ?_ | refine runD_ok tabOk 300 rfl rfl ?_ | refine runD_ok tabOk 6 rfl rfl ?_ | refine runD_ok tabOk 1 rfl rfl ?_ | (apply POps_run rfl rfl; focus (first | exact PO_conv_int rfl (IK rfl) (IK rfl) rfl | exact PO_makeFunc rfl | exact PO_buildSlice rfl (EL rfl) (SZ rfl) (AG rfl) (ZR rfl) rfl rfl rfl rfl rfl rfl rfl | exact PO_nilCheck rfl rfl | exact PO_conv_int rfl (IK rfl) (IK rfl) rfl)) | (apply POpsD_run rfl rfl; focus (first | exact Cond_c (PO_conv_int rfl (IK rfl) (IK rfl) rfl) | exact Cond_c (PO_makeFunc rfl) | exact Cond_c (PO_buildSlice rfl (EL rfl) (SZ rfl) (AG rfl) (ZR rfl) rfl rfl rfl rfl rfl rfl rfl) | exact Cond_f (fun _ => PO_conv_int rfl (IK rfl) (IK rfl) rfl) | exact Cond_f (fun _ => PO_makeFunc rfl) | exact Cond_f (fun _ => PO_buildSlice rfl (EL rfl) (SZ rfl) (AG rfl) (ZR rfl) rfl rfl rfl rfl rfl rfl rfl) | exact Cond_f (fun _ => PO_nilCheck rfl rfl) | exact Cond_f (fun _ => PO_conv_int rfl (IK rfl) (IK rfl) rfl))) | refine PW_seq ?_ | refine PW_region ?_ | refine PW_draw_all mixed (by kernel_rfl) ?_ | refine PW_block ?_ | (refine PW_skip ?_; try show PW _ _ _ _ _ _) | (refine PW_exit ?_; try show PW _ _ _ _ _ _) | (refine PW_ret ?_; try show PW _ _ _ _ _ _) | refine PW_cond_t rfl ?_ | refine PW_cond_f rfl ?_))
                  (first | refine POps_split rfl rfl (fun h => ?_) (fun h => ?_) | refine POpsD_split rfl rfl (fun h => ?_) (fun h => ?_) | refine PW_cond rfl (fun h => ?_) (fun h => ?_))
                  · have hlt : i < m := by have := of_decide_eq_true h; omega
                    have hks := kids_count (treeGo f) i (l.drop q3) false
                    have hks2 := kids_succ (treeGo f) i (l.drop q3) false
                    rw [hK] at hks2
                    dsimp only at hks2
                    have hf4 : 4 * i ≤ (l.drop q3).length := kids_few f (by rw [hK])
                    rw [List.length_drop] at hf4
                    have hT := tree_at f l q' (by omega) hl hq'
                    have hdp : IntKind.i64.wrap ((41 : Int) - ((f + 1 : Nat) : Int) + 1) = 41 - (f : Int) := by rw [wrap64 (by omega)]; omega
                    rw [← hdp] at hT
                    rcases treeAt_cases f l q' hq' with ⟨hA, hbad⟩ | ⟨t, q4, hA, hq4, hql4, hgo⟩
                    · rw [hA] at hT
                      unfold noTree at hT
                      dsimp only at hT
                      have hK1 : (kidsGo (treeGo f) (i + 1) (l.drop q3) false).2.2 = true := by rw [hks2]; exact hbad
                      have hta := treeAt_bad (htk1 (kids_stop f hK1 hlt))
                      rw [hta]
                      (repeat (first | (refine POps_nil ?_; try show PW _ _ _ _ _ _) | (refine POpsD_nil ?_; try show PW _ _ _ _ _ _) | refine runO_ok tabOk 300 rfl rfl ?_ | refine runO_ok tabOk 6 rfl rfl ?_ | refine runO_ok tabOk 1 rfl rfl ?_ | refine runD_ok tabOk 300 rfl rfl ?_ | refine runD_ok tabOk 6 rfl rfl ?_ | refine runD_ok tabOk 1 rfl rfl ?_ | (apply POps_run rfl rfl; focus (first | exact call_pure rfl rfl (EN rfl) (hT) rfl rfl rfl | exact PO_conv_int rfl (IK rfl) (IK rfl) rfl | exact PO_makeFunc rfl | exact PO_buildSlice rfl (EL rfl) (SZ rfl) (AG rfl) (ZR rfl) rfl rfl rfl rfl rfl rfl rfl | exact PO_nilCheck rfl rfl | exact PO_conv_int rfl (IK rfl) (IK rfl) rfl)) | (apply POpsD_run rfl rfl; focus (first | exact Cond_c (call_pure rfl rfl (EN rfl) (hT) rfl rfl rfl) | exact Cond_c (PO_conv_int rfl (IK rfl) (IK rfl) rfl) | exact Cond_c (PO_makeFunc rfl) | exact Cond_c (PO_buildSlice rfl (EL rfl) (SZ rfl) (AG rfl) (ZR rfl) rfl rfl rfl rfl rfl rfl rfl) | exact Cond_f (fun _ => call_pure rfl rfl (EN rfl) (hT) rfl rfl rfl) | exact Cond_f (fun _ => PO_conv_int rfl (IK rfl) (IK rfl) rfl) | exact Cond_f (fun _ => PO_makeFunc rfl) | exact Cond_f (fun _ => PO_buildSlice rfl (EL rfl) (SZ rfl) (AG rfl) (ZR rfl) rfl rfl rfl rfl rfl rfl rfl) | exact Cond_f (fun _ => PO_nilCheck rfl rfl) | exact Cond_f (fun _ => PO_conv_int rfl (IK rfl) (IK rfl) rfl))) | refine PW_seq ?_ | refine PW_region ?_ | refine PW_draw_all mixed (by kernel_rfl) ?_ | refine PW_block ?_ | (refine PW_skip ?_; try show PW _ _ _ _ _ _) | (refine PW_exit ?_; try show PW _ _ _ _ _ _) | (refine PW_ret ?_; try show PW _ _ _ _ _ _) | refine PW_cond_t rfl ?_ | refine PW_cond_f rfl ?_))
                      exact Ret_two (resVs_cons (resV_agg (AG rfl) (SZ rfl) rfl rfl (Nat.le_of_ble_eq_true rfl)) (resVs_cons resV_tmp resVs_nil)) rfl rfl rfl
                    · obtain ⟨ta, tb, tc, td⟩ := t
                      rw [hA] at hT
                      dsimp only at hT
                      rw [hgo] at hks2
                      dsimp only at hks2
                      have hxs : ∀ x ∈ [(Tr.mk ta tb tc td).g], x.cells.length = 4 := by
                        intro x hx; rw [List.mem_singleton.1 hx]; exact g_cells _
                      (repeat (first | (refine POps_nil ?_; try show PW _ _ _ _ _ _) | (refine POpsD_nil ?_; try show PW _ _ _ _ _ _) | refine runO_ok tabOk 300 rfl rfl ?_ | refine runO_ok tabOk 6 rfl rfl ?_ | refine runO_ok tabOk 1 rfl rfl ?_ | refine runD_ok tabOk 300 rfl rfl ?_ | refine runD_ok tabOk 6 rfl rfl ?_ | refine runD_ok tabOk 1 rfl rfl ?_ | (apply POps_run rfl rfl; focus (first | exact call_pure rfl rfl (EN rfl) (hT) rfl rfl rfl | exact PO_append (xs := [(Tr.mk ta tb tc td).g]) rfl (EL rfl) (SZ rfl) (BY rfl) (ZR rfl) rfl rfl rfl rfl (by rw [gs_len]; exact hks) hxs (by simp; omega) (by simp [maxLen]; omega) | exact PO_conv_int rfl (IK rfl) (IK rfl) rfl | exact PO_makeFunc rfl | exact PO_buildSlice rfl (EL rfl) (SZ rfl) (AG rfl) (ZR rfl) rfl rfl rfl rfl rfl rfl rfl | exact PO_nilCheck rfl rfl | exact PO_conv_int rfl (IK rfl) (IK rfl) rfl)) | (apply POpsD_run rfl rfl; focus (first | exact Cond_c (call_pure rfl rfl (EN rfl) (hT) rfl rfl rfl) | exact Cond_c (PO_append (xs := [(Tr.mk ta tb tc td).g]) rfl (EL rfl) (SZ rfl) (BY rfl) (ZR rfl) rfl rfl rfl rfl (by rw [gs_len]; exact hks) hxs (by simp; omega) (by simp [maxLen]; omega)) | exact Cond_c (PO_conv_int rfl (IK rfl) (IK rfl) rfl) | exact Cond_c (PO_makeFunc rfl) | exact Cond_c (PO_buildSlice rfl (EL rfl) (SZ rfl) (AG rfl) (ZR rfl) rfl rfl rfl rfl rfl rfl rfl) | exact Cond_f (fun _ => call_pure rfl rfl (EN rfl) (hT) rfl rfl rfl) | exact Cond_f (fun _ => PO_append (xs := [(Tr.mk ta tb tc td).g]) rfl (EL rfl) (SZ rfl) (BY rfl) (ZR rfl) rfl rfl rfl rfl (by rw [gs_len]; exact hks) hxs (by simp; omega) (by simp [maxLen]; omega)) | exact Cond_f (fun _ => PO_conv_int rfl (IK rfl) (IK rfl) rfl) | exact Cond_f (fun _ => PO_makeFunc rfl) | exact Cond_f (fun _ => PO_buildSlice rfl (EL rfl) (SZ rfl) (AG rfl) (ZR rfl) rfl rfl rfl rfl rfl rfl rfl) | exact Cond_f (fun _ => PO_nilCheck rfl rfl) | exact Cond_f (fun _ => PO_conv_int rfl (IK rfl) (IK rfl) rfl))) | refine PW_seq ?_ | refine PW_region ?_ | refine PW_draw_all mixed (by kernel_rfl) ?_ | refine PW_block ?_ | (refine PW_skip ?_; try show PW _ _ _ _ _ _) | (refine PW_exit ?_; try show PW _ _ _ _ _ _) | (refine PW_ret ?_; try show PW _ _ _ _ _ _) | refine PW_cond_t rfl ?_ | refine PW_cond_f rfl ?_))
                      refine ⟨(i + 1, q4), ⟨hlt, hql4, by rw [hks2]⟩, by dsimp only; omega, ?_, Drops.mk [[.g (.int .i64 ta), .g (.int .i64 tb), .g (.str tc), .g (.sl (Tr.gs td))]] [] [] ?_⟩
                      · exact SlotsOk.le ⟨.inl rfl, .inl rfl, .inl rfl, .inl rfl, .inl rfl, .inl (congrArg (fun z => PV.g (.int .u64 z)) (by rw [show ((m - i : Nat) : Int) - 1 = ((m - (i + 1) : Nat) : Int) by omega, u64mod, Nat.mod_eq_of_lt (by omega)])), trivial⟩
                      · rw [hks2]
                        dsimp only
                        rw [gs_append]
                        rfl
                  · have hi' : i = m := by have := of_decide_eq_false h; omega
                    subst hi'
                    have hgd := htk2 (by rw [hK])
                    rw [hK] at hgd
                    have hta := treeAt_good hgd hq'
                    rw [hta]
                    (repeat (first | (refine POps_nil ?_; try show PW _ _ _ _ _ _) | (refine POpsD_nil ?_; try show PW _ _ _ _ _ _) | refine runO_ok tabOk 300 rfl rfl ?_ | refine runO_ok tabOk 6 rfl rfl ?_ | refine runO_ok tabOk 1 rfl rfl ?_ | refine runD_ok tabOk 300 rfl rfl ?_ | refine runD_ok tabOk 6 rfl rfl ?_ | refine runD_ok tabOk 1 rfl rfl ?_ | (apply POps_run rfl rfl; focus (first | exact PO_conv_int rfl (IK rfl) (IK rfl) rfl | exact PO_makeFunc rfl | exact PO_buildSlice rfl (EL rfl) (SZ rfl) (AG rfl) (ZR rfl) rfl rfl rfl rfl rfl rfl rfl | exact PO_nilCheck rfl rfl | exact PO_conv_int rfl (IK rfl) (IK rfl) rfl)) | (apply POpsD_run rfl rfl; focus (first | exact Cond_c (PO_conv_int rfl (IK rfl) (IK rfl) rfl) | exact Cond_c (PO_makeFunc rfl) | exact Cond_c (PO_buildSlice rfl (EL rfl) (SZ rfl) (AG rfl) (ZR rfl) rfl rfl rfl rfl rfl rfl rfl) | exact Cond_f (fun _ => PO_conv_int rfl (IK rfl) (IK rfl) rfl) | exact Cond_f (fun _ => PO_makeFunc rfl) | exact Cond_f (fun _ => PO_buildSlice rfl (EL rfl) (SZ rfl) (AG rfl) (ZR rfl) rfl rfl rfl rfl rfl rfl rfl) | exact Cond_f (fun _ => PO_nilCheck rfl rfl) | exact Cond_f (fun _ => PO_conv_int rfl (IK rfl) (IK rfl) rfl))) | refine PW_seq ?_ | refine PW_region ?_ | refine PW_draw_all mixed (by kernel_rfl) ?_ | refine PW_block ?_ | (refine PW_skip ?_; try show PW _ _ _ _ _ _) | (refine PW_exit ?_; try show PW _ _ _ _ _ _) | (refine PW_ret ?_; try show PW _ _ _ _ _ _) | refine PW_cond_t rfl ?_ | refine PW_cond_f rfl ?_))
                    exact Ret_two (resVs_cons (resV_agg (AG rfl) (SZ rfl) rfl rfl (Nat.le_of_ble_eq_true rfl)) (resVs_cons resV_tmp resVs_nil)) rfl rfl rfl
    · have hta : treeAt (f + 1) l p = (noTree, -1) := treeAt_bad (tree_out (by omega))
      rw [hta]
      refine PC_of_PW Try.func56 rfl rfl (rs := _) rfl (Nat.le_of_ble_eq_true (by kernel_rfl)) ?_
      (repeat' (first | (first | (refine POps_nil ?_; try show PW _ _ _ _ _ _) | (refine POpsD_nil ?_; try show PW _ _ _ _ _ _) | refine runO_ok tabOk 300 rfl rfl ?_ | refine runO_ok tabOk 6 rfl rfl ?_ | refine runO_ok tabOk 1 rfl rfl ?_ | refine runD_ok tabOk 300 rfl rfl ?_ | refine runD_ok tabOk 6 rfl rfl ?_ | refine runD_ok tabOk 1 rfl rfl ?_ | (apply POps_run rfl rfl; focus (first | exact PO_conv_int rfl (IK rfl) (IK rfl) rfl | exact PO_makeFunc rfl | exact PO_buildSlice rfl (EL rfl) (SZ rfl) (AG rfl) (ZR rfl) rfl rfl rfl rfl rfl rfl rfl | exact PO_nilCheck rfl rfl | exact PO_conv_int rfl (IK rfl) (IK rfl) rfl)) | (apply POpsD_run rfl rfl; focus (first | exact Cond_c (PO_conv_int rfl (IK rfl) (IK rfl) rfl) | exact Cond_c (PO_makeFunc rfl) | exact Cond_c (PO_buildSlice rfl (EL rfl) (SZ rfl) (AG rfl) (ZR rfl) rfl rfl rfl rfl rfl rfl rfl) | exact Cond_f (fun _ => PO_conv_int rfl (IK rfl) (IK rfl) rfl) | exact Cond_f (fun _ => PO_makeFunc rfl) | exact Cond_f (fun _ => PO_buildSlice rfl (EL rfl) (SZ rfl) (AG rfl) (ZR rfl) rfl rfl rfl rfl rfl rfl rfl) | exact Cond_f (fun _ => PO_nilCheck rfl rfl) | exact Cond_f (fun _ => PO_conv_int rfl (IK rfl) (IK rfl) rfl))) | refine PW_seq ?_ | refine PW_region ?_ | refine PW_draw_all mixed (by kernel_rfl) ?_ | refine PW_block ?_ | (refine PW_skip ?_; try show PW _ _ _ _ _ _) | (refine PW_exit ?_; try show PW _ _ _ _ _ _) | (refine PW_ret ?_; try show PW _ _ _ _ _ _) | refine PW_cond_t rfl ?_ | refine PW_cond_f rfl ?_) | refine POps_split rfl rfl (fun h => ?_) (fun h => ?_) | refine POpsD_split rfl rfl (fun h => ?_) (fun h => ?_) | refine PW_cond rfl (fun h => ?_) (fun h => ?_)))
      all_goals (try simp only [decide_eq_true_eq, decide_eq_false_iff_not, beq_iff_eq, bne_iff_ne, beq_eq_false_iff_ne, bne_eq_false_iff_eq, Bool.not_eq_true', Bool.not_eq_false', gt_iff_lt, ge_iff_le, ne_eq] at *)
      all_goals first
        | (exfalso; omega)
        | (exfalso; simp only [bys_len] at *; omega)
        | exact Ret_two (resVs_cons (resV_agg (AG rfl) (SZ rfl) rfl rfl (Nat.le_of_ble_eq_true rfl)) (resVs_cons resV_tmp resVs_nil)) rfl rfl rfl
end Go.Proofs.Ytffpepmfdjjjaaa

namespace Go.Proofs.Ytffpepmfdjjjaaa
open Go.Pure
attribute [local irreducible] PW POps POpsD PO PC Cond

theorem eq_of_all {a b : List UInt8} (hl : a.length = b.length) (h : ∀ j, j < a.length → a[j]? = b[j]?) : a = b := by
  apply List.ext_getElem? 
  intro i
  by_cases hi : i < a.length
  · exact h i hi
  · rw [List.getElem?_eq_none (by omega), List.getElem?_eq_none (by omega)]

set_option maxRecDepth 100000 in
set_option maxHeartbeats 8000000 in
theorem parse_ref_b (body tl : List UInt8) (s : BitVec 32) (htl : tl.length = 4) (hs : tl = four (sumB body) ↔ sumB body = s) (hl : body.length + 4 ≤ 100000) :
    PC Try.prog 25 [.g (.sl (bys (body ++ tl)))] ⟨[], [], []⟩ (.tuple [.g (parseB body s).1.g, .g (.int .i64 (parseB body s).2)]) ⟨[], [], []⟩ := by
  generalize hll : body ++ tl = l
  have hlen : l.length = body.length + 4 := by rw [← hll]; simp [htl]
  have hw : IntKind.i64.wrap (((bys l).length : Int) - 4) = (body.length : Int) := by rw [bys_len, hlen]; rw [wrap64 (by omega)]; omega
  have hsum := sum_ref body (by omega)
  have hfour := four_ref (sumB body)
  have htake : (l.drop 0).take (body.length - 0) = body := by rw [← hll]; simp
  have hfl : (four (sumB body)).length = 4 := by simp [four]
  obtain ⟨R, hpb⟩ : ∃ R, parseB body s = R := ⟨_, rfl⟩
  rw [hpb]
  unfold parseB at hpb
  generalize four (sumB body) = fs at hfour hs hfl
  have ht : PC Try.prog 56 [.g (.sl (bys body)), .g (.int .i64 0), .g (.int .i64 1)] ⟨[], [], []⟩ (.tuple [.g (treeAt 40 body 0).1.g, .g (.int .i64 (treeAt 40 body 0).2)]) ⟨[], [], []⟩ := tree_at 40 body 0 (Nat.le_refl _) (by omega) (Nat.zero_le _)
  have hcs := treeAt_cases 40 body 0 (Nat.zero_le _)
  have hok := tree_ok 40 body false (by omega)
  rw [List.drop_zero] at hcs
  refine PC_of_PW Try.func25 rfl rfl (rs := _) rfl (Nat.le_of_ble_eq_true (by kernel_rfl)) ?_
  (repeat' (first | (first | (refine POps_nil ?_; try show PW _ _ _ _ _ _) | (refine POpsD_nil ?_; try show PW _ _ _ _ _ _) | refine runO_ok tabOk 300 rfl rfl ?_ | refine runO_ok tabOk 6 rfl rfl ?_ | refine runO_ok tabOk 1 rfl rfl ?_ | refine runD_ok tabOk 300 rfl rfl ?_ | refine runD_ok tabOk 6 rfl rfl ?_ | refine runD_ok tabOk 1 rfl rfl ?_ | (apply POps_run rfl rfl; focus (first | exact call_pure rfl rfl (EN rfl) (hsum) rfl rfl rfl | exact call_pure rfl rfl (EN rfl) (hfour) rfl rfl rfl | exact PO_slice_bys body 0 body.length rfl (EL rfl) (SZ rfl) rfl rfl rfl rfl hw (Nat.zero_le _) (by omega) htake | exact PO_conv_int rfl (IK rfl) (IK rfl) rfl | exact PO_makeFunc rfl | exact PO_buildSlice rfl (EL rfl) (SZ rfl) (AG rfl) (ZR rfl) rfl rfl rfl rfl rfl rfl rfl | exact PO_nilCheck rfl rfl | exact PO_conv_int rfl (IK rfl) (IK rfl) rfl)) | (apply POpsD_run rfl rfl; focus (first | exact Cond_c (call_pure rfl rfl (EN rfl) (hsum) rfl rfl rfl) | exact Cond_c (call_pure rfl rfl (EN rfl) (hfour) rfl rfl rfl) | exact Cond_c (PO_slice_bys body 0 body.length rfl (EL rfl) (SZ rfl) rfl rfl rfl rfl hw (Nat.zero_le _) (by omega) htake) | exact Cond_c (PO_conv_int rfl (IK rfl) (IK rfl) rfl) | exact Cond_c (PO_makeFunc rfl) | exact Cond_c (PO_buildSlice rfl (EL rfl) (SZ rfl) (AG rfl) (ZR rfl) rfl rfl rfl rfl rfl rfl rfl) | exact Cond_f (fun _ => call_pure rfl rfl (EN rfl) (hsum) rfl rfl rfl) | exact Cond_f (fun _ => call_pure rfl rfl (EN rfl) (hfour) rfl rfl rfl) | exact Cond_f (fun _ => PO_slice_bys body 0 body.length rfl (EL rfl) (SZ rfl) rfl rfl rfl rfl hw (Nat.zero_le _) (by omega) htake) | exact Cond_f (fun _ => PO_conv_int rfl (IK rfl) (IK rfl) rfl) | exact Cond_f (fun _ => PO_makeFunc rfl) | exact Cond_f (fun _ => PO_buildSlice rfl (EL rfl) (SZ rfl) (AG rfl) (ZR rfl) rfl rfl rfl rfl rfl rfl rfl) | exact Cond_f (fun _ => PO_nilCheck rfl rfl) | exact Cond_f (fun _ => PO_conv_int rfl (IK rfl) (IK rfl) rfl))) | refine PW_seq ?_ | refine PW_region ?_ | refine PW_draw_all mixed (by kernel_rfl) ?_ | refine PW_block ?_ | (refine PW_skip ?_; try show PW _ _ _ _ _ _) | (refine PW_exit ?_; try show PW _ _ _ _ _ _) | (refine PW_ret ?_; try show PW _ _ _ _ _ _) | refine PW_cond_t rfl ?_ | refine PW_cond_f rfl ?_) | refine POps_split rfl rfl (fun h => ?_) (fun h => ?_) | refine POpsD_split rfl rfl (fun h => ?_) (fun h => ?_) | refine PW_cond rfl (fun h => ?_) (fun h => ?_)))
  all_goals (try simp only [decide_eq_true_eq, decide_eq_false_iff_not, beq_iff_eq, bne_iff_ne, beq_eq_false_iff_ne, bne_eq_false_iff_eq, Bool.not_eq_true', Bool.not_eq_false', gt_iff_lt, ge_iff_le, ne_eq] at *)
  all_goals try (exfalso; first | omega | (simp only [bys_len] at *; omega))
  refine PW_loop (S := Nat) (fun i => slots [(0, .g (.sl (bys l))), (2, .ptr 0 0), (4, .g (.int .i64 (body.length : Int))), (24, .g (.sl (bys fs))), (25, .g (.int .i64 4)), (26, .g (.int .i64 (i : Int)))]) (fun _ => ⟨[[.g (.int .i64 0), .g (.int .i64 0), .g (.str ⟨#[]⟩), .nils]], [], []⟩)
    (fun i => i ≤ 4 ∧ ∀ j, j < i → tl[j]? = fs[j]?) (fun i => 4 - i) 0 ⟨Nat.zero_le _, fun j hj => absurd hj (Nat.not_lt_zero _)⟩ ?_ ?_ (fun i hi => ?_)
  · refine SlotsOk.le ⟨.inl rfl, .inl rfl, .inl (congrArg (fun z => PV.g (.int .i64 z)) hw), .inl rfl, .inl (congrArg (fun z => PV.g (.int .i64 z)) ?_), .inl rfl, trivial⟩
    rw [bys_len, hfl]; rfl
  · exact HLe.of_eq rfl
  obtain ⟨hi, heq⟩ := hi
  (repeat (first | (refine POps_nil ?_; try show PW _ _ _ _ _ _) | (refine POpsD_nil ?_; try show PW _ _ _ _ _ _) | refine runO_ok tabOk 300 rfl rfl ?_ | refine runO_ok tabOk 6 rfl rfl ?_ | refine runO_ok tabOk 1 rfl rfl ?_ | refine runD_ok tabOk 300 rfl rfl ?_ | refine runD_ok tabOk 6 rfl rfl ?_ | refine runD_ok tabOk 1 rfl rfl ?_ | (apply POps_run rfl rfl; focus (first | exact PO_conv_int rfl (IK rfl) (IK rfl) rfl | exact PO_makeFunc rfl | exact PO_buildSlice rfl (EL rfl) (SZ rfl) (AG rfl) (ZR rfl) rfl rfl rfl rfl rfl rfl rfl | exact PO_nilCheck rfl rfl | exact PO_conv_int rfl (IK rfl) (IK rfl) rfl)) | (apply POpsD_run rfl rfl; focus (first | exact Cond_c (PO_conv_int rfl (IK rfl) (IK rfl) rfl) | exact Cond_c (PO_makeFunc rfl) | exact Cond_c (PO_buildSlice rfl (EL rfl) (SZ rfl) (AG rfl) (ZR rfl) rfl rfl rfl rfl rfl rfl rfl) | exact Cond_f (fun _ => PO_conv_int rfl (IK rfl) (IK rfl) rfl) | exact Cond_f (fun _ => PO_makeFunc rfl) | exact Cond_f (fun _ => PO_buildSlice rfl (EL rfl) (SZ rfl) (AG rfl) (ZR rfl) rfl rfl rfl rfl rfl rfl rfl) | exact Cond_f (fun _ => PO_nilCheck rfl rfl) | exact Cond_f (fun _ => PO_conv_int rfl (IK rfl) (IK rfl) rfl))) | refine PW_seq ?_ | refine PW_region ?_ | refine PW_draw_all mixed (by kernel_rfl) ?_ | refine PW_block ?_ | (refine PW_skip ?_; try show PW _ _ _ _ _ _) | (refine PW_exit ?_; try show PW _ _ _ _ _ _) | (refine PW_ret ?_; try show PW _ _ _ _ _ _) | refine PW_cond_t rfl ?_ | refine PW_cond_f rfl ?_))
  (first | refine POps_split rfl rfl (fun h => ?_) (fun h => ?_) | refine POpsD_split rfl rfl (fun h => ?_) (fun h => ?_) | refine PW_cond rfl (fun h => ?_) (fun h => ?_))
  · have hlt : i < 4 := by have := of_decide_eq_true h; omega
    have hga := bys_get (l := fs) (i := i) (by omega)
    have hlg : (bys l)[(IntKind.i64.wrap ((body.length : Int) + (i : Int))).toNat]? = some (byteG (tl[i]'(by omega))) := by
      rw [wrap64 (by omega), ← hll, show ((body.length : Int) + (i : Int)).toNat = body.length + i by omega]
      unfold bys
      rw [List.map_append, List.getElem?_append_right (by simp)]
      simp
      exact ⟨_, List.getElem?_eq_getElem _, rfl⟩
    have hp0 : 0 ≤ IntKind.i64.wrap ((body.length : Int) + (i : Int)) := by rw [wrap64 (by omega)]; omega
    have hta : tl[i]? = some (tl[i]'(by omega)) := List.getElem?_eq_getElem _
    have htb : fs[i]? = some (fs[i]'(by omega)) := List.getElem?_eq_getElem _
    generalize fs[i]'(by omega) = x at hga htb
    generalize tl[i]'(by omega) = y at hlg hta
    (repeat (first | (refine POps_nil ?_; try show PW _ _ _ _ _ _) | (refine POpsD_nil ?_; try show PW _ _ _ _ _ _) | refine runO_ok tabOk 300 rfl rfl ?_ | refine runO_ok tabOk 6 rfl rfl ?_ | refine runO_ok tabOk 1 rfl rfl ?_ | refine runD_ok tabOk 300 rfl rfl ?_ | refine runD_ok tabOk 6 rfl rfl ?_ | refine runD_ok tabOk 1 rfl rfl ?_ | (apply POps_run rfl rfl; focus (first | exact PO_indexAddr rfl (EL rfl) (SZ rfl) rfl rfl (Int.natCast_nonneg _) hga rfl | exact PO_indexAddr rfl (EL rfl) (SZ rfl) rfl rfl hp0 hlg rfl | exact PO_conv_int rfl (IK rfl) (IK rfl) rfl | exact PO_makeFunc rfl | exact PO_buildSlice rfl (EL rfl) (SZ rfl) (AG rfl) (ZR rfl) rfl rfl rfl rfl rfl rfl rfl | exact PO_nilCheck rfl rfl | exact PO_conv_int rfl (IK rfl) (IK rfl) rfl)) | (apply POpsD_run rfl rfl; focus (first | exact Cond_c (PO_indexAddr rfl (EL rfl) (SZ rfl) rfl rfl (Int.natCast_nonneg _) hga rfl) | exact Cond_c (PO_indexAddr rfl (EL rfl) (SZ rfl) rfl rfl hp0 hlg rfl) | exact Cond_c (PO_conv_int rfl (IK rfl) (IK rfl) rfl) | exact Cond_c (PO_makeFunc rfl) | exact Cond_c (PO_buildSlice rfl (EL rfl) (SZ rfl) (AG rfl) (ZR rfl) rfl rfl rfl rfl rfl rfl rfl) | exact Cond_f (fun _ => PO_indexAddr rfl (EL rfl) (SZ rfl) rfl rfl (Int.natCast_nonneg _) hga rfl) | exact Cond_f (fun _ => PO_indexAddr rfl (EL rfl) (SZ rfl) rfl rfl hp0 hlg rfl) | exact Cond_f (fun _ => PO_conv_int rfl (IK rfl) (IK rfl) rfl) | exact Cond_f (fun _ => PO_makeFunc rfl) | exact Cond_f (fun _ => PO_buildSlice rfl (EL rfl) (SZ rfl) (AG rfl) (ZR rfl) rfl rfl rfl rfl rfl rfl rfl) | exact Cond_f (fun _ => PO_nilCheck rfl rfl) | exact Cond_f (fun _ => PO_conv_int rfl (IK rfl) (IK rfl) rfl))) | refine PW_seq ?_ | refine PW_region ?_ | refine PW_draw_all mixed (by kernel_rfl) ?_ | refine PW_block ?_ | (refine PW_skip ?_; try show PW _ _ _ _ _ _) | (refine PW_exit ?_; try show PW _ _ _ _ _ _) | (refine PW_ret ?_; try show PW _ _ _ _ _ _) | refine PW_cond_t rfl ?_ | refine PW_cond_f rfl ?_))
    (first | refine POps_split rfl rfl (fun h => ?_) (fun h => ?_) | refine POpsD_split rfl rfl (fun h => ?_) (fun h => ?_) | refine PW_cond rfl (fun h => ?_) (fun h => ?_))
    · have hne : y ≠ x := by rintro rfl; simp at h
      have hns : ¬ sumB body = s := fun hh => hne (by have := hs.2 hh; rw [this] at hta; rw [hta] at htb; cases htb; rfl)
      rw [if_pos hns] at hpb
      subst hpb
      (repeat (first | (refine POps_nil ?_; try show PW _ _ _ _ _ _) | (refine POpsD_nil ?_; try show PW _ _ _ _ _ _) | refine runO_ok tabOk 300 rfl rfl ?_ | refine runO_ok tabOk 6 rfl rfl ?_ | refine runO_ok tabOk 1 rfl rfl ?_ | refine runD_ok tabOk 300 rfl rfl ?_ | refine runD_ok tabOk 6 rfl rfl ?_ | refine runD_ok tabOk 1 rfl rfl ?_ | (apply POps_run rfl rfl; focus (first | exact PO_conv_int rfl (IK rfl) (IK rfl) rfl | exact PO_makeFunc rfl | exact PO_buildSlice rfl (EL rfl) (SZ rfl) (AG rfl) (ZR rfl) rfl rfl rfl rfl rfl rfl rfl | exact PO_nilCheck rfl rfl | exact PO_conv_int rfl (IK rfl) (IK rfl) rfl)) | (apply POpsD_run rfl rfl; focus (first | exact Cond_c (PO_conv_int rfl (IK rfl) (IK rfl) rfl) | exact Cond_c (PO_makeFunc rfl) | exact Cond_c (PO_buildSlice rfl (EL rfl) (SZ rfl) (AG rfl) (ZR rfl) rfl rfl rfl rfl rfl rfl rfl) | exact Cond_f (fun _ => PO_conv_int rfl (IK rfl) (IK rfl) rfl) | exact Cond_f (fun _ => PO_makeFunc rfl) | exact Cond_f (fun _ => PO_buildSlice rfl (EL rfl) (SZ rfl) (AG rfl) (ZR rfl) rfl rfl rfl rfl rfl rfl rfl) | exact Cond_f (fun _ => PO_nilCheck rfl rfl) | exact Cond_f (fun _ => PO_conv_int rfl (IK rfl) (IK rfl) rfl))) | refine PW_seq ?_ | refine PW_region ?_ | refine PW_draw_all mixed (by kernel_rfl) ?_ | refine PW_block ?_ | (refine PW_skip ?_; try show PW _ _ _ _ _ _) | (refine PW_exit ?_; try show PW _ _ _ _ _ _) | (refine PW_ret ?_; try show PW _ _ _ _ _ _) | refine PW_cond_t rfl ?_ | refine PW_cond_f rfl ?_))
      exact Ret_two (resVs_cons (resV_agg (AG rfl) (SZ rfl) rfl rfl (Nat.le_of_ble_eq_true rfl)) (resVs_cons resV_tmp resVs_nil)) rfl rfl rfl
    · have hxy : y = x := by
        have h' : ¬ ((y.toNat : Int) = x.toNat) → False := by simpa [bne] using h
        apply UInt8.toNat_inj.1
        by_cases hq : y.toNat = x.toNat
        · exact hq
        · exact absurd (fun e => hq (by omega)) h'
      (repeat (first | (refine POps_nil ?_; try show PW _ _ _ _ _ _) | (refine POpsD_nil ?_; try show PW _ _ _ _ _ _) | refine runO_ok tabOk 300 rfl rfl ?_ | refine runO_ok tabOk 6 rfl rfl ?_ | refine runO_ok tabOk 1 rfl rfl ?_ | refine runD_ok tabOk 300 rfl rfl ?_ | refine runD_ok tabOk 6 rfl rfl ?_ | refine runD_ok tabOk 1 rfl rfl ?_ | (apply POps_run rfl rfl; focus (first | exact PO_conv_int rfl (IK rfl) (IK rfl) rfl | exact PO_makeFunc rfl | exact PO_buildSlice rfl (EL rfl) (SZ rfl) (AG rfl) (ZR rfl) rfl rfl rfl rfl rfl rfl rfl | exact PO_nilCheck rfl rfl | exact PO_conv_int rfl (IK rfl) (IK rfl) rfl)) | (apply POpsD_run rfl rfl; focus (first | exact Cond_c (PO_conv_int rfl (IK rfl) (IK rfl) rfl) | exact Cond_c (PO_makeFunc rfl) | exact Cond_c (PO_buildSlice rfl (EL rfl) (SZ rfl) (AG rfl) (ZR rfl) rfl rfl rfl rfl rfl rfl rfl) | exact Cond_f (fun _ => PO_conv_int rfl (IK rfl) (IK rfl) rfl) | exact Cond_f (fun _ => PO_makeFunc rfl) | exact Cond_f (fun _ => PO_buildSlice rfl (EL rfl) (SZ rfl) (AG rfl) (ZR rfl) rfl rfl rfl rfl rfl rfl rfl) | exact Cond_f (fun _ => PO_nilCheck rfl rfl) | exact Cond_f (fun _ => PO_conv_int rfl (IK rfl) (IK rfl) rfl))) | refine PW_seq ?_ | refine PW_region ?_ | refine PW_draw_all mixed (by kernel_rfl) ?_ | refine PW_block ?_ | (refine PW_skip ?_; try show PW _ _ _ _ _ _) | (refine PW_exit ?_; try show PW _ _ _ _ _ _) | (refine PW_ret ?_; try show PW _ _ _ _ _ _) | refine PW_cond_t rfl ?_ | refine PW_cond_f rfl ?_))
      refine ⟨i + 1, ⟨hlt, fun j hj => ?_⟩, by omega, SlotsOk.le ⟨.inl rfl, .inl rfl, .inl rfl, .inl rfl, .inl rfl, .inl (congrArg (fun z => PV.g (.int .i64 z)) (wrap64 (by omega))), trivial⟩, HLe.refl _⟩
      by_cases hj' : j < i
      · exact heq j hj'
      · have : j = i := by omega
        subst this
        rw [hta, htb, hxy]
  · have hi4 : i = 4 := by have := of_decide_eq_false h; omega
    subst hi4
    have hse : sumB body = s := hs.1 (eq_of_all (by omega) (fun j hj => heq j (by omega)))
    rw [if_neg (fun hn => hn hse)] at hpb
    have hw2 : (IntKind.i64.wrap (body.length : Int)) = body.length := wrap64 (by omega)
    rcases hcs with ⟨hA, hbad⟩ | ⟨t, q, hA, _, hql, hgo⟩
    · rw [if_pos (.inl hbad)] at hpb
      subst hpb
      rw [hA] at ht
      unfold noTree at ht
      dsimp only at ht
      (repeat' (first | (first | (refine POps_nil ?_; try show PW _ _ _ _ _ _) | (refine POpsD_nil ?_; try show PW _ _ _ _ _ _) | refine runO_ok tabOk 300 rfl rfl ?_ | refine runO_ok tabOk 6 rfl rfl ?_ | refine runO_ok tabOk 1 rfl rfl ?_ | refine runD_ok tabOk 300 rfl rfl ?_ | refine runD_ok tabOk 6 rfl rfl ?_ | refine runD_ok tabOk 1 rfl rfl ?_ | (apply POps_run rfl rfl; focus (first | exact call_pure rfl rfl (EN rfl) (ht) rfl rfl rfl | exact PO_slice_bys body 0 body.length rfl (EL rfl) (SZ rfl) rfl rfl rfl rfl rfl (Nat.zero_le _) (by omega) htake | exact PO_conv_int rfl (IK rfl) (IK rfl) rfl | exact PO_makeFunc rfl | exact PO_buildSlice rfl (EL rfl) (SZ rfl) (AG rfl) (ZR rfl) rfl rfl rfl rfl rfl rfl rfl | exact PO_nilCheck rfl rfl | exact PO_conv_int rfl (IK rfl) (IK rfl) rfl)) | (apply POpsD_run rfl rfl; focus (first | exact Cond_c (call_pure rfl rfl (EN rfl) (ht) rfl rfl rfl) | exact Cond_c (PO_slice_bys body 0 body.length rfl (EL rfl) (SZ rfl) rfl rfl rfl rfl rfl (Nat.zero_le _) (by omega) htake) | exact Cond_c (PO_conv_int rfl (IK rfl) (IK rfl) rfl) | exact Cond_c (PO_makeFunc rfl) | exact Cond_c (PO_buildSlice rfl (EL rfl) (SZ rfl) (AG rfl) (ZR rfl) rfl rfl rfl rfl rfl rfl rfl) | exact Cond_f (fun _ => call_pure rfl rfl (EN rfl) (ht) rfl rfl rfl) | exact Cond_f (fun _ => PO_slice_bys body 0 body.length rfl (EL rfl) (SZ rfl) rfl rfl rfl rfl rfl (Nat.zero_le _) (by omega) htake) | exact Cond_f (fun _ => PO_conv_int rfl (IK rfl) (IK rfl) rfl) | exact Cond_f (fun _ => PO_makeFunc rfl) | exact Cond_f (fun _ => PO_buildSlice rfl (EL rfl) (SZ rfl) (AG rfl) (ZR rfl) rfl rfl rfl rfl rfl rfl rfl) | exact Cond_f (fun _ => PO_nilCheck rfl rfl) | exact Cond_f (fun _ => PO_conv_int rfl (IK rfl) (IK rfl) rfl))) | refine PW_seq ?_ | refine PW_region ?_ | refine PW_draw_all mixed (by kernel_rfl) ?_ | refine PW_block ?_ | (refine PW_skip ?_; try show PW _ _ _ _ _ _) | (refine PW_exit ?_; try show PW _ _ _ _ _ _) | (refine PW_ret ?_; try show PW _ _ _ _ _ _) | refine PW_cond_t rfl ?_ | refine PW_cond_f rfl ?_) | refine POps_split rfl rfl (fun h => ?_) (fun h => ?_) | refine POpsD_split rfl rfl (fun h => ?_) (fun h => ?_) | refine PW_cond rfl (fun h => ?_) (fun h => ?_)))
      all_goals first
        | exact Ret_two (resVs_cons (resV_agg (AG rfl) (SZ rfl) rfl rfl (Nat.le_of_ble_eq_true rfl)) (resVs_cons resV_tmp resVs_nil)) rfl rfl rfl
    · rw [hgo] at hpb hok
      rw [hA] at ht
      dsimp only at ht hpb hok
      have hwr := wrong_ref t hok
      obtain ⟨ta, tb, tc, td⟩ := t
      rw [List.length_drop] at hpb
      (repeat' (first | (first | (refine POps_nil ?_; try show PW _ _ _ _ _ _) | (refine POpsD_nil ?_; try show PW _ _ _ _ _ _) | refine runO_ok tabOk 300 rfl rfl ?_ | refine runO_ok tabOk 6 rfl rfl ?_ | refine runO_ok tabOk 1 rfl rfl ?_ | refine runD_ok tabOk 300 rfl rfl ?_ | refine runD_ok tabOk 6 rfl rfl ?_ | refine runD_ok tabOk 1 rfl rfl ?_ | (apply POps_run rfl rfl; focus (first | exact call_pure rfl rfl (EN rfl) (ht) rfl rfl rfl | exact call_pure rfl rfl (EN rfl) (hwr) rfl rfl rfl | exact PO_slice_bys body 0 body.length rfl (EL rfl) (SZ rfl) rfl rfl rfl rfl rfl (Nat.zero_le _) (by omega) htake | exact PO_conv_int rfl (IK rfl) (IK rfl) rfl | exact PO_makeFunc rfl | exact PO_buildSlice rfl (EL rfl) (SZ rfl) (AG rfl) (ZR rfl) rfl rfl rfl rfl rfl rfl rfl | exact PO_nilCheck rfl rfl | exact PO_conv_int rfl (IK rfl) (IK rfl) rfl)) | (apply POpsD_run rfl rfl; focus (first | exact Cond_c (call_pure rfl rfl (EN rfl) (ht) rfl rfl rfl) | exact Cond_c (call_pure rfl rfl (EN rfl) (hwr) rfl rfl rfl) | exact Cond_c (PO_slice_bys body 0 body.length rfl (EL rfl) (SZ rfl) rfl rfl rfl rfl rfl (Nat.zero_le _) (by omega) htake) | exact Cond_c (PO_conv_int rfl (IK rfl) (IK rfl) rfl) | exact Cond_c (PO_makeFunc rfl) | exact Cond_c (PO_buildSlice rfl (EL rfl) (SZ rfl) (AG rfl) (ZR rfl) rfl rfl rfl rfl rfl rfl rfl) | exact Cond_f (fun _ => call_pure rfl rfl (EN rfl) (ht) rfl rfl rfl) | exact Cond_f (fun _ => call_pure rfl rfl (EN rfl) (hwr) rfl rfl rfl) | exact Cond_f (fun _ => PO_slice_bys body 0 body.length rfl (EL rfl) (SZ rfl) rfl rfl rfl rfl rfl (Nat.zero_le _) (by omega) htake) | exact Cond_f (fun _ => PO_conv_int rfl (IK rfl) (IK rfl) rfl) | exact Cond_f (fun _ => PO_makeFunc rfl) | exact Cond_f (fun _ => PO_buildSlice rfl (EL rfl) (SZ rfl) (AG rfl) (ZR rfl) rfl rfl rfl rfl rfl rfl rfl) | exact Cond_f (fun _ => PO_nilCheck rfl rfl) | exact Cond_f (fun _ => PO_conv_int rfl (IK rfl) (IK rfl) rfl))) | refine PW_seq ?_ | refine PW_region ?_ | refine PW_draw_all mixed (by kernel_rfl) ?_ | refine PW_block ?_ | (refine PW_skip ?_; try show PW _ _ _ _ _ _) | (refine PW_exit ?_; try show PW _ _ _ _ _ _) | (refine PW_ret ?_; try show PW _ _ _ _ _ _) | refine PW_cond_t rfl ?_ | refine PW_cond_f rfl ?_) | refine POps_split rfl rfl (fun h => ?_) (fun h => ?_) | refine POpsD_split rfl rfl (fun h => ?_) (fun h => ?_) | refine PW_cond rfl (fun h => ?_) (fun h => ?_)))
      all_goals (try simp only [decide_eq_true_eq, decide_eq_false_iff_not, beq_iff_eq, bne_iff_ne, beq_eq_false_iff_ne, bne_eq_false_iff_eq, Bool.not_eq_true', Bool.not_eq_false', gt_iff_lt, ge_iff_le, ne_eq] at *)
      all_goals first
        | (rw [if_pos (.inr (.inl (by omega)))] at hpb
           subst hpb
           exact Ret_two (resVs_cons (resV_agg (AG rfl) (SZ rfl) rfl rfl (Nat.le_of_ble_eq_true rfl)) (resVs_cons resV_tmp resVs_nil)) rfl rfl rfl)
        | (rw [if_pos (.inr (.inr (by assumption)))] at hpb
           subst hpb
           exact Ret_two (resVs_cons (resV_agg (AG rfl) (SZ rfl) rfl rfl (Nat.le_of_ble_eq_true rfl)) (resVs_cons resV_tmp resVs_nil)) rfl rfl rfl)
        | (rw [if_neg (by rintro (hh | hh | hh) <;> first | omega | contradiction)] at hpb
           subst hpb
           exact Ret_two (resVs_cons (resV_agg (AG rfl) (SZ rfl) rfl rfl (Nat.le_of_ble_eq_true rfl)) (resVs_cons resV_tmp resVs_nil)) rfl rfl rfl)
end Go.Proofs.Ytffpepmfdjjjaaa

namespace Go.Proofs.Ytffpepmfdjjjaaa
open Go.Pure
attribute [local irreducible] PW POps POpsD PO PC Cond

set_option maxRecDepth 100000 in
set_option maxHeartbeats 4000000 in
theorem parse_ref_long (l : List UInt8) (h : 100000 < l.length) : PC Try.prog 25 [.g (.sl (bys l))] ⟨[], [], []⟩ (.tuple [.g noTree.g, .g (.int .i64 4)]) ⟨[], [], []⟩ := by
  refine PC_of_PW Try.func25 rfl rfl (rs := _) rfl (Nat.le_of_ble_eq_true (by kernel_rfl)) ?_
  (repeat (first | (refine POps_nil ?_; try show PW _ _ _ _ _ _) | (refine POpsD_nil ?_; try show PW _ _ _ _ _ _) | refine runO_ok tabOk 300 rfl rfl ?_ | refine runO_ok tabOk 6 rfl rfl ?_ | refine runO_ok tabOk 1 rfl rfl ?_ | refine runD_ok tabOk 300 rfl rfl ?_ | refine runD_ok tabOk 6 rfl rfl ?_ | refine runD_ok tabOk 1 rfl rfl ?_ | (apply POps_run rfl rfl; focus (first | exact PO_conv_int rfl (IK rfl) (IK rfl) rfl | exact PO_makeFunc rfl | exact PO_buildSlice rfl (EL rfl) (SZ rfl) (AG rfl) (ZR rfl) rfl rfl rfl rfl rfl rfl rfl | exact PO_nilCheck rfl rfl | exact PO_conv_int rfl (IK rfl) (IK rfl) rfl)) | (apply POpsD_run rfl rfl; focus (first | exact Cond_c (PO_conv_int rfl (IK rfl) (IK rfl) rfl) | exact Cond_c (PO_makeFunc rfl) | exact Cond_c (PO_buildSlice rfl (EL rfl) (SZ rfl) (AG rfl) (ZR rfl) rfl rfl rfl rfl rfl rfl rfl) | exact Cond_f (fun _ => PO_conv_int rfl (IK rfl) (IK rfl) rfl) | exact Cond_f (fun _ => PO_makeFunc rfl) | exact Cond_f (fun _ => PO_buildSlice rfl (EL rfl) (SZ rfl) (AG rfl) (ZR rfl) rfl rfl rfl rfl rfl rfl rfl) | exact Cond_f (fun _ => PO_nilCheck rfl rfl) | exact Cond_f (fun _ => PO_conv_int rfl (IK rfl) (IK rfl) rfl))) | refine PW_seq ?_ | refine PW_region ?_ | refine PW_draw_all mixed (by kernel_rfl) ?_ | refine PW_block ?_ | (refine PW_skip ?_; try show PW _ _ _ _ _ _) | (refine PW_exit ?_; try show PW _ _ _ _ _ _) | (refine PW_ret ?_; try show PW _ _ _ _ _ _) | refine PW_cond_t rfl ?_ | refine PW_cond_f rfl ?_))
  (first | refine POps_split rfl rfl (fun h => ?_) (fun h => ?_) | refine POpsD_split rfl rfl (fun h => ?_) (fun h => ?_) | refine PW_cond rfl (fun h => ?_) (fun h => ?_))
  · (repeat (first | (refine POps_nil ?_; try show PW _ _ _ _ _ _) | (refine POpsD_nil ?_; try show PW _ _ _ _ _ _) | refine runO_ok tabOk 300 rfl rfl ?_ | refine runO_ok tabOk 6 rfl rfl ?_ | refine runO_ok tabOk 1 rfl rfl ?_ | refine runD_ok tabOk 300 rfl rfl ?_ | refine runD_ok tabOk 6 rfl rfl ?_ | refine runD_ok tabOk 1 rfl rfl ?_ | (apply POps_run rfl rfl; focus (first | exact PO_conv_int rfl (IK rfl) (IK rfl) rfl | exact PO_makeFunc rfl | exact PO_buildSlice rfl (EL rfl) (SZ rfl) (AG rfl) (ZR rfl) rfl rfl rfl rfl rfl rfl rfl | exact PO_nilCheck rfl rfl | exact PO_conv_int rfl (IK rfl) (IK rfl) rfl)) | (apply POpsD_run rfl rfl; focus (first | exact Cond_c (PO_conv_int rfl (IK rfl) (IK rfl) rfl) | exact Cond_c (PO_makeFunc rfl) | exact Cond_c (PO_buildSlice rfl (EL rfl) (SZ rfl) (AG rfl) (ZR rfl) rfl rfl rfl rfl rfl rfl rfl) | exact Cond_f (fun _ => PO_conv_int rfl (IK rfl) (IK rfl) rfl) | exact Cond_f (fun _ => PO_makeFunc rfl) | exact Cond_f (fun _ => PO_buildSlice rfl (EL rfl) (SZ rfl) (AG rfl) (ZR rfl) rfl rfl rfl rfl rfl rfl rfl) | exact Cond_f (fun _ => PO_nilCheck rfl rfl) | exact Cond_f (fun _ => PO_conv_int rfl (IK rfl) (IK rfl) rfl))) | refine PW_seq ?_ | refine PW_region ?_ | refine PW_draw_all mixed (by kernel_rfl) ?_ | refine PW_block ?_ | (refine PW_skip ?_; try show PW _ _ _ _ _ _) | (refine PW_exit ?_; try show PW _ _ _ _ _ _) | (refine PW_ret ?_; try show PW _ _ _ _ _ _) | refine PW_cond_t rfl ?_ | refine PW_cond_f rfl ?_))
    exact Ret_two (resVs_cons (resV_agg (AG rfl) (SZ rfl) rfl rfl (Nat.le_of_ble_eq_true rfl)) (resVs_cons resV_tmp resVs_nil)) rfl rfl rfl
  · have := of_decide_eq_false h
    rw [bys_len] at this
    omega
set_option maxRecDepth 100000 in
set_option maxHeartbeats 4000000 in
theorem parse_ref_short (l : List UInt8) (h : l.length < 4) : PC Try.prog 25 [.g (.sl (bys l))] ⟨[], [], []⟩ (.tuple [.g noTree.g, .g (.int .i64 2)]) ⟨[], [], []⟩ := by
  refine PC_of_PW Try.func25 rfl rfl (rs := _) rfl (Nat.le_of_ble_eq_true (by kernel_rfl)) ?_
  (repeat (first | (refine POps_nil ?_; try show PW _ _ _ _ _ _) | (refine POpsD_nil ?_; try show PW _ _ _ _ _ _) | refine runO_ok tabOk 300 rfl rfl ?_ | refine runO_ok tabOk 6 rfl rfl ?_ | refine runO_ok tabOk 1 rfl rfl ?_ | refine runD_ok tabOk 300 rfl rfl ?_ | refine runD_ok tabOk 6 rfl rfl ?_ | refine runD_ok tabOk 1 rfl rfl ?_ | (apply POps_run rfl rfl; focus (first | exact PO_conv_int rfl (IK rfl) (IK rfl) rfl | exact PO_makeFunc rfl | exact PO_buildSlice rfl (EL rfl) (SZ rfl) (AG rfl) (ZR rfl) rfl rfl rfl rfl rfl rfl rfl | exact PO_nilCheck rfl rfl | exact PO_conv_int rfl (IK rfl) (IK rfl) rfl)) | (apply POpsD_run rfl rfl; focus (first | exact Cond_c (PO_conv_int rfl (IK rfl) (IK rfl) rfl) | exact Cond_c (PO_makeFunc rfl) | exact Cond_c (PO_buildSlice rfl (EL rfl) (SZ rfl) (AG rfl) (ZR rfl) rfl rfl rfl rfl rfl rfl rfl) | exact Cond_f (fun _ => PO_conv_int rfl (IK rfl) (IK rfl) rfl) | exact Cond_f (fun _ => PO_makeFunc rfl) | exact Cond_f (fun _ => PO_buildSlice rfl (EL rfl) (SZ rfl) (AG rfl) (ZR rfl) rfl rfl rfl rfl rfl rfl rfl) | exact Cond_f (fun _ => PO_nilCheck rfl rfl) | exact Cond_f (fun _ => PO_conv_int rfl (IK rfl) (IK rfl) rfl))) | refine PW_seq ?_ | refine PW_region ?_ | refine PW_draw_all mixed (by kernel_rfl) ?_ | refine PW_block ?_ | (refine PW_skip ?_; try show PW _ _ _ _ _ _) | (refine PW_exit ?_; try show PW _ _ _ _ _ _) | (refine PW_ret ?_; try show PW _ _ _ _ _ _) | refine PW_cond_t rfl ?_ | refine PW_cond_f rfl ?_))
  (first | refine POps_split rfl rfl (fun h => ?_) (fun h => ?_) | refine POpsD_split rfl rfl (fun h => ?_) (fun h => ?_) | refine PW_cond rfl (fun h => ?_) (fun h => ?_))
  · have := of_decide_eq_true h
    rw [bys_len] at this
    omega
  · (repeat (first | (refine POps_nil ?_; try show PW _ _ _ _ _ _) | (refine POpsD_nil ?_; try show PW _ _ _ _ _ _) | refine runO_ok tabOk 300 rfl rfl ?_ | refine runO_ok tabOk 6 rfl rfl ?_ | refine runO_ok tabOk 1 rfl rfl ?_ | refine runD_ok tabOk 300 rfl rfl ?_ | refine runD_ok tabOk 6 rfl rfl ?_ | refine runD_ok tabOk 1 rfl rfl ?_ | (apply POps_run rfl rfl; focus (first | exact PO_conv_int rfl (IK rfl) (IK rfl) rfl | exact PO_makeFunc rfl | exact PO_buildSlice rfl (EL rfl) (SZ rfl) (AG rfl) (ZR rfl) rfl rfl rfl rfl rfl rfl rfl | exact PO_nilCheck rfl rfl | exact PO_conv_int rfl (IK rfl) (IK rfl) rfl)) | (apply POpsD_run rfl rfl; focus (first | exact Cond_c (PO_conv_int rfl (IK rfl) (IK rfl) rfl) | exact Cond_c (PO_makeFunc rfl) | exact Cond_c (PO_buildSlice rfl (EL rfl) (SZ rfl) (AG rfl) (ZR rfl) rfl rfl rfl rfl rfl rfl rfl) | exact Cond_f (fun _ => PO_conv_int rfl (IK rfl) (IK rfl) rfl) | exact Cond_f (fun _ => PO_makeFunc rfl) | exact Cond_f (fun _ => PO_buildSlice rfl (EL rfl) (SZ rfl) (AG rfl) (ZR rfl) rfl rfl rfl rfl rfl rfl rfl) | exact Cond_f (fun _ => PO_nilCheck rfl rfl) | exact Cond_f (fun _ => PO_conv_int rfl (IK rfl) (IK rfl) rfl))) | refine PW_seq ?_ | refine PW_region ?_ | refine PW_draw_all mixed (by kernel_rfl) ?_ | refine PW_block ?_ | (refine PW_skip ?_; try show PW _ _ _ _ _ _) | (refine PW_exit ?_; try show PW _ _ _ _ _ _) | (refine PW_ret ?_; try show PW _ _ _ _ _ _) | refine PW_cond_t rfl ?_ | refine PW_cond_f rfl ?_))
    (first | refine POps_split rfl rfl (fun h => ?_) (fun h => ?_) | refine POpsD_split rfl rfl (fun h => ?_) (fun h => ?_) | refine PW_cond rfl (fun h => ?_) (fun h => ?_))
    · (repeat (first | (refine POps_nil ?_; try show PW _ _ _ _ _ _) | (refine POpsD_nil ?_; try show PW _ _ _ _ _ _) | refine runO_ok tabOk 300 rfl rfl ?_ | refine runO_ok tabOk 6 rfl rfl ?_ | refine runO_ok tabOk 1 rfl rfl ?_ | refine runD_ok tabOk 300 rfl rfl ?_ | refine runD_ok tabOk 6 rfl rfl ?_ | refine runD_ok tabOk 1 rfl rfl ?_ | (apply POps_run rfl rfl; focus (first | exact PO_conv_int rfl (IK rfl) (IK rfl) rfl | exact PO_makeFunc rfl | exact PO_buildSlice rfl (EL rfl) (SZ rfl) (AG rfl) (ZR rfl) rfl rfl rfl rfl rfl rfl rfl | exact PO_nilCheck rfl rfl | exact PO_conv_int rfl (IK rfl) (IK rfl) rfl)) | (apply POpsD_run rfl rfl; focus (first | exact Cond_c (PO_conv_int rfl (IK rfl) (IK rfl) rfl) | exact Cond_c (PO_makeFunc rfl) | exact Cond_c (PO_buildSlice rfl (EL rfl) (SZ rfl) (AG rfl) (ZR rfl) rfl rfl rfl rfl rfl rfl rfl) | exact Cond_f (fun _ => PO_conv_int rfl (IK rfl) (IK rfl) rfl) | exact Cond_f (fun _ => PO_makeFunc rfl) | exact Cond_f (fun _ => PO_buildSlice rfl (EL rfl) (SZ rfl) (AG rfl) (ZR rfl) rfl rfl rfl rfl rfl rfl rfl) | exact Cond_f (fun _ => PO_nilCheck rfl rfl) | exact Cond_f (fun _ => PO_conv_int rfl (IK rfl) (IK rfl) rfl))) | refine PW_seq ?_ | refine PW_region ?_ | refine PW_draw_all mixed (by kernel_rfl) ?_ | refine PW_block ?_ | (refine PW_skip ?_; try show PW _ _ _ _ _ _) | (refine PW_exit ?_; try show PW _ _ _ _ _ _) | (refine PW_ret ?_; try show PW _ _ _ _ _ _) | refine PW_cond_t rfl ?_ | refine PW_cond_f rfl ?_))
      exact Ret_two (resVs_cons (resV_agg (AG rfl) (SZ rfl) rfl rfl (Nat.le_of_ble_eq_true rfl)) (resVs_cons resV_tmp resVs_nil)) rfl rfl rfl
    · have := of_decide_eq_false h
      rw [bys_len] at this
      omega
theorem parse_ref (l : List UInt8) : PC Try.prog 25 [.g (.sl (bys l))] ⟨[], [], []⟩ (.tuple [.g (parseT l).1.g, .g (.int .i64 (parseT l).2)]) ⟨[], [], []⟩ := by
  by_cases h1 : 100000 < l.length
  · have : parseT l = (noTree, 4) := by unfold parseT; rw [if_pos h1]
    rw [this]
    exact parse_ref_long l h1
  · by_cases h2 : l.length < 4
    · have : parseT l = (noTree, 2) := by
        unfold parseT
        rw [if_neg h1]
        have : (l.drop (l.length - 4)).length ≠ 4 := by simp; omega
        split
        · rename_i hd; rw [hd] at this; simp at this
        · rfl
      rw [this]
      exact parse_ref_short l h2
    · obtain ⟨body, a, b, c, d, rfl⟩ := last_four l (by omega)
      have hl : (body ++ [a, b, c, d]).length = body.length + 4 := by simp
      rw [parseT_four _ _ _ _ _ (by omega)]
      refine parse_ref_b body [a, b, c, d] (le32 a b c d) rfl ?_ (by omega)
      constructor
      · intro hh
        obtain ⟨a', b', c', d', h4, h5⟩ := four_back (sumB body)
        rw [h4] at hh
        cases hh
        exact h5.symm
      · intro hh
        rw [hh, four_le32]

set_option maxRecDepth 100000 in
set_option maxHeartbeats 8000000 in
theorem tells_pc (tag tn : Int) (text : ByteArray) (kids : List Tr) (l : List UInt8) (hk : (Tr.mk tag tn text kids).ok) (hw : (Tr.mk tag tn text kids).wf) (hb : (enc (.mk tag tn text kids)).length ≤ 900000000) (hl : l.length ≤ 900000000) :
    PC Try.prog 4 [.g (Tr.mk tag tn text kids).g, .g (.sl (bys l))] ⟨[], [], []⟩ (.g (.bool true)) ⟨[], [], []⟩ := by
  have c1 := wrong_pc _ hk
  have c2 := wrong_ref _ hk
  have c3 : PC Try.prog 19 [.g (.sl (bys l))] ⟨[], [], []⟩ (.g (w32 (sumB l))) ⟨[], [], []⟩ := sum_pc l (by omega)
  have c4 := sum_ref l (by omega)
  have c5 := bytes_pc tag tn text kids hk hb
  have c6 := bytes_ref tag tn text kids hk hw hb
  have hxl : (bytesT (.mk tag tn text kids)).1.length ≤ 9223372036854775807 := by
    unfold bytesT
    split
    · split
      · simp
      · simp [four]; omega
    · simp
  have c7 := samebytes_pc (bytesT (.mk tag tn text kids)).1 hxl
  have c8 := parse_all l (by omega)
  have c9 := parse_ref l
  have c10 := same_pc _ (parseT l).1 (Nat.le_refl _) (parse_ok l)
  generalize wrongT (.mk tag tn text kids) = wt at c1 c2
  generalize bytesT (.mk tag tn text kids) = bt at c5 c6 c7
  generalize sumB l = sl at c3 c4
  generalize parseT l = pt at c8 c9 c10
  obtain ⟨⟨ta, tb, tc, td⟩, pe⟩ := pt
  dsimp only at c8 c9 c10
  refine PC_of_PW Try.func4 rfl rfl (rs := _) rfl (Nat.le_of_ble_eq_true (by kernel_rfl)) ?_
  (repeat' (first | (first | (refine POps_nil ?_; try show PW _ _ _ _ _ _) | (refine POpsD_nil ?_; try show PW _ _ _ _ _ _) | refine runO_ok tabOk 300 rfl rfl ?_ | refine runO_ok tabOk 6 rfl rfl ?_ | refine runO_ok tabOk 1 rfl rfl ?_ | refine runD_ok tabOk 300 rfl rfl ?_ | refine runD_ok tabOk 6 rfl rfl ?_ | refine runD_ok tabOk 1 rfl rfl ?_ | (apply POps_run rfl rfl; focus (first | exact call_pure rfl rfl (EN rfl) (c1) rfl rfl rfl | exact call_pure rfl rfl (EN rfl) (c2) rfl rfl rfl | exact call_pure rfl rfl (EN rfl) (c3) rfl rfl rfl | exact call_pure rfl rfl (EN rfl) (c4) rfl rfl rfl | exact call_pure rfl rfl (EN rfl) (c5) rfl rfl rfl | exact call_pure rfl rfl (EN rfl) (c6) rfl rfl rfl | exact call_pure rfl rfl (EN rfl) (c7) rfl rfl rfl | exact call_pure rfl rfl (EN rfl) (c8) rfl rfl rfl | exact call_pure rfl rfl (EN rfl) (c9) rfl rfl rfl | exact call_pure rfl rfl (EN rfl) (c10) rfl rfl rfl | exact PO_conv_int rfl (IK rfl) (IK rfl) rfl | exact PO_makeFunc rfl | exact PO_buildSlice rfl (EL rfl) (SZ rfl) (AG rfl) (ZR rfl) rfl rfl rfl rfl rfl rfl rfl | exact PO_nilCheck rfl rfl | exact PO_conv_int rfl (IK rfl) (IK rfl) rfl)) | (apply POpsD_run rfl rfl; focus (first | exact Cond_c (call_pure rfl rfl (EN rfl) (c1) rfl rfl rfl) | exact Cond_c (call_pure rfl rfl (EN rfl) (c2) rfl rfl rfl) | exact Cond_c (call_pure rfl rfl (EN rfl) (c3) rfl rfl rfl) | exact Cond_c (call_pure rfl rfl (EN rfl) (c4) rfl rfl rfl) | exact Cond_c (call_pure rfl rfl (EN rfl) (c5) rfl rfl rfl) | exact Cond_c (call_pure rfl rfl (EN rfl) (c6) rfl rfl rfl) | exact Cond_c (call_pure rfl rfl (EN rfl) (c7) rfl rfl rfl) | exact Cond_c (call_pure rfl rfl (EN rfl) (c8) rfl rfl rfl) | exact Cond_c (call_pure rfl rfl (EN rfl) (c9) rfl rfl rfl) | exact Cond_c (call_pure rfl rfl (EN rfl) (c10) rfl rfl rfl) | exact Cond_c (PO_conv_int rfl (IK rfl) (IK rfl) rfl) | exact Cond_c (PO_makeFunc rfl) | exact Cond_c (PO_buildSlice rfl (EL rfl) (SZ rfl) (AG rfl) (ZR rfl) rfl rfl rfl rfl rfl rfl rfl) | exact Cond_f (fun _ => call_pure rfl rfl (EN rfl) (c1) rfl rfl rfl) | exact Cond_f (fun _ => call_pure rfl rfl (EN rfl) (c2) rfl rfl rfl) | exact Cond_f (fun _ => call_pure rfl rfl (EN rfl) (c3) rfl rfl rfl) | exact Cond_f (fun _ => call_pure rfl rfl (EN rfl) (c4) rfl rfl rfl) | exact Cond_f (fun _ => call_pure rfl rfl (EN rfl) (c5) rfl rfl rfl) | exact Cond_f (fun _ => call_pure rfl rfl (EN rfl) (c6) rfl rfl rfl) | exact Cond_f (fun _ => call_pure rfl rfl (EN rfl) (c7) rfl rfl rfl) | exact Cond_f (fun _ => call_pure rfl rfl (EN rfl) (c8) rfl rfl rfl) | exact Cond_f (fun _ => call_pure rfl rfl (EN rfl) (c9) rfl rfl rfl) | exact Cond_f (fun _ => call_pure rfl rfl (EN rfl) (c10) rfl rfl rfl) | exact Cond_f (fun _ => PO_conv_int rfl (IK rfl) (IK rfl) rfl) | exact Cond_f (fun _ => PO_makeFunc rfl) | exact Cond_f (fun _ => PO_buildSlice rfl (EL rfl) (SZ rfl) (AG rfl) (ZR rfl) rfl rfl rfl rfl rfl rfl rfl) | exact Cond_f (fun _ => PO_nilCheck rfl rfl) | exact Cond_f (fun _ => PO_conv_int rfl (IK rfl) (IK rfl) rfl))) | refine PW_seq ?_ | refine PW_region ?_ | refine PW_draw [0] mixed (by kernel_rfl) ?_ | refine PW_block ?_ | (refine PW_skip ?_; try show PW _ _ _ _ _ _) | (refine PW_exit ?_; try show PW _ _ _ _ _ _) | (refine PW_ret ?_; try show PW _ _ _ _ _ _) | refine PW_cond_t rfl ?_ | refine PW_cond_f rfl ?_) | refine POps_split rfl rfl (fun h => ?_) (fun h => ?_) | refine POpsD_split rfl rfl (fun h => ?_) (fun h => ?_) | refine PW_cond rfl (fun h => ?_) (fun h => ?_)))
  all_goals first
    | (exfalso; simp at h; done)
    | ((first | refine Ret_int (resVs_cons resV_tmp resVs_nil) rfl ?_ | refine Ret_bool (resVs_cons resV_tmp resVs_nil) rfl ?_ | refine Ret_g (resVs_cons resV_tmp resVs_nil) rfl ?_ | refine Ret_int (resVs_cons (resV_agg (AG rfl) (SZ rfl) rfl rfl (Nat.le_of_ble_eq_true rfl)) resVs_nil) rfl ?_ | refine Ret_bool (resVs_cons (resV_agg (AG rfl) (SZ rfl) rfl rfl (Nat.le_of_ble_eq_true rfl)) resVs_nil) rfl ?_ | refine Ret_g (resVs_cons (resV_agg (AG rfl) (SZ rfl) rfl rfl (Nat.le_of_ble_eq_true rfl)) resVs_nil) rfl ?_); rfl)
end Go.Proofs.Ytffpepmfdjjjaaa

namespace Go.Proofs.Ytffpepmfdjjjaaa
open Go.Pure Go.ChangeShapes Go.WideShapes Go.ChangeAt Go.RowKit

set_option maxRecDepth 100000 in
theorem wireTells_lifted (os : Os) (started : os.Started) (H : Type) (enc : TypeId × Value → H) (F : Stop.Interp) :
    ReturnsInHanded {} Try.checked os 4 .any ((Rows.OpenSpec.upto Rows.wireTellsSpec).pre6 enc Try.prog Try.f4 Rows.wireTellsUptoRow.domain false) (((Rows.OpenSpec.upto Rows.wireTellsSpec).at F).post enc Try.prog Try.f4 false true false false) := by
  refine returnsInHanded_of_cond (C := Try.checked) (s := Rows.OpenSpec.upto Rows.wireTellsSpec) (k := Rows.uptoSmall) rfl own started (by kernel_rfl) Try.func4
    (OpenSpec.witness (enc := enc) (C := Try.checked) (s := Rows.OpenSpec.upto Rows.wireTellsSpec) (k := Rows.uptoSmall) rfl false ⟨#[], #[.agg #[.int .i64 0, .int .i64 0, .string ⟨#[]⟩, .slice none 0 0], .slice none 0 0], []⟩ 8 (by kernel_rfl) (by kernel_rfl) (by kernel_rfl)
      (x := ([.agg [.lit (.int .i64 0), .lit (.int .i64 0), .lit (.string []), .nil], .nil], [], [])) (by kernel_rfl) rfl (by kernel_rfl)) ?_
  intro W base args ds gs before hval hW _ hk _
  refine law_calls (s := Rows.wireTellsSpec) (set := [2, 3, 5, 9, 28, 30, 38]) (B := 4) (by kernel_rfl) (by kernel_rfl) laidOut rfl rfl Try.underlying4 (fun ds hl => ?_) W base args ds gs before hval hW (fun xs hl hl2 hD hT => ?_)
  · match ds, hl with
    | [a0, a1], _ => rfl
  · match xs, hl with
    | [a0, a1], _ =>
      have hbk := bulk_all hl2 hD
      have hs : Rows.uptoBulkAll (ds ++ gs) ≤ 1048576 := of_decide_eq_true hk
      rw [bulkAll_append] at hs
      obtain ⟨t, rfl, ht1, ht2⟩ := tree_inv _ _ (Nat.le_refl _) (hT 0 30 _ rfl rfl)
      obtain ⟨l, rfl, hl⟩ := bytes_inv (hT 1 38 _ rfl rfl)
      have he := enc_bulk t
      have hl1 := bys_bulk l
      simp only [gbulks] at hbk
      obtain ⟨tag, tn, text, kids⟩ := t
      exact tells_pc tag tn text kids l ht1 ht2 (by omega) (by omega)

theorem wireTells_holds : Rows.WireTellsUptoSaid :=
  OpenClaim.holds_of_cond 4 Try.f4 rfl rfl rfl rfl rfl rfl rfl ⟨rfl, rfl, rfl, rfl, rfl⟩ rfl rfl rfl rfl rfl (by kernel_rfl) Try.func4 (by kernel_rfl)
    (of_decide_eq_true (by kernel_rfl)) (by unfold Func.isWrapper; first | (rw [if_pos (by decide +kernel)]; kernel_rfl) | (rw [if_neg (by decide +kernel)]; exact ⟨rfl, rfl⟩))
    (fun os started H enc _ F => wireTells_lifted os started H enc F)
#print axioms wireTells_holds
end Go.Proofs.Ytffpepmfdjjjaaa
