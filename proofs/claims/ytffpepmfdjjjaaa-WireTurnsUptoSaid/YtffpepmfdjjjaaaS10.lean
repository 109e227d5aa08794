import Derived.Test.YtffpepmfdjjjaaaS9
namespace Go.Proofs.Ytffpepmfdjjjaaa
open Go.Pure
attribute [local irreducible] PW POps POpsD PO PC Cond

/-- How many there are; each takes so many bytes at least. -/
def cntGo (least : Nat) (l : List UInt8) (b : Bool) : Nat × List UInt8 × Bool :=
  let r := numGo 10 0 0 l b
  if r.2.2 = true ∨ r.2.1.length / least < r.1 then (0, r.2.1, true) else (r.1, r.2.1, false)
theorem rdByte_len (l : List UInt8) (b : Bool) : (rdByte l b).2.1.length ≤ l.length := by cases l <;> simp [rdByte]
theorem numGo_len : ∀ (n k x : Nat) (l : List UInt8) (b : Bool), (numGo n k x l b).2.1.length ≤ l.length
  | 0, k, x, l, b => by simp [numGo]
  | n + 1, k, x, l, b => by
    rw [numGo]
    have := rdByte_len l b
    split
    · exact this
    · exact Nat.le_trans (numGo_len n _ _ _ _) this
theorem quo_eq (a b : Nat) (ha : a ≤ 4611686018427387904) : IntKind.u64.wrap (IntKind.i64.wrap ((a : Int).tdiv (b : Int))) = ((a / b : Nat) : Int) := by
  have h1 : (a : Int).tdiv (b : Int) = ((a / b : Nat) : Int) := by rw [Int.tdiv_eq_ediv_of_nonneg (by omega)]; rfl
  have h2 : a / b ≤ a := Nat.div_le_self _ _
  rw [h1]
  generalize a / b = q at *
  rw [wrap64 (by omega)]
  simp [IntKind.wrap, IntKind.bits, IntKind.signed]
  omega

set_option maxRecDepth 100000 in
set_option maxHeartbeats 4000000 in
theorem count_pc (least : Nat) (h0 : 0 < least) (l : List UInt8) (b : Bool) (hlen : l.length ≤ 1000000) : PC Try.prog 84 [.ptr 0 0, .g (.int .i64 least)] (rdH l b) (.g (.int .i64 (cntGo least l b).1)) (rdH (cntGo least l b).2.1 (cntGo least l b).2.2) := by
  have hn := number_rd l b
  have hlt := numGo_lt 10 0 0 l b
  have hle := numGo_len 10 0 0 l b
  have hq := quo_eq (bys (numGo 10 0 0 l b).2.1).length least (by rw [bys_len]; omega)
  rw [bys_len] at hq
  refine PC_of_PW Try.func84 rfl rfl (rs := _) rfl (Nat.le_of_ble_eq_true (by kernel_rfl)) ?_
  (repeat' (first | (first | (refine POps_nil ?_; try show PW _ _ _ _ _ _) | (refine POpsD_nil ?_; try show PW _ _ _ _ _ _) | refine runO_ok tabOk 300 rfl rfl ?_ | refine runO_ok tabOk 6 rfl rfl ?_ | refine runO_ok tabOk 1 rfl rfl ?_ | refine runD_ok tabOk 300 rfl rfl ?_ | refine runD_ok tabOk 6 rfl rfl ?_ | refine runD_ok tabOk 1 rfl rfl ?_ | (apply POps_run rfl rfl; focus (first | exact call_box [] rfl rfl (EN rfl) (hn) rfl rfl rfl rfl rfl rfl rfl rfl rfl rfl rfl | exact PO_quo rfl rfl rfl (by omega) | exact PO_conv_int rfl (IK rfl) (IK rfl) rfl | exact PO_makeFunc rfl | exact PO_buildSlice rfl (EL rfl) (SZ rfl) (AG rfl) (ZR rfl) rfl rfl rfl rfl rfl rfl rfl | exact PO_nilCheck rfl rfl | exact PO_conv_int rfl (IK rfl) (IK rfl) rfl)) | (apply POpsD_run rfl rfl; focus (first | exact Cond_c (call_box [] rfl rfl (EN rfl) (hn) rfl rfl rfl rfl rfl rfl rfl rfl rfl rfl rfl) (by first | exact KEq.refl _ _ | (repeat (first | exact trivial | refine And.intro rfl ?_ | refine And.intro trivial ?_))) | exact Cond_c (PO_quo rfl rfl rfl (by omega)) (by first | exact KEq.refl _ _ | (repeat (first | exact trivial | refine And.intro rfl ?_ | refine And.intro trivial ?_))) | exact Cond_c (PO_conv_int rfl (IK rfl) (IK rfl) rfl) (by first | exact KEq.refl _ _ | (repeat (first | exact trivial | refine And.intro rfl ?_ | refine And.intro trivial ?_))) | exact Cond_c (PO_makeFunc rfl) (by first | exact KEq.refl _ _ | (repeat (first | exact trivial | refine And.intro rfl ?_ | refine And.intro trivial ?_))) | exact Cond_c (PO_buildSlice rfl (EL rfl) (SZ rfl) (AG rfl) (ZR rfl) rfl rfl rfl rfl rfl rfl rfl) (by first | exact KEq.refl _ _ | (repeat (first | exact trivial | refine And.intro rfl ?_ | refine And.intro trivial ?_))) | exact Cond_f (fun _ => call_box [] rfl rfl (EN rfl) (hn) rfl rfl rfl rfl rfl rfl rfl rfl rfl rfl rfl) | exact Cond_f (fun _ => PO_quo rfl rfl rfl (by omega)) | exact Cond_f (fun _ => PO_conv_int rfl (IK rfl) (IK rfl) rfl) | exact Cond_f (fun _ => PO_makeFunc rfl) | exact Cond_f (fun _ => PO_buildSlice rfl (EL rfl) (SZ rfl) (AG rfl) (ZR rfl) rfl rfl rfl rfl rfl rfl rfl) | exact Cond_f (fun _ => PO_nilCheck rfl rfl) | exact Cond_f (fun _ => PO_conv_int rfl (IK rfl) (IK rfl) rfl))) | refine PW_seq ?_ | refine PW_region ?_ | refine PW_draw_all mixed (by kernel_rfl) ?_ | refine PW_block ?_ | (refine PW_skip ?_; try show PW _ _ _ _ _ _) | (refine PW_exit ?_; try show PW _ _ _ _ _ _) | (refine PW_ret ?_; try show PW _ _ _ _ _ _) | refine PW_cond_t rfl ?_ | refine PW_cond_f rfl ?_) | refine POps_split rfl rfl (fun h => ?_) (fun h => ?_) | refine POpsD_split rfl rfl (fun h => ?_) (fun h => ?_) | refine PW_cond rfl (fun h => ?_) (fun h => ?_)))
  · have hc : cntGo least l b = (0, (numGo 10 0 0 l b).2.1, true) := by unfold cntGo; rw [if_pos (.inl h)]
    (first | refine Ret_box (resRs_cons resV_tmp resRs_nil) rfl rfl rfl rfl rfl rfl rfl rfl rfl ?_ ?_ ?_ rfl | refine Ret_box (resRs_cons (resV_agg (AG rfl) (SZ rfl) rfl rfl (Nat.le_of_ble_eq_true rfl)) resRs_nil) rfl rfl rfl rfl rfl rfl rfl rfl rfl ?_ ?_ ?_ rfl | refine Ret_box (resRs_cons resV_tmp (resRs_cons resV_tmp resRs_nil)) rfl rfl rfl rfl rfl rfl rfl rfl rfl ?_ ?_ ?_ rfl | refine Ret_box (resRs_cons (resV_agg (AG rfl) (SZ rfl) rfl rfl (Nat.le_of_ble_eq_true rfl)) (resRs_cons resV_tmp resRs_nil)) rfl rfl rfl rfl rfl rfl rfl rfl rfl ?_ ?_ ?_ rfl)
    all_goals (try rw [hc])
    all_goals (try rfl)
  · have hc : cntGo least l b = (0, (numGo 10 0 0 l b).2.1, true) := by
      have := of_decide_eq_true h
      rw [bys_len, hq] at this
      unfold cntGo; rw [if_pos (.inr (by omega))]
    (first | refine Ret_box (resRs_cons resV_tmp resRs_nil) rfl rfl rfl rfl rfl rfl rfl rfl rfl ?_ ?_ ?_ rfl | refine Ret_box (resRs_cons (resV_agg (AG rfl) (SZ rfl) rfl rfl (Nat.le_of_ble_eq_true rfl)) resRs_nil) rfl rfl rfl rfl rfl rfl rfl rfl rfl ?_ ?_ ?_ rfl | refine Ret_box (resRs_cons resV_tmp (resRs_cons resV_tmp resRs_nil)) rfl rfl rfl rfl rfl rfl rfl rfl rfl ?_ ?_ ?_ rfl | refine Ret_box (resRs_cons (resV_agg (AG rfl) (SZ rfl) rfl rfl (Nat.le_of_ble_eq_true rfl)) (resRs_cons resV_tmp resRs_nil)) rfl rfl rfl rfl rfl rfl rfl rfl rfl ?_ ?_ ?_ rfl)
    all_goals (try rw [hc])
    all_goals (try rfl)
  · rename_i h1
    have hx := of_decide_eq_false h
    rw [bys_len, hq] at hx
    have hc : cntGo least l b = ((numGo 10 0 0 l b).1, (numGo 10 0 0 l b).2.1, false) := by
      unfold cntGo; rw [if_neg (by rintro (hh | hh); (· simp [hh] at h1); (· omega))]
    have hd : (numGo 10 0 0 l b).2.1.length / least ≤ (numGo 10 0 0 l b).2.1.length := Nat.div_le_self _ _
    (first | refine Ret_box (resRs_cons resV_tmp resRs_nil) rfl rfl rfl rfl rfl rfl rfl rfl rfl ?_ ?_ ?_ rfl | refine Ret_box (resRs_cons (resV_agg (AG rfl) (SZ rfl) rfl rfl (Nat.le_of_ble_eq_true rfl)) resRs_nil) rfl rfl rfl rfl rfl rfl rfl rfl rfl ?_ ?_ ?_ rfl | refine Ret_box (resRs_cons resV_tmp (resRs_cons resV_tmp resRs_nil)) rfl rfl rfl rfl rfl rfl rfl rfl rfl ?_ ?_ ?_ rfl | refine Ret_box (resRs_cons (resV_agg (AG rfl) (SZ rfl) rfl rfl (Nat.le_of_ble_eq_true rfl)) (resRs_cons resV_tmp resRs_nil)) rfl rfl rfl rfl rfl rfl rfl rfl rfl ?_ ?_ ?_ rfl)
    · rw [hc, wrap64 (by omega)]
    · rw [hc, ← h1]; rfl
    · rfl

/-- So many trees, one behind the other. -/
def kidsGo (g : List UInt8 → Bool → Tr × List UInt8 × Bool) : Nat → List UInt8 → Bool → List Tr × List UInt8 × Bool
  | 0, l, b => ([], l, b)
  | n + 1, l, b => ((g l b).1 :: (kidsGo g n (g l b).2.1 (g l b).2.2).1, (kidsGo g n (g l b).2.1 (g l b).2.2).2)
def noTree : Tr := .mk 0 0 ⟨#[]⟩ []
/-- A tree: so many levels may still come. -/
def treeGo : Nat → List UInt8 → Bool → Tr × List UInt8 × Bool
  | 0, l, _ => (noTree, l, true)
  | f + 1, l, b =>
    if b = true then (noTree, l, true) else
    let r0 := rdByte l b
    let r1 := numGo 10 0 0 r0.2.1 r0.2.2
    let r2 := cntGo 1 r1.2.1 r1.2.2
    let r3 := cntGo 4 (r2.2.1.drop r2.1) r2.2.2
    let k := kidsGo (treeGo f) r3.1 r3.2.1 r3.2.2
    (.mk r0.1 (unfold64 r1.1) ⟨(r2.2.1.take r2.1).toArray⟩ k.1, k.2)
theorem cntGo_le (least : Nat) (_h0 : 0 < least) (l : List UInt8) (b : Bool) : (cntGo least l b).1 ≤ (cntGo least l b).2.1.length ∧ (cntGo least l b).2.1.length ≤ l.length := by
  have := numGo_len 10 0 0 l b
  unfold cntGo
  dsimp only
  split
  · simp; exact this
  · rename_i h
    have hd : (numGo 10 0 0 l b).2.1.length / least ≤ (numGo 10 0 0 l b).2.1.length := Nat.div_le_self _ _
    simp at h ⊢
    omega
theorem kids_len {g : List UInt8 → Bool → Tr × List UInt8 × Bool} (hg : ∀ l b, (g l b).2.1.length ≤ l.length) : ∀ (n : Nat) (l : List UInt8) (b : Bool), (kidsGo g n l b).2.1.length ≤ l.length
  | 0, l, b => by simp [kidsGo]
  | n + 1, l, b => by simp only [kidsGo]; exact Nat.le_trans (kids_len hg n _ _) (hg l b)
theorem tree_len : ∀ (f : Nat) (l : List UInt8) (b : Bool), (treeGo f l b).2.1.length ≤ l.length
  | 0, l, b => by simp [treeGo]
  | f + 1, l, b => by
    rw [treeGo]
    split
    · simp
    · have h0 := rdByte_len l b
      have h1 := numGo_len 10 0 0 (rdByte l b).2.1 (rdByte l b).2.2
      have h2 := (cntGo_le 1 (by decide) (numGo 10 0 0 (rdByte l b).2.1 (rdByte l b).2.2).2.1 (numGo 10 0 0 (rdByte l b).2.1 (rdByte l b).2.2).2.2).2
      dsimp only
      refine Nat.le_trans (kids_len (tree_len f) _ _ _) (Nat.le_trans (cntGo_le 4 (by decide) _ _).2 ?_)
      simp
      omega
theorem bys_take (l : List UInt8) (n : Nat) : (bys l).take n = bys (l.take n) := by simp [bys, List.map_take]
theorem bys_drop (l : List UInt8) (n : Nat) : (bys l).drop n = bys (l.drop n) := by simp [bys, List.map_drop]
end Go.Proofs.Ytffpepmfdjjjaaa
