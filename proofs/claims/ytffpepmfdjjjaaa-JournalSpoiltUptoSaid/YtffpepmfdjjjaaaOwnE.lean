/- What the program's functions compute, each shown once; and plain laws of it. -/
import Derived.Test.YtffpepmfdjjjaaaOwnD
namespace Go.Proofs.Ytffpepmfdjjjaaa
open Go.Pure
attribute [local irreducible] PW POps POpsD PO PC Cond

/-- A tree of bytes whose sum is apart. -/
def parseB (body : List UInt8) (s : BitVec 32) : Tr × Int :=
  if sumB body ≠ s then (noTree, 8)
  else if (treeGo 40 body false).2.2 = true ∨ 0 < (treeGo 40 body false).2.1.length ∨ wrongT (treeGo 40 body false).1 ≠ 0 then (noTree, 2)
  else ((treeGo 40 body false).1, 0)

set_option maxRecDepth 100000 in
set_option maxHeartbeats 4000000 in
theorem parse_long (l : List UInt8) (h : 100000 < l.length) (hm : l.length ≤ 1000000000) : PC Try.prog 24 [.g (.sl (bys l))] ⟨[], [], []⟩ (.tuple [.g noTree.g, .g (.int .i64 4)]) ⟨[], [], []⟩ := by
  refine PC_of_PW Try.func24 rfl rfl (rs := _) rfl (Nat.le_of_ble_eq_true (by kernel_rfl)) ?_
  (repeat (first | (refine qA ?_; try show PW _ _ _ _ _ _) | (refine qB ?_; try show PW _ _ _ _ _ _) | refine rO tabOk 300 rfl rfl ?_ | refine rO tabOk 6 rfl rfl ?_ | refine rO tabOk 1 rfl rfl ?_ | refine rD tabOk 300 rfl rfl ?_ | refine rD tabOk 6 rfl rfl ?_ | refine rD tabOk 1 rfl rfl ?_ | ((first | apply oR rfl rfl | (apply dR rfl rfl; focus (first | (apply cF rfl; intro _) | (apply cP rfl; intro _) | (apply cL rfl; intro _)))); focus (first | exact cI rfl (IK rfl) (IK rfl) rfl | exact mF rfl | exact bS rfl (EL rfl) (SZ rfl) (AG rfl) (ZR rfl) rfl rfl rfl rfl rfl rfl rfl | exact nC rfl rfl)) | refine xS ?_ | refine xR ?_ | refine xD false false rfl rfl mixed (by decide +kernel) ?_ | refine xD false true rfl rfl mixed (by decide +kernel) ?_ | refine xD true false rfl rfl mixed (by decide +kernel) ?_ | refine xD true true rfl rfl mixed (by decide +kernel) ?_ | refine xB ?_ | (refine xN ?_; try show PW _ _ _ _ _ _) | (refine xE ?_; try show PW _ _ _ _ _ _) | (refine xT ?_; try show PW _ _ _ _ _ _) | refine xt rfl ?_ | refine xf rfl ?_))
  (first | refine POps_split rfl rfl (fun h => ?_) (fun h => ?_) | refine POpsD_split rfl rfl (fun h => ?_) (fun h => ?_) | refine PW_cond rfl (fun h => ?_) (fun h => ?_))
  · (repeat (first | (refine qA ?_; try show PW _ _ _ _ _ _) | (refine qB ?_; try show PW _ _ _ _ _ _) | refine rO tabOk 300 rfl rfl ?_ | refine rO tabOk 6 rfl rfl ?_ | refine rO tabOk 1 rfl rfl ?_ | refine rD tabOk 300 rfl rfl ?_ | refine rD tabOk 6 rfl rfl ?_ | refine rD tabOk 1 rfl rfl ?_ | ((first | apply oR rfl rfl | (apply dR rfl rfl; focus (first | (apply cF rfl; intro _) | (apply cP rfl; intro _) | (apply cL rfl; intro _)))); focus (first | exact cI rfl (IK rfl) (IK rfl) rfl | exact mF rfl | exact bS rfl (EL rfl) (SZ rfl) (AG rfl) (ZR rfl) rfl rfl rfl rfl rfl rfl rfl | exact nC rfl rfl)) | refine xS ?_ | refine xR ?_ | refine xD false false rfl rfl mixed (by decide +kernel) ?_ | refine xD false true rfl rfl mixed (by decide +kernel) ?_ | refine xD true false rfl rfl mixed (by decide +kernel) ?_ | refine xD true true rfl rfl mixed (by decide +kernel) ?_ | refine xB ?_ | (refine xN ?_; try show PW _ _ _ _ _ _) | (refine xE ?_; try show PW _ _ _ _ _ _) | (refine xT ?_; try show PW _ _ _ _ _ _) | refine xt rfl ?_ | refine xf rfl ?_))
    exact Ret_two (resVs_cons (resV_agg (AG rfl) (SZ rfl) rfl rfl (Nat.le_of_ble_eq_true rfl)) (resVs_cons resV_tmp resVs_nil)) rfl rfl rfl
  · have := of_decide_eq_false h
    rw [bys_len] at this
    omega
set_option maxRecDepth 100000 in
set_option maxHeartbeats 4000000 in
theorem parse_short (l : List UInt8) (h : l.length < 4) : PC Try.prog 24 [.g (.sl (bys l))] ⟨[], [], []⟩ (.tuple [.g noTree.g, .g (.int .i64 2)]) ⟨[], [], []⟩ := by
  have hw : IntKind.i64.wrap (((bys l).length : Int) - 4) = (l.length : Int) - 4 := by rw [bys_len]; exact wrap64 (by omega)
  refine PC_of_PW Try.func24 rfl rfl (rs := _) rfl (Nat.le_of_ble_eq_true (by kernel_rfl)) ?_
  (repeat (first | (refine qA ?_; try show PW _ _ _ _ _ _) | (refine qB ?_; try show PW _ _ _ _ _ _) | refine rO tabOk 300 rfl rfl ?_ | refine rO tabOk 6 rfl rfl ?_ | refine rO tabOk 1 rfl rfl ?_ | refine rD tabOk 300 rfl rfl ?_ | refine rD tabOk 6 rfl rfl ?_ | refine rD tabOk 1 rfl rfl ?_ | ((first | apply oR rfl rfl | (apply dR rfl rfl; focus (first | (apply cF rfl; intro _) | (apply cP rfl; intro _) | (apply cL rfl; intro _)))); focus (first | exact cI rfl (IK rfl) (IK rfl) rfl | exact mF rfl | exact bS rfl (EL rfl) (SZ rfl) (AG rfl) (ZR rfl) rfl rfl rfl rfl rfl rfl rfl | exact nC rfl rfl)) | refine xS ?_ | refine xR ?_ | refine xD false false rfl rfl mixed (by decide +kernel) ?_ | refine xD false true rfl rfl mixed (by decide +kernel) ?_ | refine xD true false rfl rfl mixed (by decide +kernel) ?_ | refine xD true true rfl rfl mixed (by decide +kernel) ?_ | refine xB ?_ | (refine xN ?_; try show PW _ _ _ _ _ _) | (refine xE ?_; try show PW _ _ _ _ _ _) | (refine xT ?_; try show PW _ _ _ _ _ _) | refine xt rfl ?_ | refine xf rfl ?_))
  (first | refine POps_split rfl rfl (fun h => ?_) (fun h => ?_) | refine POpsD_split rfl rfl (fun h => ?_) (fun h => ?_) | refine PW_cond rfl (fun h => ?_) (fun h => ?_))
  · have := of_decide_eq_true h
    rw [bys_len] at this
    omega
  · (repeat (first | (refine qA ?_; try show PW _ _ _ _ _ _) | (refine qB ?_; try show PW _ _ _ _ _ _) | refine rO tabOk 300 rfl rfl ?_ | refine rO tabOk 6 rfl rfl ?_ | refine rO tabOk 1 rfl rfl ?_ | refine rD tabOk 300 rfl rfl ?_ | refine rD tabOk 6 rfl rfl ?_ | refine rD tabOk 1 rfl rfl ?_ | ((first | apply oR rfl rfl | (apply dR rfl rfl; focus (first | (apply cF rfl; intro _) | (apply cP rfl; intro _) | (apply cL rfl; intro _)))); focus (first | exact cI rfl (IK rfl) (IK rfl) rfl | exact mF rfl | exact bS rfl (EL rfl) (SZ rfl) (AG rfl) (ZR rfl) rfl rfl rfl rfl rfl rfl rfl | exact nC rfl rfl)) | refine xS ?_ | refine xR ?_ | refine xD false false rfl rfl mixed (by decide +kernel) ?_ | refine xD false true rfl rfl mixed (by decide +kernel) ?_ | refine xD true false rfl rfl mixed (by decide +kernel) ?_ | refine xD true true rfl rfl mixed (by decide +kernel) ?_ | refine xB ?_ | (refine xN ?_; try show PW _ _ _ _ _ _) | (refine xE ?_; try show PW _ _ _ _ _ _) | (refine xT ?_; try show PW _ _ _ _ _ _) | refine xt rfl ?_ | refine xf rfl ?_))
    (first | refine POps_split rfl rfl (fun h => ?_) (fun h => ?_) | refine POpsD_split rfl rfl (fun h => ?_) (fun h => ?_) | refine PW_cond rfl (fun h => ?_) (fun h => ?_))
    · (repeat (first | (refine qA ?_; try show PW _ _ _ _ _ _) | (refine qB ?_; try show PW _ _ _ _ _ _) | refine rO tabOk 300 rfl rfl ?_ | refine rO tabOk 6 rfl rfl ?_ | refine rO tabOk 1 rfl rfl ?_ | refine rD tabOk 300 rfl rfl ?_ | refine rD tabOk 6 rfl rfl ?_ | refine rD tabOk 1 rfl rfl ?_ | ((first | apply oR rfl rfl | (apply dR rfl rfl; focus (first | (apply cF rfl; intro _) | (apply cP rfl; intro _) | (apply cL rfl; intro _)))); focus (first | exact cI rfl (IK rfl) (IK rfl) rfl | exact mF rfl | exact bS rfl (EL rfl) (SZ rfl) (AG rfl) (ZR rfl) rfl rfl rfl rfl rfl rfl rfl | exact nC rfl rfl)) | refine xS ?_ | refine xR ?_ | refine xD false false rfl rfl mixed (by decide +kernel) ?_ | refine xD false true rfl rfl mixed (by decide +kernel) ?_ | refine xD true false rfl rfl mixed (by decide +kernel) ?_ | refine xD true true rfl rfl mixed (by decide +kernel) ?_ | refine xB ?_ | (refine xN ?_; try show PW _ _ _ _ _ _) | (refine xE ?_; try show PW _ _ _ _ _ _) | (refine xT ?_; try show PW _ _ _ _ _ _) | refine xt rfl ?_ | refine xf rfl ?_))
      exact Ret_two (resVs_cons (resV_agg (AG rfl) (SZ rfl) rfl rfl (Nat.le_of_ble_eq_true rfl)) (resVs_cons resV_tmp resVs_nil)) rfl rfl rfl
    · have := of_decide_eq_false h
      rw [hw] at this
      omega
set_option maxRecDepth 100000 in
set_option maxHeartbeats 4000000 in
theorem parse_pc (body : List UInt8) (a b c d : UInt8) (hl : body.length + 4 ≤ 100000) :
    PC Try.prog 24 [.g (.sl (bys (body ++ [a, b, c, d])))] ⟨[], [], []⟩ (.tuple [.g (parseB body (le32 a b c d)).1.g, .g (.int .i64 (parseB body (le32 a b c d)).2)]) ⟨[], [], []⟩ := by
  generalize hll : body ++ [a, b, c, d] = l
  have hlen : l.length = body.length + 4 := by rw [← hll]; simp
  have hw : IntKind.i64.wrap (((bys l).length : Int) - 4) = (body.length : Int) := by rw [bys_len, hlen]; rw [wrap64 (by omega)]; omega
  have ga : (bys l)[(IntKind.i64.wrap (((bys l).length : Int) - 4)).toNat]? = some (byteG a) := by rw [hw, ← hll]; simp [bys]
  have gb : (bys l)[(IntKind.i64.wrap (IntKind.i64.wrap (((bys l).length : Int) - 4) + 1)).toNat]? = some (byteG b) := by rw [hw, wrap64 (by omega), ← hll, show ((body.length : Int) + 1).toNat = body.length + 1 by omega]; simp [bys]
  have gc : (bys l)[(IntKind.i64.wrap (IntKind.i64.wrap (((bys l).length : Int) - 4) + 2)).toNat]? = some (byteG c) := by rw [hw, wrap64 (by omega), ← hll, show ((body.length : Int) + 2).toNat = body.length + 2 by omega]; simp [bys]
  have gd : (bys l)[(IntKind.i64.wrap (IntKind.i64.wrap (((bys l).length : Int) - 4) + 3)).toNat]? = some (byteG d) := by rw [hw, wrap64 (by omega), ← hll, show ((body.length : Int) + 3).toNat = body.length + 3 by omega]; simp [bys]
  have pa : 0 ≤ IntKind.i64.wrap (((bys l).length : Int) - 4) := by rw [hw]; omega
  have pb : 0 ≤ IntKind.i64.wrap (IntKind.i64.wrap (((bys l).length : Int) - 4) + 1) := by rw [hw, wrap64 (by omega)]; omega
  have pc : 0 ≤ IntKind.i64.wrap (IntKind.i64.wrap (((bys l).length : Int) - 4) + 2) := by rw [hw, wrap64 (by omega)]; omega
  have pd : 0 ≤ IntKind.i64.wrap (IntKind.i64.wrap (((bys l).length : Int) - 4) + 3) := by rw [hw, wrap64 (by omega)]; omega
  have hsum := sum_pc body (by omega)
  have htake : (l.drop 0).take (body.length - 0) = body := by rw [← hll]; simp
  have ht := tree_pc 40 body false (by omega) (by omega)
  have hok := tree_ok 40 body false (by omega)
  have hwr := wrong_pc _ hok
  have hle := le32_eq a b c d
  unfold parseB
  generalize treeGo 40 body false = r at ht hok hwr
  obtain ⟨⟨ta, tb, tc, td⟩, rl, rb⟩ := r
  dsimp only at ht hok hwr
  refine PC_of_PW Try.func24 rfl rfl (rs := _) rfl (Nat.le_of_ble_eq_true (by kernel_rfl)) ?_
  (repeat (first | (refine qA ?_; try show PW _ _ _ _ _ _) | (refine qB ?_; try show PW _ _ _ _ _ _) | refine rO tabOk 300 rfl rfl ?_ | refine rO tabOk 6 rfl rfl ?_ | refine rO tabOk 1 rfl rfl ?_ | refine rD tabOk 300 rfl rfl ?_ | refine rD tabOk 6 rfl rfl ?_ | refine rD tabOk 1 rfl rfl ?_ | ((first | apply oR rfl rfl | (apply dR rfl rfl; focus (first | (apply cF rfl; intro _) | (apply cP rfl; intro _) | (apply cL rfl; intro _)))); focus (first | exact cI rfl (IK rfl) (IK rfl) rfl | exact mF rfl | exact bS rfl (EL rfl) (SZ rfl) (AG rfl) (ZR rfl) rfl rfl rfl rfl rfl rfl rfl | exact nC rfl rfl)) | refine xS ?_ | refine xR ?_ | refine xD false false rfl rfl mixed (by decide +kernel) ?_ | refine xD false true rfl rfl mixed (by decide +kernel) ?_ | refine xD true false rfl rfl mixed (by decide +kernel) ?_ | refine xD true true rfl rfl mixed (by decide +kernel) ?_ | refine xB ?_ | (refine xN ?_; try show PW _ _ _ _ _ _) | (refine xE ?_; try show PW _ _ _ _ _ _) | (refine xT ?_; try show PW _ _ _ _ _ _) | refine xt rfl ?_ | refine xf rfl ?_))
  (first | refine POps_split rfl rfl (fun h => ?_) (fun h => ?_) | refine POpsD_split rfl rfl (fun h => ?_) (fun h => ?_) | refine PW_cond rfl (fun h => ?_) (fun h => ?_))
  · have := of_decide_eq_true h
    rw [bys_len] at this
    omega
  (repeat (first | (refine qA ?_; try show PW _ _ _ _ _ _) | (refine qB ?_; try show PW _ _ _ _ _ _) | refine rO tabOk 300 rfl rfl ?_ | refine rO tabOk 6 rfl rfl ?_ | refine rO tabOk 1 rfl rfl ?_ | refine rD tabOk 300 rfl rfl ?_ | refine rD tabOk 6 rfl rfl ?_ | refine rD tabOk 1 rfl rfl ?_ | ((first | apply oR rfl rfl | (apply dR rfl rfl; focus (first | (apply cF rfl; intro _) | (apply cP rfl; intro _) | (apply cL rfl; intro _)))); focus (first | exact cI rfl (IK rfl) (IK rfl) rfl | exact mF rfl | exact bS rfl (EL rfl) (SZ rfl) (AG rfl) (ZR rfl) rfl rfl rfl rfl rfl rfl rfl | exact nC rfl rfl)) | refine xS ?_ | refine xR ?_ | refine xD false false rfl rfl mixed (by decide +kernel) ?_ | refine xD false true rfl rfl mixed (by decide +kernel) ?_ | refine xD true false rfl rfl mixed (by decide +kernel) ?_ | refine xD true true rfl rfl mixed (by decide +kernel) ?_ | refine xB ?_ | (refine xN ?_; try show PW _ _ _ _ _ _) | (refine xE ?_; try show PW _ _ _ _ _ _) | (refine xT ?_; try show PW _ _ _ _ _ _) | refine xt rfl ?_ | refine xf rfl ?_))
  (first | refine POps_split rfl rfl (fun h => ?_) (fun h => ?_) | refine POpsD_split rfl rfl (fun h => ?_) (fun h => ?_) | refine PW_cond rfl (fun h => ?_) (fun h => ?_))
  · have := of_decide_eq_true h
    rw [hw] at this
    omega
  (repeat (first | (refine qA ?_; try show PW _ _ _ _ _ _) | (refine qB ?_; try show PW _ _ _ _ _ _) | refine rO tabOk 300 rfl rfl ?_ | refine rO tabOk 6 rfl rfl ?_ | refine rO tabOk 1 rfl rfl ?_ | refine rD tabOk 300 rfl rfl ?_ | refine rD tabOk 6 rfl rfl ?_ | refine rD tabOk 1 rfl rfl ?_ | ((first | apply oR rfl rfl | (apply dR rfl rfl; focus (first | (apply cF rfl; intro _) | (apply cP rfl; intro _) | (apply cL rfl; intro _)))); focus (first | exact PO_slice_bys body 0 body.length rfl (EL rfl) (SZ rfl) rfl rfl rfl rfl hw (Nat.zero_le _) (by omega) htake | exact cl rfl rfl (EN rfl) (hsum) rfl rfl rfl | exact iA rfl (EL rfl) (SZ rfl) rfl rfl pa ga rfl | exact iA rfl (EL rfl) (SZ rfl) rfl rfl pb gb rfl | exact iA rfl (EL rfl) (SZ rfl) rfl rfl pc gc rfl | exact iA rfl (EL rfl) (SZ rfl) rfl rfl pd gd rfl | exact PO_shl rfl rfl rfl (by decide) | exact cI rfl (IK rfl) (IK rfl) rfl | exact mF rfl | exact bS rfl (EL rfl) (SZ rfl) (AG rfl) (ZR rfl) rfl rfl rfl rfl rfl rfl rfl | exact nC rfl rfl)) | (apply dR rfl rfl; focus (first | exact Cond_c (PO_slice_bys body 0 body.length rfl (EL rfl) (SZ rfl) rfl rfl rfl rfl hw (Nat.zero_le _) (by omega) htake) | exact Cond_c (cl rfl rfl (EN rfl) (hsum) rfl rfl rfl))) | refine xS ?_ | refine xR ?_ | refine xD false false rfl rfl mixed (by decide +kernel) ?_ | refine xD false true rfl rfl mixed (by decide +kernel) ?_ | refine xD true false rfl rfl mixed (by decide +kernel) ?_ | refine xD true true rfl rfl mixed (by decide +kernel) ?_ | refine xB ?_ | (refine xN ?_; try show PW _ _ _ _ _ _) | (refine xE ?_; try show PW _ _ _ _ _ _) | (refine xT ?_; try show PW _ _ _ _ _ _) | refine xt rfl ?_ | refine xf rfl ?_))
  (first | refine POps_split rfl rfl (fun h => ?_) (fun h => ?_) | refine POpsD_split rfl rfl (fun h => ?_) (fun h => ?_) | refine PW_cond rfl (fun h => ?_) (fun h => ?_))
  · have hne : sumB body ≠ le32 a b c d := by
      intro e
      have h2 : (((sumB body).toNat : Int) != orI (orI (orI (IntKind.u32.wrap (a.toNat : Int)) (shK 8 b)) (shK 16 c)) (shK 24 d)) = true := h
      rw [hle, e] at h2
      simp at h2
    rw [if_pos hne]
    (repeat (first | (refine qA ?_; try show PW _ _ _ _ _ _) | (refine qB ?_; try show PW _ _ _ _ _ _) | refine rO tabOk 300 rfl rfl ?_ | refine rO tabOk 6 rfl rfl ?_ | refine rO tabOk 1 rfl rfl ?_ | refine rD tabOk 300 rfl rfl ?_ | refine rD tabOk 6 rfl rfl ?_ | refine rD tabOk 1 rfl rfl ?_ | ((first | apply oR rfl rfl | (apply dR rfl rfl; focus (first | (apply cF rfl; intro _) | (apply cP rfl; intro _) | (apply cL rfl; intro _)))); focus (first | exact cI rfl (IK rfl) (IK rfl) rfl | exact mF rfl | exact bS rfl (EL rfl) (SZ rfl) (AG rfl) (ZR rfl) rfl rfl rfl rfl rfl rfl rfl | exact nC rfl rfl)) | refine xS ?_ | refine xR ?_ | refine xD false false rfl rfl mixed (by decide +kernel) ?_ | refine xD false true rfl rfl mixed (by decide +kernel) ?_ | refine xD true false rfl rfl mixed (by decide +kernel) ?_ | refine xD true true rfl rfl mixed (by decide +kernel) ?_ | refine xB ?_ | (refine xN ?_; try show PW _ _ _ _ _ _) | (refine xE ?_; try show PW _ _ _ _ _ _) | (refine xT ?_; try show PW _ _ _ _ _ _) | refine xt rfl ?_ | refine xf rfl ?_))
    exact Ret_two (resVs_cons (resV_agg (AG rfl) (SZ rfl) rfl rfl (Nat.le_of_ble_eq_true rfl)) (resVs_cons resV_tmp resVs_nil)) rfl rfl rfl
  · have hne : sumB body = le32 a b c d := by
      have h2 : (((sumB body).toNat : Int) != orI (orI (orI (IntKind.u32.wrap (a.toNat : Int)) (shK 8 b)) (shK 16 c)) (shK 24 d)) = false := h
      rw [hle] at h2
      apply BitVec.eq_of_toNat_eq
      simp at h2
      omega
    rw [if_neg (fun hn => hn hne)]
    (repeat' (first | (first | (refine qA ?_; try show PW _ _ _ _ _ _) | (refine qB ?_; try show PW _ _ _ _ _ _) | refine rO tabOk 300 rfl rfl ?_ | refine rO tabOk 6 rfl rfl ?_ | refine rO tabOk 1 rfl rfl ?_ | refine rD tabOk 300 rfl rfl ?_ | refine rD tabOk 6 rfl rfl ?_ | refine rD tabOk 1 rfl rfl ?_ | ((first | apply oR rfl rfl | (apply dR rfl rfl; focus (first | (apply cF rfl; intro _) | (apply cP rfl; intro _) | (apply cL rfl; intro _)))); focus (first | exact PO_slice_bys body 0 body.length rfl (EL rfl) (SZ rfl) rfl rfl rfl rfl hw (Nat.zero_le _) (by omega) htake | exact cb [] rfl rfl (EN rfl) (ht) rfl rfl rfl rfl rfl rfl rfl rfl rfl rfl rfl | exact cl rfl rfl (EN rfl) (hwr) rfl rfl rfl | exact cI rfl (IK rfl) (IK rfl) rfl | exact mF rfl | exact bS rfl (EL rfl) (SZ rfl) (AG rfl) (ZR rfl) rfl rfl rfl rfl rfl rfl rfl | exact nC rfl rfl)) | (apply dR rfl rfl; focus (first | exact Cond_c (PO_slice_bys body 0 body.length rfl (EL rfl) (SZ rfl) rfl rfl rfl rfl hw (Nat.zero_le _) (by omega) htake) | exact Cond_c (cb [] rfl rfl (EN rfl) (ht) rfl rfl rfl rfl rfl rfl rfl rfl rfl rfl rfl) | exact Cond_c (cl rfl rfl (EN rfl) (hwr) rfl rfl rfl))) | refine xS ?_ | refine xR ?_ | refine xD false false rfl rfl mixed (by decide +kernel) ?_ | refine xD false true rfl rfl mixed (by decide +kernel) ?_ | refine xD true false rfl rfl mixed (by decide +kernel) ?_ | refine xD true true rfl rfl mixed (by decide +kernel) ?_ | refine xB ?_ | (refine xN ?_; try show PW _ _ _ _ _ _) | (refine xE ?_; try show PW _ _ _ _ _ _) | (refine xT ?_; try show PW _ _ _ _ _ _) | refine xt rfl ?_ | refine xf rfl ?_) | refine POps_split rfl rfl (fun h => ?_) (fun h => ?_) | refine POpsD_split rfl rfl (fun h => ?_) (fun h => ?_) | refine PW_cond rfl (fun h => ?_) (fun h => ?_)))
    · rw [if_pos (.inl h)]
      exact Ret_two (resVs_cons (resV_agg (AG rfl) (SZ rfl) rfl rfl (Nat.le_of_ble_eq_true rfl)) (resVs_cons resV_tmp resVs_nil)) rfl rfl rfl
    · have := of_decide_eq_true h
      rw [bys_len] at this
      rw [if_pos (.inr (.inl (by dsimp only; omega)))]
      exact Ret_two (resVs_cons (resV_agg (AG rfl) (SZ rfl) rfl rfl (Nat.le_of_ble_eq_true rfl)) (resVs_cons resV_tmp resVs_nil)) rfl rfl rfl
    · have hwn : wrongT (Tr.mk ta tb tc td) ≠ 0 := by simpa [bne] using h
      rw [if_pos (.inr (.inr hwn))]
      exact Ret_two (resVs_cons (resV_agg (AG rfl) (SZ rfl) rfl rfl (Nat.le_of_ble_eq_true rfl)) (resVs_cons resV_tmp resVs_nil)) rfl rfl rfl
    · have hwn : wrongT (Tr.mk ta tb tc td) = 0 := by simpa [bne] using h
      rename_i h1 h2
      have := of_decide_eq_false h2
      rw [bys_len] at this
      rw [if_neg (by rintro (hh | hh | hh); (· exact Bool.noConfusion (hh.symm.trans h1)); (· dsimp only at hh; omega); (· exact hh hwn))]
      exact Ret_two (resVs_cons (resV_agg (AG rfl) (SZ rfl) rfl rfl (Nat.le_of_ble_eq_true rfl)) (resVs_cons resV_tmp resVs_nil)) rfl rfl rfl
end Go.Proofs.Ytffpepmfdjjjaaa

/- Plain laws: what is written is read, in one way alone. -/
namespace Go.Proofs.Ytffpepmfdjjjaaa
open Go.Pure

mutual
/-- Numbers of 64 bits. -/
def Tr.wf : Tr → Prop
  | .mk tag n _ kids => (-9223372036854775808 ≤ tag ∧ tag < 9223372036854775808) ∧ (-9223372036854775808 ≤ n ∧ n < 9223372036854775808) ∧ Tr.wfs kids
def Tr.wfs : List Tr → Prop
  | [] => True
  | t :: r => t.wf ∧ Tr.wfs r
end
mutual
theorem look_zero : ∀ (t : Tr) (d n : Int), (look d n t).1 = 0 → t.wf → d + t.tall ≤ 41 ∧ t.fine
  | .mk tag tn text kids, d, n, h, hw => by
    simp only [Tr.wf] at hw
    simp only [look] at h
    split at h
    · simp at h
    · split at h
      · simp at h
      · have := looks_zero kids (d + 1) (n + 1) h hw.2.2
        simp only [Tr.tall, Tr.fine]
        refine ⟨?_, by omega, hw.2.1, this.2⟩
        rcases this.1 with rfl | h3
        · simp only [Tr.talls]; omega
        · omega
theorem looks_zero : ∀ (l : List Tr) (d n : Int), (looks d n l).1 = 0 → Tr.wfs l → (l = [] ∨ d + Tr.talls l ≤ 41) ∧ Tr.fines l
  | [], d, n, h, _ => by simp [Tr.fines]
  | t :: r, d, n, h, hw => by
    simp only [Tr.wfs] at hw
    simp only [looks] at h
    split at h
    · rename_i h0
      have h1 := look_zero t d n h0 hw.1
      have h2 := looks_zero r d _ h hw.2
      simp only [Tr.talls, Tr.fines]
      refine ⟨.inr ?_, h1.2, h2.2⟩
      rcases h2.1 with rfl | h3
      · simp only [Tr.talls]; omega
      · omega
    · rename_i h0
      exact absurd h h0
end
theorem wrong_zero {t : Tr} (h : wrongT t = 0) (hw : t.wf) : t.tall ≤ 40 ∧ t.fine := by
  have := look_zero t 1 0 h hw
  exact ⟨by omega, this.2⟩

theorem four_back (x : BitVec 32) : ∃ a b c d, four x = [a, b, c, d] ∧ le32 a b c d = x := by
  refine ⟨_, _, _, _, rfl, ?_⟩
  have := x.isLt
  apply BitVec.eq_of_toNat_eq
  unfold le32
  simp
  omega
theorem four_le32 (a b c d : UInt8) : four (le32 a b c d) = [a, b, c, d] := by
  have ha := a.toNat_lt; have hb := b.toNat_lt; have hc := c.toNat_lt; have hd := d.toNat_lt
  have e : (le32 a b c d).toNat = a.toNat + 256 * b.toNat + 65536 * c.toNat + 16777216 * d.toNat := by
    unfold le32; simp; omega
  unfold four
  rw [e]
  have e1 : (a.toNat + 256 * b.toNat + 65536 * c.toNat + 16777216 * d.toNat) % 256 = a.toNat := by omega
  have e2 : (a.toNat + 256 * b.toNat + 65536 * c.toNat + 16777216 * d.toNat) / 256 % 256 = b.toNat := by omega
  have e3 : (a.toNat + 256 * b.toNat + 65536 * c.toNat + 16777216 * d.toNat) / 65536 % 256 = c.toNat := by omega
  have e4 : (a.toNat + 256 * b.toNat + 65536 * c.toNat + 16777216 * d.toNat) / 16777216 % 256 = d.toNat := by omega
  rw [e1, e2, e3, e4]
  simp

/-- Any bytes' tree, and what is wrong. -/
def parseT (l : List UInt8) : Tr × Int :=
  if 100000 < l.length then (noTree, 4) else
  match l.drop (l.length - 4), l.length with
  | [a, b, c, d], _ => parseB (l.take (l.length - 4)) (le32 a b c d)
  | _, _ => (noTree, 2)
theorem parseT_four (body : List UInt8) (a b c d : UInt8) (h : body.length + 4 ≤ 100000) : parseT (body ++ [a, b, c, d]) = parseB body (le32 a b c d) := by
  unfold parseT
  have hl : (body ++ [a, b, c, d]).length = body.length + 4 := by simp
  rw [if_neg (by omega)]
  have e1 : (body ++ [a, b, c, d]).length - 4 = body.length := by omega
  rw [e1, List.drop_left, List.take_left]
theorem last_four (l : List UInt8) (h : 4 ≤ l.length) : ∃ body a b c d, l = body ++ [a, b, c, d] := by
  have h1 : (l.drop (l.length - 4)).length = 4 := by simp; omega
  match hd : l.drop (l.length - 4), h1 with
  | [a, b, c, d], _ => exact ⟨l.take (l.length - 4), a, b, c, d, by rw [← hd, List.take_append_drop]⟩
theorem parse_all (l : List UInt8) (hm : l.length ≤ 1000000000) : PC Try.prog 24 [.g (.sl (bys l))] ⟨[], [], []⟩ (.tuple [.g (parseT l).1.g, .g (.int .i64 (parseT l).2)]) ⟨[], [], []⟩ := by
  by_cases h1 : 100000 < l.length
  · have : parseT l = (noTree, 4) := by unfold parseT; rw [if_pos h1]
    rw [this]
    exact parse_long l h1 hm
  · by_cases h2 : l.length < 4
    · have : parseT l = (noTree, 2) := by
        unfold parseT
        rw [if_neg h1]
        have : (l.drop (l.length - 4)).length ≠ 4 := by simp; omega
        split
        · rename_i hd; rw [hd] at this; simp at this
        · rfl
      rw [this]
      exact parse_short l h2
    · obtain ⟨body, a, b, c, d, rfl⟩ := last_four l (by omega)
      have hl : (body ++ [a, b, c, d]).length = body.length + 4 := by simp
      rw [parseT_four _ _ _ _ _ (by omega)]
      exact parse_pc body a b c d (by omega)

/-- What is written is read. -/
theorem bytes_parse {t : Tr} {x : List UInt8} (hw : t.wf) (h : bytesT t = (x, 0)) : parseT x = (t, 0) := by
  unfold bytesT at h
  split at h
  · rename_i h0
    split at h
    · simp at h
    · rename_i hl
      cases h
      obtain ⟨a, b, c, d, h4, h5⟩ := four_back (sumB (enc t))
      obtain ⟨ht, hf⟩ := wrong_zero h0 hw
      have hr := tree_read 40 t [] hf ht (by simp; omega)
      rw [List.append_nil] at hr
      rw [h4, parseT_four _ _ _ _ _ (by omega), h5]
      unfold parseB
      rw [if_neg (fun hn => hn rfl), hr]
      dsimp only
      rw [if_neg (by simp [h0])]
  · rename_i h0
    have := congrArg (fun x => x.2) h
    exact absurd this h0
/-- What is read was written. -/
theorem parse_bytes {u : Tr} {l : List UInt8} (h : parseT l = (u, 0)) : bytesT u = (l, 0) ∧ u.fine ∧ l.length ≤ 100000 := by
  by_cases h1 : 100000 < l.length
  · have : parseT l = (noTree, 4) := by unfold parseT; rw [if_pos h1]
    rw [this] at h; simp at h
  · by_cases h2 : l.length < 4
    · have : parseT l = (noTree, 2) := by
        unfold parseT
        rw [if_neg h1]
        have : (l.drop (l.length - 4)).length ≠ 4 := by simp; omega
        split
        · rename_i hd; rw [hd] at this; simp at this
        · rfl
      rw [this] at h; simp at h
    · obtain ⟨body, a, b, c, d, rfl⟩ := last_four l (by omega)
      have hl : (body ++ [a, b, c, d]).length = body.length + 4 := by simp
      rw [parseT_four _ _ _ _ _ (by omega)] at h
      unfold parseB at h
      split at h
      · simp at h
      · rename_i hs
        split at h
        · simp at h
        · rename_i hh
          have hb : (treeGo 40 body false).2.2 = false := by
            cases hx : (treeGo 40 body false).2.2 with
            | false => rfl
            | true => exact absurd (.inl hx) hh
          have hn : (treeGo 40 body false).2.1 = [] := by
            apply List.eq_nil_of_length_eq_zero
            omega
          have hu : (treeGo 40 body false).1 = u := congrArg (fun x => x.1) h
          have e : treeGo 40 body false = (u, [], false) := Prod.ext hu (Prod.ext hn hb)
          obtain ⟨_, e2, e3⟩ := tree_was 40 body false u [] e
          rw [List.append_nil] at e2
          have hz : wrongT u = 0 := by
            rw [← hu]
            exact Classical.byContradiction fun hne => hh (.inr (.inr hne))
          refine ⟨?_, e3, by omega⟩
          have hs' : sumB body = le32 a b c d := Classical.byContradiction fun hne => hs hne
          unfold bytesT
          rw [if_pos hz, ← e2, if_neg (by omega), hs', four_le32]
end Go.Proofs.Ytffpepmfdjjjaaa

namespace Go.Proofs.Ytffpepmfdjjjaaa
open Go.Pure
attribute [local irreducible] PW POps POpsD PO PC Cond

set_option maxRecDepth 100000 in
set_option maxHeartbeats 4000000 in
theorem samebytes_pc (l : List UInt8) (hl : l.length ≤ 9223372036854775807) : PC Try.prog 23 [.g (.sl (bys l)), .g (.sl (bys l))] ⟨[], [], []⟩ (.g (.bool true)) ⟨[], [], []⟩ := by
  refine PC_of_PW Try.func23 rfl rfl (rs := _) rfl (Nat.le_of_ble_eq_true (by kernel_rfl)) ?_
  (repeat (first | (refine qA ?_; try show PW _ _ _ _ _ _) | (refine qB ?_; try show PW _ _ _ _ _ _) | refine rO tabOk 300 rfl rfl ?_ | refine rO tabOk 6 rfl rfl ?_ | refine rO tabOk 1 rfl rfl ?_ | refine rD tabOk 300 rfl rfl ?_ | refine rD tabOk 6 rfl rfl ?_ | refine rD tabOk 1 rfl rfl ?_ | ((first | apply oR rfl rfl | (apply dR rfl rfl; focus (first | (apply cF rfl; intro _) | (apply cP rfl; intro _) | (apply cL rfl; intro _)))); focus (first | exact cI rfl (IK rfl) (IK rfl) rfl | exact mF rfl | exact bS rfl (EL rfl) (SZ rfl) (AG rfl) (ZR rfl) rfl rfl rfl rfl rfl rfl rfl | exact nC rfl rfl)) | refine xS ?_ | refine xR ?_ | refine xD false false rfl rfl mixed (by decide +kernel) ?_ | refine xD false true rfl rfl mixed (by decide +kernel) ?_ | refine xD true false rfl rfl mixed (by decide +kernel) ?_ | refine xD true true rfl rfl mixed (by decide +kernel) ?_ | refine xB ?_ | (refine xN ?_; try show PW _ _ _ _ _ _) | (refine xE ?_; try show PW _ _ _ _ _ _) | (refine xT ?_; try show PW _ _ _ _ _ _) | refine xt rfl ?_ | refine xf rfl ?_))
  (first | refine POps_split rfl rfl (fun h => ?_) (fun h => ?_) | refine POpsD_split rfl rfl (fun h => ?_) (fun h => ?_) | refine PW_cond rfl (fun h => ?_) (fun h => ?_))
  · simp at h
  (repeat (first | (refine qA ?_; try show PW _ _ _ _ _ _) | (refine qB ?_; try show PW _ _ _ _ _ _) | refine rO tabOk 300 rfl rfl ?_ | refine rO tabOk 6 rfl rfl ?_ | refine rO tabOk 1 rfl rfl ?_ | refine rD tabOk 300 rfl rfl ?_ | refine rD tabOk 6 rfl rfl ?_ | refine rD tabOk 1 rfl rfl ?_ | ((first | apply oR rfl rfl | (apply dR rfl rfl; focus (first | (apply cF rfl; intro _) | (apply cP rfl; intro _) | (apply cL rfl; intro _)))); focus (first | exact cI rfl (IK rfl) (IK rfl) rfl | exact mF rfl | exact bS rfl (EL rfl) (SZ rfl) (AG rfl) (ZR rfl) rfl rfl rfl rfl rfl rfl rfl | exact nC rfl rfl)) | refine xS ?_ | refine xR ?_ | refine xD false false rfl rfl mixed (by decide +kernel) ?_ | refine xD false true rfl rfl mixed (by decide +kernel) ?_ | refine xD true false rfl rfl mixed (by decide +kernel) ?_ | refine xD true true rfl rfl mixed (by decide +kernel) ?_ | refine xB ?_ | (refine xN ?_; try show PW _ _ _ _ _ _) | (refine xE ?_; try show PW _ _ _ _ _ _) | (refine xT ?_; try show PW _ _ _ _ _ _) | refine xt rfl ?_ | refine xf rfl ?_))
  refine PW_loop (S := Nat) (fun i => slots [(0, .g (.sl (bys l))), (1, .g (.sl (bys l))), (12, .g (.int .i64 l.length)), (13, .g (.int .i64 i))]) (fun _ => ⟨[], [], []⟩) (fun i => i ≤ l.length) (fun i => l.length - i) 0 (Nat.zero_le _) (SlotsOk.le ⟨.inl rfl, .inl rfl, .inl (by simp [bys]; rfl), .inl rfl, trivial⟩) (HLe.refl _) (fun i hi => ?_)
  (repeat (first | (refine qA ?_; try show PW _ _ _ _ _ _) | (refine qB ?_; try show PW _ _ _ _ _ _) | refine rO tabOk 300 rfl rfl ?_ | refine rO tabOk 6 rfl rfl ?_ | refine rO tabOk 1 rfl rfl ?_ | refine rD tabOk 300 rfl rfl ?_ | refine rD tabOk 6 rfl rfl ?_ | refine rD tabOk 1 rfl rfl ?_ | ((first | apply oR rfl rfl | (apply dR rfl rfl; focus (first | (apply cF rfl; intro _) | (apply cP rfl; intro _) | (apply cL rfl; intro _)))); focus (first | exact cI rfl (IK rfl) (IK rfl) rfl | exact mF rfl | exact bS rfl (EL rfl) (SZ rfl) (AG rfl) (ZR rfl) rfl rfl rfl rfl rfl rfl rfl | exact nC rfl rfl)) | refine xS ?_ | refine xR ?_ | refine xD false false rfl rfl mixed (by decide +kernel) ?_ | refine xD false true rfl rfl mixed (by decide +kernel) ?_ | refine xD true false rfl rfl mixed (by decide +kernel) ?_ | refine xD true true rfl rfl mixed (by decide +kernel) ?_ | refine xB ?_ | (refine xN ?_; try show PW _ _ _ _ _ _) | (refine xE ?_; try show PW _ _ _ _ _ _) | (refine xT ?_; try show PW _ _ _ _ _ _) | refine xt rfl ?_ | refine xf rfl ?_))
  (first | refine POps_split rfl rfl (fun h => ?_) (fun h => ?_) | refine POpsD_split rfl rfl (fun h => ?_) (fun h => ?_) | refine PW_cond rfl (fun h => ?_) (fun h => ?_))
  · have hlt : i < l.length := by have := of_decide_eq_true h; omega
    have hg := bys_get hlt
    (repeat (first | (refine qA ?_; try show PW _ _ _ _ _ _) | (refine qB ?_; try show PW _ _ _ _ _ _) | refine rO tabOk 300 rfl rfl ?_ | refine rO tabOk 6 rfl rfl ?_ | refine rO tabOk 1 rfl rfl ?_ | refine rD tabOk 300 rfl rfl ?_ | refine rD tabOk 6 rfl rfl ?_ | refine rD tabOk 1 rfl rfl ?_ | ((first | apply oR rfl rfl | (apply dR rfl rfl; focus (first | (apply cF rfl; intro _) | (apply cP rfl; intro _) | (apply cL rfl; intro _)))); focus (first | exact iA rfl (EL rfl) (SZ rfl) rfl rfl (Int.natCast_nonneg _) hg rfl | exact cI rfl (IK rfl) (IK rfl) rfl | exact mF rfl | exact bS rfl (EL rfl) (SZ rfl) (AG rfl) (ZR rfl) rfl rfl rfl rfl rfl rfl rfl | exact nC rfl rfl)) | refine xS ?_ | refine xR ?_ | refine xD false false rfl rfl mixed (by decide +kernel) ?_ | refine xD false true rfl rfl mixed (by decide +kernel) ?_ | refine xD true false rfl rfl mixed (by decide +kernel) ?_ | refine xD true true rfl rfl mixed (by decide +kernel) ?_ | refine xB ?_ | (refine xN ?_; try show PW _ _ _ _ _ _) | (refine xE ?_; try show PW _ _ _ _ _ _) | (refine xT ?_; try show PW _ _ _ _ _ _) | refine xt rfl ?_ | refine xf rfl ?_))
    (first | refine POps_split rfl rfl (fun h => ?_) (fun h => ?_) | refine POpsD_split rfl rfl (fun h => ?_) (fun h => ?_) | refine PW_cond rfl (fun h => ?_) (fun h => ?_))
    · simp at h
    (repeat (first | (refine qA ?_; try show PW _ _ _ _ _ _) | (refine qB ?_; try show PW _ _ _ _ _ _) | refine rO tabOk 300 rfl rfl ?_ | refine rO tabOk 6 rfl rfl ?_ | refine rO tabOk 1 rfl rfl ?_ | refine rD tabOk 300 rfl rfl ?_ | refine rD tabOk 6 rfl rfl ?_ | refine rD tabOk 1 rfl rfl ?_ | ((first | apply oR rfl rfl | (apply dR rfl rfl; focus (first | (apply cF rfl; intro _) | (apply cP rfl; intro _) | (apply cL rfl; intro _)))); focus (first | exact cI rfl (IK rfl) (IK rfl) rfl | exact mF rfl | exact bS rfl (EL rfl) (SZ rfl) (AG rfl) (ZR rfl) rfl rfl rfl rfl rfl rfl rfl | exact nC rfl rfl)) | refine xS ?_ | refine xR ?_ | refine xD false false rfl rfl mixed (by decide +kernel) ?_ | refine xD false true rfl rfl mixed (by decide +kernel) ?_ | refine xD true false rfl rfl mixed (by decide +kernel) ?_ | refine xD true true rfl rfl mixed (by decide +kernel) ?_ | refine xB ?_ | (refine xN ?_; try show PW _ _ _ _ _ _) | (refine xE ?_; try show PW _ _ _ _ _ _) | (refine xT ?_; try show PW _ _ _ _ _ _) | refine xt rfl ?_ | refine xf rfl ?_))
    refine ⟨i + 1, hlt, by omega, SlotsOk.le ⟨.inl rfl, .inl rfl, .inl rfl, .inl (congrArg (fun x => PV.g (.int .i64 x)) (wrap64 (by omega))), trivial⟩, HLe.refl _⟩
  · (repeat (first | (refine qA ?_; try show PW _ _ _ _ _ _) | (refine qB ?_; try show PW _ _ _ _ _ _) | refine rO tabOk 300 rfl rfl ?_ | refine rO tabOk 6 rfl rfl ?_ | refine rO tabOk 1 rfl rfl ?_ | refine rD tabOk 300 rfl rfl ?_ | refine rD tabOk 6 rfl rfl ?_ | refine rD tabOk 1 rfl rfl ?_ | ((first | apply oR rfl rfl | (apply dR rfl rfl; focus (first | (apply cF rfl; intro _) | (apply cP rfl; intro _) | (apply cL rfl; intro _)))); focus (first | exact cI rfl (IK rfl) (IK rfl) rfl | exact mF rfl | exact bS rfl (EL rfl) (SZ rfl) (AG rfl) (ZR rfl) rfl rfl rfl rfl rfl rfl rfl | exact nC rfl rfl)) | refine xS ?_ | refine xR ?_ | refine xD false false rfl rfl mixed (by decide +kernel) ?_ | refine xD false true rfl rfl mixed (by decide +kernel) ?_ | refine xD true false rfl rfl mixed (by decide +kernel) ?_ | refine xD true true rfl rfl mixed (by decide +kernel) ?_ | refine xB ?_ | (refine xN ?_; try show PW _ _ _ _ _ _) | (refine xE ?_; try show PW _ _ _ _ _ _) | (refine xT ?_; try show PW _ _ _ _ _ _) | refine xt rfl ?_ | refine xf rfl ?_))
    (first | refine Ret_int (vC vT vN) rfl ?_ | refine Ret_bool (vC vT vN) rfl ?_ | refine Ret_g (vC vT vN) rfl ?_ | refine Ret_int (vC (vA (AG rfl) (SZ rfl) rfl rfl (lB rfl)) vN) rfl ?_ | refine Ret_bool (vC (vA (AG rfl) (SZ rfl) rfl rfl (lB rfl)) vN) rfl ?_ | refine Ret_g (vC (vA (AG rfl) (SZ rfl) rfl rfl (lB rfl)) vN) rfl ?_)
    rfl

set_option maxRecDepth 100000 in
set_option maxHeartbeats 4000000 in
theorem same_pc : ∀ (m : Nat) (t : Tr), SizeOf.sizeOf t ≤ m → t.ok → PC Try.prog 13 [.g t.g, .g t.g] ⟨[], [], []⟩ (.g (.bool true)) ⟨[], [], []⟩
  | 0, t, hm, _ => by cases t; simp at hm
  | m + 1, .mk tag tn text kids, hm, hk => by
    simp only [Tr.ok, maxLen] at hk
    refine PC_of_PW Try.func13 rfl rfl (rs := _) rfl (Nat.le_of_ble_eq_true (by kernel_rfl)) ?_
    (repeat (first | (refine qA ?_; try show PW _ _ _ _ _ _) | (refine qB ?_; try show PW _ _ _ _ _ _) | refine rO tabOk 300 rfl rfl ?_ | refine rO tabOk 6 rfl rfl ?_ | refine rO tabOk 1 rfl rfl ?_ | refine rD tabOk 300 rfl rfl ?_ | refine rD tabOk 6 rfl rfl ?_ | refine rD tabOk 1 rfl rfl ?_ | ((first | apply oR rfl rfl | (apply dR rfl rfl; focus (first | (apply cF rfl; intro _) | (apply cP rfl; intro _) | (apply cL rfl; intro _)))); focus (first | exact cI rfl (IK rfl) (IK rfl) rfl | exact mF rfl | exact bS rfl (EL rfl) (SZ rfl) (AG rfl) (ZR rfl) rfl rfl rfl rfl rfl rfl rfl | exact nC rfl rfl)) | refine xS ?_ | refine xR ?_ | refine xD false false rfl rfl mixed (by decide +kernel) ?_ | refine xD false true rfl rfl mixed (by decide +kernel) ?_ | refine xD true false rfl rfl mixed (by decide +kernel) ?_ | refine xD true true rfl rfl mixed (by decide +kernel) ?_ | refine xB ?_ | (refine xN ?_; try show PW _ _ _ _ _ _) | (refine xE ?_; try show PW _ _ _ _ _ _) | (refine xT ?_; try show PW _ _ _ _ _ _) | refine xt rfl ?_ | refine xf rfl ?_))
    (first | refine POps_split rfl rfl (fun h => ?_) (fun h => ?_) | refine POpsD_split rfl rfl (fun h => ?_) (fun h => ?_) | refine PW_cond rfl (fun h => ?_) (fun h => ?_))
    · simp at h
    (repeat (first | (refine qA ?_; try show PW _ _ _ _ _ _) | (refine qB ?_; try show PW _ _ _ _ _ _) | refine rO tabOk 300 rfl rfl ?_ | refine rO tabOk 6 rfl rfl ?_ | refine rO tabOk 1 rfl rfl ?_ | refine rD tabOk 300 rfl rfl ?_ | refine rD tabOk 6 rfl rfl ?_ | refine rD tabOk 1 rfl rfl ?_ | ((first | apply oR rfl rfl | (apply dR rfl rfl; focus (first | (apply cF rfl; intro _) | (apply cP rfl; intro _) | (apply cL rfl; intro _)))); focus (first | exact cI rfl (IK rfl) (IK rfl) rfl | exact mF rfl | exact bS rfl (EL rfl) (SZ rfl) (AG rfl) (ZR rfl) rfl rfl rfl rfl rfl rfl rfl | exact nC rfl rfl)) | refine xS ?_ | refine xR ?_ | refine xD false false rfl rfl mixed (by decide +kernel) ?_ | refine xD false true rfl rfl mixed (by decide +kernel) ?_ | refine xD true false rfl rfl mixed (by decide +kernel) ?_ | refine xD true true rfl rfl mixed (by decide +kernel) ?_ | refine xB ?_ | (refine xN ?_; try show PW _ _ _ _ _ _) | (refine xE ?_; try show PW _ _ _ _ _ _) | (refine xT ?_; try show PW _ _ _ _ _ _) | refine xt rfl ?_ | refine xf rfl ?_))
    (first | refine POps_split rfl rfl (fun h => ?_) (fun h => ?_) | refine POpsD_split rfl rfl (fun h => ?_) (fun h => ?_) | refine PW_cond rfl (fun h => ?_) (fun h => ?_))
    · simp at h
    (repeat (first | (refine qA ?_; try show PW _ _ _ _ _ _) | (refine qB ?_; try show PW _ _ _ _ _ _) | refine rO tabOk 300 rfl rfl ?_ | refine rO tabOk 6 rfl rfl ?_ | refine rO tabOk 1 rfl rfl ?_ | refine rD tabOk 300 rfl rfl ?_ | refine rD tabOk 6 rfl rfl ?_ | refine rD tabOk 1 rfl rfl ?_ | ((first | apply oR rfl rfl | (apply dR rfl rfl; focus (first | (apply cF rfl; intro _) | (apply cP rfl; intro _) | (apply cL rfl; intro _)))); focus (first | exact cI rfl (IK rfl) (IK rfl) rfl | exact mF rfl | exact bS rfl (EL rfl) (SZ rfl) (AG rfl) (ZR rfl) rfl rfl rfl rfl rfl rfl rfl | exact nC rfl rfl)) | refine xS ?_ | refine xR ?_ | refine xD false false rfl rfl mixed (by decide +kernel) ?_ | refine xD false true rfl rfl mixed (by decide +kernel) ?_ | refine xD true false rfl rfl mixed (by decide +kernel) ?_ | refine xD true true rfl rfl mixed (by decide +kernel) ?_ | refine xB ?_ | (refine xN ?_; try show PW _ _ _ _ _ _) | (refine xE ?_; try show PW _ _ _ _ _ _) | (refine xT ?_; try show PW _ _ _ _ _ _) | refine xt rfl ?_ | refine xf rfl ?_))
    (first | refine POps_split rfl rfl (fun h => ?_) (fun h => ?_) | refine POpsD_split rfl rfl (fun h => ?_) (fun h => ?_) | refine PW_cond rfl (fun h => ?_) (fun h => ?_))
    · simp at h
    (repeat (first | (refine qA ?_; try show PW _ _ _ _ _ _) | (refine qB ?_; try show PW _ _ _ _ _ _) | refine rO tabOk 300 rfl rfl ?_ | refine rO tabOk 6 rfl rfl ?_ | refine rO tabOk 1 rfl rfl ?_ | refine rD tabOk 300 rfl rfl ?_ | refine rD tabOk 6 rfl rfl ?_ | refine rD tabOk 1 rfl rfl ?_ | ((first | apply oR rfl rfl | (apply dR rfl rfl; focus (first | (apply cF rfl; intro _) | (apply cP rfl; intro _) | (apply cL rfl; intro _)))); focus (first | exact cI rfl (IK rfl) (IK rfl) rfl | exact mF rfl | exact bS rfl (EL rfl) (SZ rfl) (AG rfl) (ZR rfl) rfl rfl rfl rfl rfl rfl rfl | exact nC rfl rfl)) | refine xS ?_ | refine xR ?_ | refine xD false false rfl rfl mixed (by decide +kernel) ?_ | refine xD false true rfl rfl mixed (by decide +kernel) ?_ | refine xD true false rfl rfl mixed (by decide +kernel) ?_ | refine xD true true rfl rfl mixed (by decide +kernel) ?_ | refine xB ?_ | (refine xN ?_; try show PW _ _ _ _ _ _) | (refine xE ?_; try show PW _ _ _ _ _ _) | (refine xT ?_; try show PW _ _ _ _ _ _) | refine xt rfl ?_ | refine xf rfl ?_))
    (first | refine POps_split rfl rfl (fun h => ?_) (fun h => ?_) | refine POpsD_split rfl rfl (fun h => ?_) (fun h => ?_) | refine PW_cond rfl (fun h => ?_) (fun h => ?_))
    · simp at h
    (repeat (first | (refine qA ?_; try show PW _ _ _ _ _ _) | (refine qB ?_; try show PW _ _ _ _ _ _) | refine rO tabOk 300 rfl rfl ?_ | refine rO tabOk 6 rfl rfl ?_ | refine rO tabOk 1 rfl rfl ?_ | refine rD tabOk 300 rfl rfl ?_ | refine rD tabOk 6 rfl rfl ?_ | refine rD tabOk 1 rfl rfl ?_ | ((first | apply oR rfl rfl | (apply dR rfl rfl; focus (first | (apply cF rfl; intro _) | (apply cP rfl; intro _) | (apply cL rfl; intro _)))); focus (first | exact cI rfl (IK rfl) (IK rfl) rfl | exact mF rfl | exact bS rfl (EL rfl) (SZ rfl) (AG rfl) (ZR rfl) rfl rfl rfl rfl rfl rfl rfl | exact nC rfl rfl)) | refine xS ?_ | refine xR ?_ | refine xD false false rfl rfl mixed (by decide +kernel) ?_ | refine xD false true rfl rfl mixed (by decide +kernel) ?_ | refine xD true false rfl rfl mixed (by decide +kernel) ?_ | refine xD true true rfl rfl mixed (by decide +kernel) ?_ | refine xB ?_ | (refine xN ?_; try show PW _ _ _ _ _ _) | (refine xE ?_; try show PW _ _ _ _ _ _) | (refine xT ?_; try show PW _ _ _ _ _ _) | refine xt rfl ?_ | refine xf rfl ?_))
    refine PW_loop (S := Nat) (fun i => slots [(2, .ptr 0 0), (3, .ptr 1 0), (36, .g (.int .i64 kids.length)), (37, .g (.int .i64 i))])
      (fun _ => ⟨[[.g (.int .i64 tag), .g (.int .i64 tn), .g (.str text), .g (.sl (Tr.gs kids))], [.g (.int .i64 tag), .g (.int .i64 tn), .g (.str text), .g (.sl (Tr.gs kids))]], [], []⟩) (fun i => i ≤ kids.length) (fun i => kids.length - i) 0 (Nat.zero_le _)
      (SlotsOk.le ⟨.inl rfl, .inl rfl, .inl (congrArg (fun k : Nat => PV.g (.int .i64 k)) (gs_len kids)), .inl rfl, trivial⟩) (HLe.refl _) (fun i hi => ?_)
    (repeat (first | (refine qA ?_; try show PW _ _ _ _ _ _) | (refine qB ?_; try show PW _ _ _ _ _ _) | refine rO tabOk 300 rfl rfl ?_ | refine rO tabOk 6 rfl rfl ?_ | refine rO tabOk 1 rfl rfl ?_ | refine rD tabOk 300 rfl rfl ?_ | refine rD tabOk 6 rfl rfl ?_ | refine rD tabOk 1 rfl rfl ?_ | ((first | apply oR rfl rfl | (apply dR rfl rfl; focus (first | (apply cF rfl; intro _) | (apply cP rfl; intro _) | (apply cL rfl; intro _)))); focus (first | exact cI rfl (IK rfl) (IK rfl) rfl | exact mF rfl | exact bS rfl (EL rfl) (SZ rfl) (AG rfl) (ZR rfl) rfl rfl rfl rfl rfl rfl rfl | exact nC rfl rfl)) | refine xS ?_ | refine xR ?_ | refine xD false false rfl rfl mixed (by decide +kernel) ?_ | refine xD false true rfl rfl mixed (by decide +kernel) ?_ | refine xD true false rfl rfl mixed (by decide +kernel) ?_ | refine xD true true rfl rfl mixed (by decide +kernel) ?_ | refine xB ?_ | (refine xN ?_; try show PW _ _ _ _ _ _) | (refine xE ?_; try show PW _ _ _ _ _ _) | (refine xT ?_; try show PW _ _ _ _ _ _) | refine xt rfl ?_ | refine xf rfl ?_))
    (first | refine POps_split rfl rfl (fun h => ?_) (fun h => ?_) | refine POpsD_split rfl rfl (fun h => ?_) (fun h => ?_) | refine PW_cond rfl (fun h => ?_) (fun h => ?_))
    · have hlt : i < kids.length := by have := of_decide_eq_true h; omega
      have hg := gs_get hlt
      have hsz := kid_size hlt tag tn text
      have hI := same_pc m kids[i] (by omega) (oks_get hlt hk.2)
      generalize kids[i] = kid at hg hI
      obtain ⟨ta, tb, tc, td⟩ := kid
      (repeat (first | (refine qA ?_; try show PW _ _ _ _ _ _) | (refine qB ?_; try show PW _ _ _ _ _ _) | refine rO tabOk 300 rfl rfl ?_ | refine rO tabOk 6 rfl rfl ?_ | refine rO tabOk 1 rfl rfl ?_ | refine rD tabOk 300 rfl rfl ?_ | refine rD tabOk 6 rfl rfl ?_ | refine rD tabOk 1 rfl rfl ?_ | ((first | apply oR rfl rfl | (apply dR rfl rfl; focus (first | (apply cF rfl; intro _) | (apply cP rfl; intro _) | (apply cL rfl; intro _)))); focus (first | exact cl rfl rfl (EN rfl) (hI) rfl rfl rfl | exact iA rfl (EL rfl) (SZ rfl) rfl rfl (Int.natCast_nonneg _) hg rfl | exact cI rfl (IK rfl) (IK rfl) rfl | exact mF rfl | exact bS rfl (EL rfl) (SZ rfl) (AG rfl) (ZR rfl) rfl rfl rfl rfl rfl rfl rfl | exact nC rfl rfl)) | (apply dR rfl rfl; focus (first | exact Cond_c (cl rfl rfl (EN rfl) (hI) rfl rfl rfl))) | refine xS ?_ | refine xR ?_ | refine xK false false [0, 1] rfl mixed (by decide +kernel) ?_ | refine xK false true [0, 1] rfl mixed (by decide +kernel) ?_ | refine xK true false [0, 1] rfl mixed (by decide +kernel) ?_ | refine xK true true [0, 1] rfl mixed (by decide +kernel) ?_ | refine xB ?_ | (refine xN ?_; try show PW _ _ _ _ _ _) | (refine xE ?_; try show PW _ _ _ _ _ _) | (refine xT ?_; try show PW _ _ _ _ _ _) | refine xt rfl ?_ | refine xf rfl ?_))
      refine ⟨i + 1, hlt, by omega, SlotsOk.le ⟨.inl rfl, .inl rfl, .inl rfl, .inl (congrArg (fun x => PV.g (.int .i64 x)) (wrap64 (by omega))), trivial⟩, HLe.refl _⟩
    · (repeat (first | (refine qA ?_; try show PW _ _ _ _ _ _) | (refine qB ?_; try show PW _ _ _ _ _ _) | refine rO tabOk 300 rfl rfl ?_ | refine rO tabOk 6 rfl rfl ?_ | refine rO tabOk 1 rfl rfl ?_ | refine rD tabOk 300 rfl rfl ?_ | refine rD tabOk 6 rfl rfl ?_ | refine rD tabOk 1 rfl rfl ?_ | ((first | apply oR rfl rfl | (apply dR rfl rfl; focus (first | (apply cF rfl; intro _) | (apply cP rfl; intro _) | (apply cL rfl; intro _)))); focus (first | exact cI rfl (IK rfl) (IK rfl) rfl | exact mF rfl | exact bS rfl (EL rfl) (SZ rfl) (AG rfl) (ZR rfl) rfl rfl rfl rfl rfl rfl rfl | exact nC rfl rfl)) | refine xS ?_ | refine xR ?_ | refine xD false false rfl rfl mixed (by decide +kernel) ?_ | refine xD false true rfl rfl mixed (by decide +kernel) ?_ | refine xD true false rfl rfl mixed (by decide +kernel) ?_ | refine xD true true rfl rfl mixed (by decide +kernel) ?_ | refine xB ?_ | (refine xN ?_; try show PW _ _ _ _ _ _) | (refine xE ?_; try show PW _ _ _ _ _ _) | (refine xT ?_; try show PW _ _ _ _ _ _) | refine xt rfl ?_ | refine xf rfl ?_))
      (first | refine Ret_int (vC vT vN) rfl ?_ | refine Ret_bool (vC vT vN) rfl ?_ | refine Ret_g (vC vT vN) rfl ?_ | refine Ret_int (vC (vA (AG rfl) (SZ rfl) rfl rfl (lB rfl)) vN) rfl ?_ | refine Ret_bool (vC (vA (AG rfl) (SZ rfl) rfl rfl (lB rfl)) vN) rfl ?_ | refine Ret_g (vC (vA (AG rfl) (SZ rfl) rfl rfl (lB rfl)) vN) rfl ?_)
      rfl

theorem alive_fact : sumB [49, 50, 51, 52, 53, 54, 55, 56, 57] = 3421780262#32 := by decide +kernel
set_option maxRecDepth 10000 in
theorem alive_bytes : bytesT (.mk 1 (-1) ⟨#[97]⟩ []) = ([1, 1, 1, 97, 0] ++ four (sumB [1, 1, 1, 97, 0]), 0) := by
  have h : enc (.mk 1 (-1) ⟨#[97]⟩ []) = [1, 1, 1, 97, 0] := by
    simp only [enc, encs]
    rw [varint_small (by decide), varint_small (by decide), varint_small (by decide)]
    decide
  have hw : wrongT (.mk 1 (-1) ⟨#[97]⟩ []) = 0 := by simp [wrongT, look, looks]
  unfold bytesT
  rw [h, hw, if_pos rfl, if_neg (by decide)]
set_option maxRecDepth 100000 in
set_option maxHeartbeats 4000000 in
theorem alive_pc : PC Try.prog 26 [] ⟨[], [], []⟩ (.g (.bool true)) ⟨[], [], []⟩ := by
  have hb := bytes_pc 1 (-1) ⟨#[97]⟩ [] (by simp [Tr.ok, Tr.oks]) (by
    have h : enc (.mk 1 (-1) ⟨#[97]⟩ []) = [1, 1, 1, 97, 0] := by
      simp only [enc, encs]
      rw [varint_small (by decide), varint_small (by decide), varint_small (by decide)]
      decide
    rw [h]; decide)
  rw [alive_bytes] at hb
  have hs := sum_pc [49, 50, 51, 52, 53, 54, 55, 56, 57] (by decide)
  have e : ~~~ (crc 0xffffffff#32 [49, 50, 51, 52, 53, 54, 55, 56, 57]) = 3421780262#32 := alive_fact
  rw [e] at hs
  refine PC_of_PW Try.func26 rfl rfl (rs := _) rfl (Nat.le_of_ble_eq_true (by kernel_rfl)) ?_
  (repeat (first | (refine qA ?_; try show PW _ _ _ _ _ _) | (refine qB ?_; try show PW _ _ _ _ _ _) | refine rO tabOk 300 rfl rfl ?_ | refine rO tabOk 6 rfl rfl ?_ | refine rO tabOk 1 rfl rfl ?_ | refine rD tabOk 300 rfl rfl ?_ | refine rD tabOk 6 rfl rfl ?_ | refine rD tabOk 1 rfl rfl ?_ | ((first | apply oR rfl rfl | (apply dR rfl rfl; focus (first | (apply cF rfl; intro _) | (apply cP rfl; intro _) | (apply cL rfl; intro _)))); focus (first | exact cl rfl rfl (EN rfl) (hb) rfl rfl rfl | exact cl rfl rfl (EN rfl) (hs) rfl rfl rfl | exact iA (g := byteG 1) rfl (EL rfl) (SZ rfl) rfl rfl (by decide) rfl rfl | exact PO_buildSlice_mar rfl (EL rfl) (SZ rfl) (AG rfl) (ZR rfl) rfl rfl rfl rfl rfl rfl rfl | exact PO_conv_mark rfl (EL rfl) (IK rfl) rfl rfl rfl | exact cI rfl (IK rfl) (IK rfl) rfl | exact mF rfl | exact bS rfl (EL rfl) (SZ rfl) (AG rfl) (ZR rfl) rfl rfl rfl rfl rfl rfl rfl | exact nC rfl rfl)) | (apply dR rfl rfl; focus (first | exact Cond_c (cl rfl rfl (EN rfl) (hb) rfl rfl rfl) | exact Cond_c (cl rfl rfl (EN rfl) (hs) rfl rfl rfl) | exact Cond_c (PO_buildSlice_mar rfl (EL rfl) (SZ rfl) (AG rfl) (ZR rfl) rfl rfl rfl rfl rfl rfl rfl) | exact Cond_c (PO_conv_mark rfl (EL rfl) (IK rfl) rfl rfl rfl))) | refine xS ?_ | refine xR ?_ | refine xD false false rfl rfl mixed (by decide +kernel) ?_ | refine xD false true rfl rfl mixed (by decide +kernel) ?_ | refine xD true false rfl rfl mixed (by decide +kernel) ?_ | refine xD true true rfl rfl mixed (by decide +kernel) ?_ | refine xB ?_ | (refine xN ?_; try show PW _ _ _ _ _ _) | (refine xE ?_; try show PW _ _ _ _ _ _) | (refine xT ?_; try show PW _ _ _ _ _ _) | refine xt rfl ?_ | refine xf rfl ?_))
  (first | refine Ret_int (vC vT vN) rfl ?_ | refine Ret_bool (vC vT vN) rfl ?_ | refine Ret_g (vC vT vN) rfl ?_ | refine Ret_int (vC (vA (AG rfl) (SZ rfl) rfl rfl (lB rfl)) vN) rfl ?_ | refine Ret_bool (vC (vA (AG rfl) (SZ rfl) rfl rfl (lB rfl)) vN) rfl ?_ | refine Ret_g (vC (vA (AG rfl) (SZ rfl) rfl rfl (lB rfl)) vN) rfl ?_)
  rfl
end Go.Proofs.Ytffpepmfdjjjaaa

namespace Go.Proofs.Ytffpepmfdjjjaaa
open Go.Pure
attribute [local irreducible] PW POps POpsD PO PC Cond

theorem parse_ok (l : List UInt8) : (parseT l).1.ok := by
  have hn : noTree.ok := by simp [noTree, Tr.ok, Tr.oks]
  unfold parseT
  split
  · exact hn
  · split
    · unfold parseB
      split
      · exact hn
      · split
        · exact hn
        · exact tree_ok 40 _ _ (by simp; omega)
    · exact hn
theorem bytes_enc {u : Tr} {l : List UInt8} (h : bytesT u = (l, 0)) : (enc u).length + 4 ≤ 100000 ∧ l.length ≤ 100000 := by
  unfold bytesT at h
  split at h
  · split at h
    · simp at h
    · cases h
      refine ⟨by omega, ?_⟩
      simp [four]
      omega
  · rename_i h0
    exact absurd (congrArg (fun x => x.2) h) h0

set_option maxRecDepth 100000 in
set_option maxHeartbeats 8000000 in
theorem turns_pc (tag tn : Int) (text : ByteArray) (kids : List Tr) (b : List UInt8) (hk : (Tr.mk tag tn text kids).ok) (hw : (Tr.mk tag tn text kids).wf) (hb : (enc (.mk tag tn text kids)).length ≤ 900000000) (hbl : b.length ≤ 900000000) :
    PC Try.prog 5 [.g (Tr.mk tag tn text kids).g, .g (.sl (bys b))] ⟨[], [], []⟩ (.g (.bool true)) ⟨[], [], []⟩ := by
  have h1 := bytes_pc tag tn text kids hk hb
  have h2 := parse_all b (by omega)
  have huok := parse_ok b
  obtain ⟨ua, ub, uc, ud, hu⟩ : ∃ a b' c d, (parseT b).1 = Tr.mk a b' c d := by cases (parseT b).1; exact ⟨_, _, _, _, rfl⟩
  rw [hu] at h2 huok
  have h3 : (parseT b).2 = 0 → PC Try.prog 21 [.g (Tr.mk ua ub uc ud).g] ⟨[], [], []⟩ (.tuple [.g (.sl (bys b)), .g (.int .i64 0)]) ⟨[], [], []⟩ := by
    intro h0
    obtain ⟨e1, e2, e3⟩ := parse_bytes (u := Tr.mk ua ub uc ud) (l := b) (Prod.ext hu h0)
    have := bytes_pc ua ub uc ud huok (by have := (bytes_enc e1).1; omega)
    rw [e1] at this
    exact this
  have h4 := samebytes_pc b (by omega)
  cases hx : bytesT (.mk tag tn text kids) with
  | mk x e =>
  rw [hx] at h1
  dsimp only at h1
  by_cases he : e = 0
  · subst he
    have h5 := parse_all x (by have := (bytes_enc hx).2; omega)
    rw [bytes_parse hw hx] at h5
    have h6 := same_pc _ _ (Nat.le_refl _) hk
    refine PC_of_PW Try.func5 rfl rfl (rs := _) rfl (Nat.le_of_ble_eq_true (by kernel_rfl)) ?_
    (repeat (first | (refine qA ?_; try show PW _ _ _ _ _ _) | (refine qB ?_; try show PW _ _ _ _ _ _) | refine rO tabOk 300 rfl rfl ?_ | refine rO tabOk 6 rfl rfl ?_ | refine rO tabOk 1 rfl rfl ?_ | refine rD tabOk 300 rfl rfl ?_ | refine rD tabOk 6 rfl rfl ?_ | refine rD tabOk 1 rfl rfl ?_ | ((first | apply oR rfl rfl | (apply dR rfl rfl; focus (first | (apply cF rfl; intro _) | (apply cP rfl; intro _) | (apply cL rfl; intro _)))); focus (first | exact cl rfl rfl (EN rfl) (alive_pc) rfl rfl rfl | exact cl rfl rfl (EN rfl) (h1) rfl rfl rfl | exact cl rfl rfl (EN rfl) (h5) rfl rfl rfl | exact cl rfl rfl (EN rfl) (h6) rfl rfl rfl | exact cl rfl rfl (EN rfl) (h2) rfl rfl rfl | exact cI rfl (IK rfl) (IK rfl) rfl | exact mF rfl | exact bS rfl (EL rfl) (SZ rfl) (AG rfl) (ZR rfl) rfl rfl rfl rfl rfl rfl rfl | exact nC rfl rfl)) | (apply dR rfl rfl; focus (first | exact Cond_c (cl rfl rfl (EN rfl) (alive_pc) rfl rfl rfl) | exact Cond_c (cl rfl rfl (EN rfl) (h1) rfl rfl rfl) | exact Cond_c (cl rfl rfl (EN rfl) (h5) rfl rfl rfl) | exact Cond_c (cl rfl rfl (EN rfl) (h6) rfl rfl rfl) | exact Cond_c (cl rfl rfl (EN rfl) (h2) rfl rfl rfl))) | refine xS ?_ | refine xR ?_ | refine xD false false rfl rfl mixed (by decide +kernel) ?_ | refine xD false true rfl rfl mixed (by decide +kernel) ?_ | refine xD true false rfl rfl mixed (by decide +kernel) ?_ | refine xD true true rfl rfl mixed (by decide +kernel) ?_ | refine xB ?_ | (refine xN ?_; try show PW _ _ _ _ _ _) | (refine xE ?_; try show PW _ _ _ _ _ _) | (refine xT ?_; try show PW _ _ _ _ _ _) | refine xt rfl ?_ | refine xf rfl ?_))
    (first | refine POps_split rfl rfl (fun h => ?_) (fun h => ?_) | refine POpsD_split rfl rfl (fun h => ?_) (fun h => ?_) | refine PW_cond rfl (fun h => ?_) (fun h => ?_))
    · (repeat (first | (refine qA ?_; try show PW _ _ _ _ _ _) | (refine qB ?_; try show PW _ _ _ _ _ _) | refine rO tabOk 300 rfl rfl ?_ | refine rO tabOk 6 rfl rfl ?_ | refine rO tabOk 1 rfl rfl ?_ | refine rD tabOk 300 rfl rfl ?_ | refine rD tabOk 6 rfl rfl ?_ | refine rD tabOk 1 rfl rfl ?_ | ((first | apply oR rfl rfl | (apply dR rfl rfl; focus (first | (apply cF rfl; intro _) | (apply cP rfl; intro _) | (apply cL rfl; intro _)))); focus (first | exact cI rfl (IK rfl) (IK rfl) rfl | exact mF rfl | exact bS rfl (EL rfl) (SZ rfl) (AG rfl) (ZR rfl) rfl rfl rfl rfl rfl rfl rfl | exact nC rfl rfl)) | refine xS ?_ | refine xR ?_ | refine xD false false rfl rfl mixed (by decide +kernel) ?_ | refine xD false true rfl rfl mixed (by decide +kernel) ?_ | refine xD true false rfl rfl mixed (by decide +kernel) ?_ | refine xD true true rfl rfl mixed (by decide +kernel) ?_ | refine xB ?_ | (refine xN ?_; try show PW _ _ _ _ _ _) | (refine xE ?_; try show PW _ _ _ _ _ _) | (refine xT ?_; try show PW _ _ _ _ _ _) | refine xt rfl ?_ | refine xf rfl ?_))
      (first | refine Ret_int (vC vT vN) rfl ?_ | refine Ret_bool (vC vT vN) rfl ?_ | refine Ret_g (vC vT vN) rfl ?_ | refine Ret_int (vC (vA (AG rfl) (SZ rfl) rfl rfl (lB rfl)) vN) rfl ?_ | refine Ret_bool (vC (vA (AG rfl) (SZ rfl) rfl rfl (lB rfl)) vN) rfl ?_ | refine Ret_g (vC (vA (AG rfl) (SZ rfl) rfl rfl (lB rfl)) vN) rfl ?_)
      rfl
    · have h0 : (parseT b).2 = 0 := by simpa [bne] using h
      have h3 := h3 h0
      (repeat (first | (refine qA ?_; try show PW _ _ _ _ _ _) | (refine qB ?_; try show PW _ _ _ _ _ _) | refine rO tabOk 300 rfl rfl ?_ | refine rO tabOk 6 rfl rfl ?_ | refine rO tabOk 1 rfl rfl ?_ | refine rD tabOk 300 rfl rfl ?_ | refine rD tabOk 6 rfl rfl ?_ | refine rD tabOk 1 rfl rfl ?_ | ((first | apply oR rfl rfl | (apply dR rfl rfl; focus (first | (apply cF rfl; intro _) | (apply cP rfl; intro _) | (apply cL rfl; intro _)))); focus (first | exact cl rfl rfl (EN rfl) (h3) rfl rfl rfl | exact cl rfl rfl (EN rfl) (h4) rfl rfl rfl | exact cI rfl (IK rfl) (IK rfl) rfl | exact mF rfl | exact bS rfl (EL rfl) (SZ rfl) (AG rfl) (ZR rfl) rfl rfl rfl rfl rfl rfl rfl | exact nC rfl rfl)) | (apply dR rfl rfl; focus (first | exact Cond_c (cl rfl rfl (EN rfl) (h3) rfl rfl rfl) | exact Cond_c (cl rfl rfl (EN rfl) (h4) rfl rfl rfl))) | refine xS ?_ | refine xR ?_ | refine xD false false rfl rfl mixed (by decide +kernel) ?_ | refine xD false true rfl rfl mixed (by decide +kernel) ?_ | refine xD true false rfl rfl mixed (by decide +kernel) ?_ | refine xD true true rfl rfl mixed (by decide +kernel) ?_ | refine xB ?_ | (refine xN ?_; try show PW _ _ _ _ _ _) | (refine xE ?_; try show PW _ _ _ _ _ _) | (refine xT ?_; try show PW _ _ _ _ _ _) | refine xt rfl ?_ | refine xf rfl ?_))
      (first | refine Ret_int (vC vT vN) rfl ?_ | refine Ret_bool (vC vT vN) rfl ?_ | refine Ret_g (vC vT vN) rfl ?_ | refine Ret_int (vC (vA (AG rfl) (SZ rfl) rfl rfl (lB rfl)) vN) rfl ?_ | refine Ret_bool (vC (vA (AG rfl) (SZ rfl) rfl rfl (lB rfl)) vN) rfl ?_ | refine Ret_g (vC (vA (AG rfl) (SZ rfl) rfl rfl (lB rfl)) vN) rfl ?_)
      rfl
  · refine PC_of_PW Try.func5 rfl rfl (rs := _) rfl (Nat.le_of_ble_eq_true (by kernel_rfl)) ?_
    (repeat (first | (refine qA ?_; try show PW _ _ _ _ _ _) | (refine qB ?_; try show PW _ _ _ _ _ _) | refine rO tabOk 300 rfl rfl ?_ | refine rO tabOk 6 rfl rfl ?_ | refine rO tabOk 1 rfl rfl ?_ | refine rD tabOk 300 rfl rfl ?_ | refine rD tabOk 6 rfl rfl ?_ | refine rD tabOk 1 rfl rfl ?_ | ((first | apply oR rfl rfl | (apply dR rfl rfl; focus (first | (apply cF rfl; intro _) | (apply cP rfl; intro _) | (apply cL rfl; intro _)))); focus (first | exact cl rfl rfl (EN rfl) (alive_pc) rfl rfl rfl | exact cl rfl rfl (EN rfl) (h1) rfl rfl rfl | exact cI rfl (IK rfl) (IK rfl) rfl | exact mF rfl | exact bS rfl (EL rfl) (SZ rfl) (AG rfl) (ZR rfl) rfl rfl rfl rfl rfl rfl rfl | exact nC rfl rfl)) | (apply dR rfl rfl; focus (first | exact Cond_c (cl rfl rfl (EN rfl) (alive_pc) rfl rfl rfl) | exact Cond_c (cl rfl rfl (EN rfl) (h1) rfl rfl rfl))) | refine xS ?_ | refine xR ?_ | refine xD false false rfl rfl mixed (by decide +kernel) ?_ | refine xD false true rfl rfl mixed (by decide +kernel) ?_ | refine xD true false rfl rfl mixed (by decide +kernel) ?_ | refine xD true true rfl rfl mixed (by decide +kernel) ?_ | refine xB ?_ | (refine xN ?_; try show PW _ _ _ _ _ _) | (refine xE ?_; try show PW _ _ _ _ _ _) | (refine xT ?_; try show PW _ _ _ _ _ _) | refine xt rfl ?_ | refine xf rfl ?_))
    (first | refine POps_split rfl rfl (fun h => ?_) (fun h => ?_) | refine POpsD_split rfl rfl (fun h => ?_) (fun h => ?_) | refine PW_cond rfl (fun h => ?_) (fun h => ?_))
    · simp at h
      exact absurd h he
    · (repeat (first | (refine qA ?_; try show PW _ _ _ _ _ _) | (refine qB ?_; try show PW _ _ _ _ _ _) | refine rO tabOk 300 rfl rfl ?_ | refine rO tabOk 6 rfl rfl ?_ | refine rO tabOk 1 rfl rfl ?_ | refine rD tabOk 300 rfl rfl ?_ | refine rD tabOk 6 rfl rfl ?_ | refine rD tabOk 1 rfl rfl ?_ | ((first | apply oR rfl rfl | (apply dR rfl rfl; focus (first | (apply cF rfl; intro _) | (apply cP rfl; intro _) | (apply cL rfl; intro _)))); focus (first | exact cl rfl rfl (EN rfl) (h2) rfl rfl rfl | exact cI rfl (IK rfl) (IK rfl) rfl | exact mF rfl | exact bS rfl (EL rfl) (SZ rfl) (AG rfl) (ZR rfl) rfl rfl rfl rfl rfl rfl rfl | exact nC rfl rfl)) | (apply dR rfl rfl; focus (first | exact Cond_c (cl rfl rfl (EN rfl) (h2) rfl rfl rfl))) | refine xS ?_ | refine xR ?_ | refine xD false false rfl rfl mixed (by decide +kernel) ?_ | refine xD false true rfl rfl mixed (by decide +kernel) ?_ | refine xD true false rfl rfl mixed (by decide +kernel) ?_ | refine xD true true rfl rfl mixed (by decide +kernel) ?_ | refine xB ?_ | (refine xN ?_; try show PW _ _ _ _ _ _) | (refine xE ?_; try show PW _ _ _ _ _ _) | (refine xT ?_; try show PW _ _ _ _ _ _) | refine xt rfl ?_ | refine xf rfl ?_))
      (first | refine POps_split rfl rfl (fun h => ?_) (fun h => ?_) | refine POpsD_split rfl rfl (fun h => ?_) (fun h => ?_) | refine PW_cond rfl (fun h => ?_) (fun h => ?_))
      · (repeat (first | (refine qA ?_; try show PW _ _ _ _ _ _) | (refine qB ?_; try show PW _ _ _ _ _ _) | refine rO tabOk 300 rfl rfl ?_ | refine rO tabOk 6 rfl rfl ?_ | refine rO tabOk 1 rfl rfl ?_ | refine rD tabOk 300 rfl rfl ?_ | refine rD tabOk 6 rfl rfl ?_ | refine rD tabOk 1 rfl rfl ?_ | ((first | apply oR rfl rfl | (apply dR rfl rfl; focus (first | (apply cF rfl; intro _) | (apply cP rfl; intro _) | (apply cL rfl; intro _)))); focus (first | exact cI rfl (IK rfl) (IK rfl) rfl | exact mF rfl | exact bS rfl (EL rfl) (SZ rfl) (AG rfl) (ZR rfl) rfl rfl rfl rfl rfl rfl rfl | exact nC rfl rfl)) | refine xS ?_ | refine xR ?_ | refine xD false false rfl rfl mixed (by decide +kernel) ?_ | refine xD false true rfl rfl mixed (by decide +kernel) ?_ | refine xD true false rfl rfl mixed (by decide +kernel) ?_ | refine xD true true rfl rfl mixed (by decide +kernel) ?_ | refine xB ?_ | (refine xN ?_; try show PW _ _ _ _ _ _) | (refine xE ?_; try show PW _ _ _ _ _ _) | (refine xT ?_; try show PW _ _ _ _ _ _) | refine xt rfl ?_ | refine xf rfl ?_))
        (first | refine Ret_int (vC vT vN) rfl ?_ | refine Ret_bool (vC vT vN) rfl ?_ | refine Ret_g (vC vT vN) rfl ?_ | refine Ret_int (vC (vA (AG rfl) (SZ rfl) rfl rfl (lB rfl)) vN) rfl ?_ | refine Ret_bool (vC (vA (AG rfl) (SZ rfl) rfl rfl (lB rfl)) vN) rfl ?_ | refine Ret_g (vC (vA (AG rfl) (SZ rfl) rfl rfl (lB rfl)) vN) rfl ?_)
        rfl
      · have h0 : (parseT b).2 = 0 := by simpa [bne] using h
        have h3 := h3 h0
        (repeat (first | (refine qA ?_; try show PW _ _ _ _ _ _) | (refine qB ?_; try show PW _ _ _ _ _ _) | refine rO tabOk 300 rfl rfl ?_ | refine rO tabOk 6 rfl rfl ?_ | refine rO tabOk 1 rfl rfl ?_ | refine rD tabOk 300 rfl rfl ?_ | refine rD tabOk 6 rfl rfl ?_ | refine rD tabOk 1 rfl rfl ?_ | ((first | apply oR rfl rfl | (apply dR rfl rfl; focus (first | (apply cF rfl; intro _) | (apply cP rfl; intro _) | (apply cL rfl; intro _)))); focus (first | exact cl rfl rfl (EN rfl) (h3) rfl rfl rfl | exact cl rfl rfl (EN rfl) (h4) rfl rfl rfl | exact cI rfl (IK rfl) (IK rfl) rfl | exact mF rfl | exact bS rfl (EL rfl) (SZ rfl) (AG rfl) (ZR rfl) rfl rfl rfl rfl rfl rfl rfl | exact nC rfl rfl)) | (apply dR rfl rfl; focus (first | exact Cond_c (cl rfl rfl (EN rfl) (h3) rfl rfl rfl) | exact Cond_c (cl rfl rfl (EN rfl) (h4) rfl rfl rfl))) | refine xS ?_ | refine xR ?_ | refine xD false false rfl rfl mixed (by decide +kernel) ?_ | refine xD false true rfl rfl mixed (by decide +kernel) ?_ | refine xD true false rfl rfl mixed (by decide +kernel) ?_ | refine xD true true rfl rfl mixed (by decide +kernel) ?_ | refine xB ?_ | (refine xN ?_; try show PW _ _ _ _ _ _) | (refine xE ?_; try show PW _ _ _ _ _ _) | (refine xT ?_; try show PW _ _ _ _ _ _) | refine xt rfl ?_ | refine xf rfl ?_))
        (first | refine Ret_int (vC vT vN) rfl ?_ | refine Ret_bool (vC vT vN) rfl ?_ | refine Ret_g (vC vT vN) rfl ?_ | refine Ret_int (vC (vA (AG rfl) (SZ rfl) rfl rfl (lB rfl)) vN) rfl ?_ | refine Ret_bool (vC (vA (AG rfl) (SZ rfl) rfl rfl (lB rfl)) vN) rfl ?_ | refine Ret_g (vC (vA (AG rfl) (SZ rfl) rfl rfl (lB rfl)) vN) rfl ?_)
        rfl
end Go.Proofs.Ytffpepmfdjjjaaa
