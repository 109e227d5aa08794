/- The law JournalSpoilt holds in the second form: for every two lists of commands, every command and any two numbers, of bulk at most 1048576, the program returns true, and leaves them as they were. Conditions: the bulk's bound, nothing else. -/
import Derived.Test.YtffpepmfdjjjaaaOwnM
import Derived.Test.YtffpepmfdjjjaaaPureN
import Derived.Test.YtffpepmfdjjjaaaOwnJ
namespace Go.Proofs.Ytffpepmfdjjjaaa
open Go.Pure
attribute [local irreducible] PW POps POpsD PO PC Cond

theorem xor1 (a : UInt8) (x : Int) (hx : 1 ≤ x ∧ x ≤ 255) : IntKind.u8.wrap ((BitVec.ofInt IntKind.u8.bits (a.toNat : Int) ^^^ BitVec.ofInt IntKind.u8.bits (IntKind.u8.wrap x)).toNat : Int) = ((a ^^^ UInt8.ofNat x.toNat).toNat : Int) := by
  obtain ⟨n, rfl⟩ : ∃ n : Nat, x = n := ⟨x.toNat, by omega⟩
  have ha := a.toNat_lt
  have e : IntKind.u8.wrap (n : Int) = (n : Int) := by rw [u8wrap, Nat.mod_eq_of_lt (by omega)]
  rw [e]
  show IntKind.u8.wrap ((BitVec.ofInt 8 (a.toNat : Int) ^^^ BitVec.ofInt 8 (n : Int)).toNat : Int) = _
  rw [BitVec.ofInt_natCast, BitVec.ofInt_natCast, u8wrap, BitVec.toNat_xor, BitVec.toNat_ofNat, BitVec.toNat_ofNat, UInt8.toNat_xor, Int.toNat_natCast, u8of _ (by omega)]
  have hx8 : a.toNat ^^^ n < 2 ^ 8 := Nat.xor_lt_two_pow (by omega) (by omega)
  rw [Nat.mod_eq_of_lt (by omega : a.toNat < 2 ^ 8), Nat.mod_eq_of_lt (by omega : n < 2 ^ 8), Nat.mod_eq_of_lt hx8]

/-- What is known of the run: the commands ahead, written; the one that is spoilt. -/
structure Spoil (l : List VCmd) (c : VCmd) (m : List VCmd) : Prop where
  hc : gbulk c.g ≤ 1048576
  hl : gbulks (l.map VCmd.g) ≤ 1048576
  hm : gbulks (m.map VCmd.g) ≤ 1048576
  hb : gbulks ((l ++ [c] ++ m).map VCmd.g) ≤ 1048576
  wl : gwfs (l.map VCmd.g)
  wc : gwf c.g

set_option maxRecDepth 100000 in
set_option maxHeartbeats 8000000 in
theorem spoilt_none (l m : List VCmd) (c : VCmd) (at_ x : Int) (f : List UInt8) (e : Int) (hW : PC Try.prog 32 [.g (.sl (VCmd.gs l))] ⟨[], [], []⟩ (.tuple [.g (.sl (bys f)), .g (.int .i64 e)]) ⟨[], [], []⟩) (hx : e ≠ 0 ∨ x < 1 ∨ 255 < x) :
    PC Try.prog 11 [.g (.sl (VCmd.gs l)), .g c.g, .g (.sl (VCmd.gs m)), .g (.int .i64 at_), .g (.int .i64 x)] ⟨[], [], []⟩ (.g (.bool true)) ⟨[], [], []⟩ := by
  obtain ⟨session, seq, kind, ⟨tname, policy, ins, outs, rules⟩, name, to⟩ := c
  refine PC_of_PW Try.func11 rfl rfl (rs := _) rfl (Nat.le_of_ble_eq_true (by kernel_rfl)) ?_
  (repeat' (first | (first | (refine qA ?_; try show PW _ _ _ _ _ _) | (refine qB ?_; try show PW _ _ _ _ _ _) | refine rO tabOk 300 rfl rfl ?_ | refine rO tabOk 6 rfl rfl ?_ | refine rO tabOk 1 rfl rfl ?_ | refine rD tabOk 300 rfl rfl ?_ | refine rD tabOk 6 rfl rfl ?_ | refine rD tabOk 1 rfl rfl ?_ | ((first | apply oR rfl rfl | (apply dR rfl rfl; focus (first | (apply cF rfl; intro _) | (apply cP rfl; intro _) | (apply cL rfl; intro _)))); focus (first | exact cl rfl rfl (EN rfl) (alive14_pc) rfl rfl rfl | exact cl rfl rfl (EN rfl) (hW) rfl rfl rfl | exact cI rfl (IK rfl) (IK rfl) rfl | exact mF rfl | exact bS rfl (EL rfl) (SZ rfl) (AG rfl) (ZR rfl) rfl rfl rfl rfl rfl rfl rfl | exact nC rfl rfl)) | (apply dR rfl rfl; focus (first | exact Cond_c (cl rfl rfl (EN rfl) (alive14_pc) rfl rfl rfl) | exact Cond_c (cl rfl rfl (EN rfl) (hW) rfl rfl rfl))) | refine xU [6] rfl ?_ | refine xR ?_ | refine xD false false rfl rfl mixed (by decide +kernel) ?_ | refine xD false true rfl rfl mixed (by decide +kernel) ?_ | refine xD true false rfl rfl mixed (by decide +kernel) ?_ | refine xD true true rfl rfl mixed (by decide +kernel) ?_ | refine xB ?_ | (refine xN ?_; try show PW _ _ _ _ _ _) | (refine xE ?_; try show PW _ _ _ _ _ _) | (refine xT ?_; try show PW _ _ _ _ _ _) | refine xt rfl ?_ | refine xf rfl ?_) | refine POps_split rfl rfl (fun h => ?_) (fun h => ?_) | refine POpsD_split rfl rfl (fun h => ?_) (fun h => ?_) | refine PW_cond rfl (fun h => ?_) (fun h => ?_)))
  · (first | refine Ret_int (vC vT vN) rfl ?_ | refine Ret_bool (vC vT vN) rfl ?_ | refine Ret_g (vC vT vN) rfl ?_ | refine Ret_int (vC (vA (AG rfl) (SZ rfl) rfl rfl (lB rfl)) vN) rfl ?_ | refine Ret_bool (vC (vA (AG rfl) (SZ rfl) rfl rfl (lB rfl)) vN) rfl ?_ | refine Ret_g (vC (vA (AG rfl) (SZ rfl) rfl rfl (lB rfl)) vN) rfl ?_)
    rfl
  · (first | refine Ret_int (vC vT vN) rfl ?_ | refine Ret_bool (vC vT vN) rfl ?_ | refine Ret_g (vC vT vN) rfl ?_ | refine Ret_int (vC (vA (AG rfl) (SZ rfl) rfl rfl (lB rfl)) vN) rfl ?_ | refine Ret_bool (vC (vA (AG rfl) (SZ rfl) rfl rfl (lB rfl)) vN) rfl ?_ | refine Ret_g (vC (vA (AG rfl) (SZ rfl) rfl rfl (lB rfl)) vN) rfl ?_)
    rfl
  · (first | refine Ret_int (vC vT vN) rfl ?_ | refine Ret_bool (vC vT vN) rfl ?_ | refine Ret_g (vC vT vN) rfl ?_ | refine Ret_int (vC (vA (AG rfl) (SZ rfl) rfl rfl (lB rfl)) vN) rfl ?_ | refine Ret_bool (vC (vA (AG rfl) (SZ rfl) rfl rfl (lB rfl)) vN) rfl ?_ | refine Ret_g (vC (vA (AG rfl) (SZ rfl) rfl rfl (lB rfl)) vN) rfl ?_)
    rfl
  · exfalso
    rename_i q1 q2
    have h1 : e = 0 := by simpa [bne] using q1
    have h2 := of_decide_eq_false q2
    have h3 := of_decide_eq_false h
    omega

set_option maxRecDepth 100000 in
set_option maxHeartbeats 8000000 in
theorem spoilt_none2 (l m : List VCmd) (c : VCmd) (at_ x : Int) (f b : List UInt8) (e : Int) (p : Tr) (hx : 1 ≤ x ∧ x ≤ 255) (hW : PC Try.prog 32 [.g (.sl (VCmd.gs l))] ⟨[], [], []⟩ (.tuple [.g (.sl (bys f)), .g (.int .i64 0)]) ⟨[], [], []⟩)
    (hP : PC Try.prog 12 [.g c.g] ⟨[], [], []⟩ (.g p.g) ⟨[], [], []⟩) (hB : PC Try.prog 21 [.g p.g] ⟨[], [], []⟩ (.tuple [.g (.sl (bys b)), .g (.int .i64 e)]) ⟨[], [], []⟩) (ha : e ≠ 0 ∨ at_ < 0 ∨ (b.length : Int) ≤ at_) :
    PC Try.prog 11 [.g (.sl (VCmd.gs l)), .g c.g, .g (.sl (VCmd.gs m)), .g (.int .i64 at_), .g (.int .i64 x)] ⟨[], [], []⟩ (.g (.bool true)) ⟨[], [], []⟩ := by
  have b1 : (bys b).length = b.length := bys_len _
  obtain ⟨session, seq, kind, ⟨tname, policy, ins, outs, rules⟩, name, to⟩ := c
  obtain ⟨p0, p1, p2, p3⟩ := p
  refine PC_of_PW Try.func11 rfl rfl (rs := _) rfl (Nat.le_of_ble_eq_true (by kernel_rfl)) ?_
  (repeat' (first | (first | (refine qA ?_; try show PW _ _ _ _ _ _) | (refine qB ?_; try show PW _ _ _ _ _ _) | refine rO tabOk 300 rfl rfl ?_ | refine rO tabOk 6 rfl rfl ?_ | refine rO tabOk 1 rfl rfl ?_ | refine rD tabOk 300 rfl rfl ?_ | refine rD tabOk 6 rfl rfl ?_ | refine rD tabOk 1 rfl rfl ?_ | ((first | apply oR rfl rfl | (apply dR rfl rfl; focus (first | (apply cF rfl; intro _) | (apply cP rfl; intro _) | (apply cL rfl; intro _)))); focus (first | exact cl rfl rfl (EN rfl) (alive14_pc) rfl rfl rfl | exact cl rfl rfl (EN rfl) (hW) rfl rfl rfl | exact cl rfl rfl (EN rfl) (hP) rfl rfl rfl | exact cl rfl rfl (EN rfl) (hB) rfl rfl rfl | exact cI rfl (IK rfl) (IK rfl) rfl | exact mF rfl | exact bS rfl (EL rfl) (SZ rfl) (AG rfl) (ZR rfl) rfl rfl rfl rfl rfl rfl rfl | exact nC rfl rfl)) | (apply dR rfl rfl; focus (first | exact Cond_c (cl rfl rfl (EN rfl) (alive14_pc) rfl rfl rfl) | exact Cond_c (cl rfl rfl (EN rfl) (hW) rfl rfl rfl) | exact Cond_c (cl rfl rfl (EN rfl) (hP) rfl rfl rfl) | exact Cond_c (cl rfl rfl (EN rfl) (hB) rfl rfl rfl))) | refine xU [9] rfl ?_ | refine xR ?_ | refine xD false false rfl rfl mixed (by decide +kernel) ?_ | refine xD false true rfl rfl mixed (by decide +kernel) ?_ | refine xD true false rfl rfl mixed (by decide +kernel) ?_ | refine xD true true rfl rfl mixed (by decide +kernel) ?_ | refine xB ?_ | (refine xN ?_; try show PW _ _ _ _ _ _) | (refine xE ?_; try show PW _ _ _ _ _ _) | (refine xT ?_; try show PW _ _ _ _ _ _) | refine xt rfl ?_ | refine xf rfl ?_) | refine POps_split rfl rfl (fun h => ?_) (fun h => ?_) | refine POpsD_split rfl rfl (fun h => ?_) (fun h => ?_) | refine PW_cond rfl (fun h => ?_) (fun h => ?_)))
  all_goals (first | ((first | refine Ret_int (vC vT vN) rfl ?_ | refine Ret_bool (vC vT vN) rfl ?_ | refine Ret_g (vC vT vN) rfl ?_ | refine Ret_int (vC (vA (AG rfl) (SZ rfl) rfl rfl (lB rfl)) vN) rfl ?_ | refine Ret_bool (vC (vA (AG rfl) (SZ rfl) rfl rfl (lB rfl)) vN) rfl ?_ | refine Ret_g (vC (vA (AG rfl) (SZ rfl) rfl rfl (lB rfl)) vN) rfl ?_); rfl) | skip)
  all_goals (exfalso; rename_i q1 q2; rw [b1] at h; have h1 : e = 0 := by simpa [bne] using q1)
  all_goals (have h2 := of_decide_eq_false q2; have h3 := of_decide_eq_false h; omega)

set_option maxRecDepth 100000 in
set_option maxHeartbeats 16000000 in
theorem spoilt_main (l m : List VCmd) (c : VCmd) (at_ : Nat) (x : Int) (f b g : List UInt8) (e : Int) (p : Tr) (hx : 1 ≤ x ∧ x ≤ 255) (hln : l.length ≤ 1048576) (hmn : m.length ≤ 1048576) (hW : PC Try.prog 32 [.g (.sl (VCmd.gs l))] ⟨[], [], []⟩ (.tuple [.g (.sl (bys f)), .g (.int .i64 0)]) ⟨[], [], []⟩)
    (hP : PC Try.prog 12 [.g c.g] ⟨[], [], []⟩ (.g p.g) ⟨[], [], []⟩) (hB : PC Try.prog 21 [.g p.g] ⟨[], [], []⟩ (.tuple [.g (.sl (bys b)), .g (.int .i64 0)]) ⟨[], [], []⟩) (ha : at_ < b.length)
    (hW2 : PC Try.prog 32 [.g (.sl (VCmd.gs l ++ [c.g] ++ VCmd.gs m))] ⟨[], [], []⟩ (.tuple [.g (.sl (bys g)), .g (.int .i64 e)]) ⟨[], [], []⟩)
    (hgl : e = 0 → f.length + 4 + at_ < g.length ∧ g.length ≤ 1000000) (hS : PC Try.prog 31 [.g (.sl (VCmd.gs l)), .g (.sl (VCmd.gs l))] ⟨[], [], []⟩ (.g (.bool true)) ⟨[], [], []⟩)
    (hR : e = 0 → PC Try.prog 29 [.g (.sl (bys (g.set (f.length + 4 + at_) (g.getD (f.length + 4 + at_) 0 ^^^ UInt8.ofNat x.toNat))))] ⟨[], [], []⟩ (.tuple [.g (.sl (VCmd.gs l)), .g (.int .i64 f.length), .g (.int .i64 0)]) ⟨[], [], []⟩) :
    PC Try.prog 11 [.g (.sl (VCmd.gs l)), .g c.g, .g (.sl (VCmd.gs m)), .g (.int .i64 at_), .g (.int .i64 x)] ⟨[], [], []⟩ (.g (.bool true)) ⟨[], [], []⟩ := by
  have b1 : (bys b).length = b.length := bys_len _
  have b2 : (bys f).length = f.length := bys_len _
  have hcm : ∀ q : List VCmd, ∀ x ∈ VCmd.gs q, x.cells.length = 10 := by
    intro q x hx; obtain ⟨c, _, rfl⟩ := List.mem_map.1 hx; exact VCmd.cells c
  have hc1 : ∀ x ∈ [c.g], x.cells.length = 10 := by
    intro x hx; rw [List.mem_singleton.1 hx]; exact VCmd.cells c
  have lm : (VCmd.gs m).length = m.length := by simp [VCmd.gs]
  obtain ⟨session, seq, kind, ⟨tname, policy, ins, outs, rules⟩, name, to⟩ := c
  obtain ⟨p0, p1, p2, p3⟩ := p
  cases l with
  | nil =>
    refine PC_of_PW Try.func11 rfl rfl (rs := _) rfl (Nat.le_of_ble_eq_true (by kernel_rfl)) ?_
    (repeat' (first | (first | (refine qA ?_; try show PW _ _ _ _ _ _) | (refine qB ?_; try show PW _ _ _ _ _ _) | refine rO tabOk 300 rfl rfl ?_ | refine rO tabOk 6 rfl rfl ?_ | refine rO tabOk 1 rfl rfl ?_ | refine rD tabOk 300 rfl rfl ?_ | refine rD tabOk 6 rfl rfl ?_ | refine rD tabOk 1 rfl rfl ?_ | ((first | apply oR rfl rfl | (apply dR rfl rfl; focus (first | (apply cF rfl; intro _) | (apply cP rfl; intro _) | (apply cL rfl; intro _)))); focus (first | exact cl rfl rfl (EN rfl) (alive14_pc) rfl rfl rfl | exact cl rfl rfl (EN rfl) (hW) rfl rfl rfl | exact cl rfl rfl (EN rfl) (hP) rfl rfl rfl | exact cl rfl rfl (EN rfl) (hB) rfl rfl rfl | exact cI rfl (IK rfl) (IK rfl) rfl | exact mF rfl | exact bS rfl (EL rfl) (SZ rfl) (AG rfl) (ZR rfl) rfl rfl rfl rfl rfl rfl rfl | exact nC rfl rfl)) | (apply dR rfl rfl; focus (first | exact Cond_c (cl rfl rfl (EN rfl) (alive14_pc) rfl rfl rfl) | exact Cond_c (cl rfl rfl (EN rfl) (hW) rfl rfl rfl) | exact Cond_c (cl rfl rfl (EN rfl) (hP) rfl rfl rfl) | exact Cond_c (cl rfl rfl (EN rfl) (hB) rfl rfl rfl))) | refine xU [9] rfl ?_ | refine xR ?_ | refine xD false false rfl rfl mixed (by decide +kernel) ?_ | refine xD false true rfl rfl mixed (by decide +kernel) ?_ | refine xD true false rfl rfl mixed (by decide +kernel) ?_ | refine xD true true rfl rfl mixed (by decide +kernel) ?_ | refine xB ?_ | (refine xN ?_; try show PW _ _ _ _ _ _) | (refine xE ?_; try show PW _ _ _ _ _ _) | (refine xT ?_; try show PW _ _ _ _ _ _) | refine xt rfl ?_ | refine xf rfl ?_) | refine POps_split rfl rfl (fun h => ?_) (fun h => ?_) | refine POpsD_split rfl rfl (fun h => ?_) (fun h => ?_) | refine PW_cond rfl (fun h => ?_) (fun h => ?_)))
    all_goals (try (exfalso; simp [b1] at h <;> omega))
    clear h
    (repeat (first | (refine qA ?_; try show PW _ _ _ _ _ _) | (refine qB ?_; try show PW _ _ _ _ _ _) | refine rO tabOk 300 rfl rfl ?_ | refine rO tabOk 6 rfl rfl ?_ | refine rO tabOk 1 rfl rfl ?_ | refine rD tabOk 300 rfl rfl ?_ | refine rD tabOk 6 rfl rfl ?_ | refine rD tabOk 1 rfl rfl ?_ | ((first | apply oR rfl rfl | (apply dR rfl rfl; focus (first | (apply cF rfl; intro _) | (apply cP rfl; intro _) | (apply cL rfl; intro _)))); focus (first | exact cl rfl rfl (EN rfl) (hW2) rfl rfl rfl | exact PO_buildSlice_lit rfl (EL rfl) (SZ rfl) (AG rfl) (ZR rfl) rfl rfl rfl rfl rfl rfl rfl | exact PO_append_lit0 rfl (EL rfl) (SZ rfl) rfl rfl | exact PO_append_lit (es := []) (xs := [(VCmd.mk session seq kind ⟨tname, policy, ins, outs, rules⟩ name to).g]) rfl (EL rfl) (SZ rfl) (BY rfl) (ZR rfl) rfl rfl rfl (by simp) hc1 (by simp) (by simp) (by simp [maxLen]) | exact aP (xs := VCmd.gs m) rfl (EL rfl) (SZ rfl) (BY rfl) (ZR rfl) rfl rfl rfl rfl rfl (hcm m) (by rw [lm]; simp; omega) (by rw [lm]; simp [maxLen]; omega) | exact cI rfl (IK rfl) (IK rfl) rfl | exact mF rfl | exact bS rfl (EL rfl) (SZ rfl) (AG rfl) (ZR rfl) rfl rfl rfl rfl rfl rfl rfl | exact nC rfl rfl)) | (apply dR rfl rfl; focus (first | exact Cond_c (cl rfl rfl (EN rfl) (hW2) rfl rfl rfl) | exact Cond_c (PO_buildSlice_lit rfl (EL rfl) (SZ rfl) (AG rfl) (ZR rfl) rfl rfl rfl rfl rfl rfl rfl) | exact Cond_c (PO_append_lit0 rfl (EL rfl) (SZ rfl) rfl rfl) | exact Cond_c (PO_append_lit (es := []) (xs := [(VCmd.mk session seq kind ⟨tname, policy, ins, outs, rules⟩ name to).g]) rfl (EL rfl) (SZ rfl) (BY rfl) (ZR rfl) rfl rfl rfl (by simp) hc1 (by simp) (by simp) (by simp [maxLen])) | exact Cond_c (aP (xs := VCmd.gs m) rfl (EL rfl) (SZ rfl) (BY rfl) (ZR rfl) rfl rfl rfl rfl rfl (hcm m) (by rw [lm]; simp; omega) (by rw [lm]; simp [maxLen]; omega)))) | refine xS ?_ | refine xR ?_ | refine xD false false rfl rfl mixed (by decide +kernel) ?_ | refine xD false true rfl rfl mixed (by decide +kernel) ?_ | refine xD true false rfl rfl mixed (by decide +kernel) ?_ | refine xD true true rfl rfl mixed (by decide +kernel) ?_ | refine xB ?_ | (refine xN ?_; try show PW _ _ _ _ _ _) | (refine xE ?_; try show PW _ _ _ _ _ _) | (refine xT ?_; try show PW _ _ _ _ _ _) | refine xt rfl ?_ | refine xf rfl ?_))
    (first | refine POps_split rfl rfl (fun h => ?_) (fun h => ?_) | refine POpsD_split rfl rfl (fun h => ?_) (fun h => ?_) | refine PW_cond rfl (fun h => ?_) (fun h => ?_))
    · (repeat (first | (refine qA ?_; try show PW _ _ _ _ _ _) | (refine qB ?_; try show PW _ _ _ _ _ _) | refine rO tabOk 300 rfl rfl ?_ | refine rO tabOk 6 rfl rfl ?_ | refine rO tabOk 1 rfl rfl ?_ | refine rD tabOk 300 rfl rfl ?_ | refine rD tabOk 6 rfl rfl ?_ | refine rD tabOk 1 rfl rfl ?_ | ((first | apply oR rfl rfl | (apply dR rfl rfl; focus (first | (apply cF rfl; intro _) | (apply cP rfl; intro _) | (apply cL rfl; intro _)))); focus (first | exact cI rfl (IK rfl) (IK rfl) rfl | exact mF rfl | exact bS rfl (EL rfl) (SZ rfl) (AG rfl) (ZR rfl) rfl rfl rfl rfl rfl rfl rfl | exact nC rfl rfl)) | refine xS ?_ | refine xR ?_ | refine xD false false rfl rfl mixed (by decide +kernel) ?_ | refine xD false true rfl rfl mixed (by decide +kernel) ?_ | refine xD true false rfl rfl mixed (by decide +kernel) ?_ | refine xD true true rfl rfl mixed (by decide +kernel) ?_ | refine xB ?_ | (refine xN ?_; try show PW _ _ _ _ _ _) | (refine xE ?_; try show PW _ _ _ _ _ _) | (refine xT ?_; try show PW _ _ _ _ _ _) | refine xt rfl ?_ | refine xf rfl ?_))
      (first | refine Ret_int (vC vT vN) rfl ?_ | refine Ret_bool (vC vT vN) rfl ?_ | refine Ret_g (vC vT vN) rfl ?_ | refine Ret_int (vC (vA (AG rfl) (SZ rfl) rfl rfl (lB rfl)) vN) rfl ?_ | refine Ret_bool (vC (vA (AG rfl) (SZ rfl) rfl rfl (lB rfl)) vN) rfl ?_ | refine Ret_g (vC (vA (AG rfl) (SZ rfl) rfl rfl (lB rfl)) vN) rfl ?_)
      rfl
    · have he : e = 0 := by simpa [bne] using h
      subst he
      obtain ⟨hg1, hg2⟩ := hgl rfl
      have hR := hR rfl
      clear h hgl hW2
      have hw : IntKind.i64.wrap (IntKind.i64.wrap (((bys f).length : Int) + 4) + (at_ : Int)) = ((f.length + 4 + at_ : Nat) : Int) := by rw [b2, wrap64 (n := (f.length : Int) + 4) (by omega), wrap64 (by omega)]; omega
      have hat := bys_at g (f.length + 4 + at_) hg1
      have i0 : 0 ≤ IntKind.i64.wrap (IntKind.i64.wrap (((bys f).length : Int) + 4) + (at_ : Int)) := by rw [hw]; omega
      have i1 : IntKind.i64.wrap (IntKind.i64.wrap (((bys f).length : Int) + 4) + (at_ : Int)) < ((bys ([] ++ g)).length : Int) := by rw [hw, List.nil_append, bys_len]; omega
      have i2 : (bys ([] ++ g))[(IntKind.i64.wrap (IntKind.i64.wrap (((bys f).length : Int) + 4) + (at_ : Int))).toNat]? = some (byteG (g.getD (f.length + 4 + at_) 0)) := by rw [hw]; exact hat
      (repeat (first | (refine qA ?_; try show PW _ _ _ _ _ _) | (refine qB ?_; try show PW _ _ _ _ _ _) | refine rO tabOk 300 rfl rfl ?_ | refine rO tabOk 6 rfl rfl ?_ | refine rO tabOk 1 rfl rfl ?_ | refine rD tabOk 300 rfl rfl ?_ | refine rD tabOk 6 rfl rfl ?_ | refine rD tabOk 1 rfl rfl ?_ | ((first | apply oR rfl rfl | (apply dR rfl rfl; focus (first | (apply cF rfl; intro _) | (apply cP rfl; intro _) | (apply cL rfl; intro _)))); focus (first | exact PO_buildSlice_mar rfl (EL rfl) (SZ rfl) (AG rfl) (ZR rfl) rfl rfl rfl rfl rfl rfl rfl | exact PO_mappb (b := []) g rfl (EL rfl) (SZ rfl) (BY rfl) (ZR rfl) rfl rfl rfl rfl rfl (by simp; omega) (by simp [maxLen]; omega) | exact PO_mindex rfl (EL rfl) (SZ rfl) rfl rfl rfl (SZ rfl) i0 i1 | exact PO_load_mref_one rfl (AG rfl) rfl rfl i2 rfl | exact PO_store_mref rfl (SZ rfl) rfl rfl rfl rfl Nat.one_pos rfl i2 (Nat.le_refl _) | exact cI rfl (IK rfl) (IK rfl) rfl | exact mF rfl | exact bS rfl (EL rfl) (SZ rfl) (AG rfl) (ZR rfl) rfl rfl rfl rfl rfl rfl rfl | exact nC rfl rfl)) | (apply dR rfl rfl; focus (first | exact Cond_c (PO_buildSlice_mar rfl (EL rfl) (SZ rfl) (AG rfl) (ZR rfl) rfl rfl rfl rfl rfl rfl rfl) | exact Cond_c (PO_mappb (b := []) g rfl (EL rfl) (SZ rfl) (BY rfl) (ZR rfl) rfl rfl rfl rfl rfl (by simp; omega) (by simp [maxLen]; omega)) | exact Cond_c (PO_load_mref_one rfl (AG rfl) rfl rfl i2 rfl) | exact Cond_c (PO_store_mref rfl (SZ rfl) rfl rfl rfl rfl Nat.one_pos rfl i2 (Nat.le_refl _)))) | refine xU [14] rfl ?_ | refine xR ?_ | refine xD false false rfl rfl mixed (by decide +kernel) ?_ | refine xD false true rfl rfl mixed (by decide +kernel) ?_ | refine xD true false rfl rfl mixed (by decide +kernel) ?_ | refine xD true true rfl rfl mixed (by decide +kernel) ?_ | refine xB ?_ | (refine xN ?_; try show PW _ _ _ _ _ _) | (refine xE ?_; try show PW _ _ _ _ _ _) | (refine xT ?_; try show PW _ _ _ _ _ _) | refine xt rfl ?_ | refine xf rfl ?_))
      refine PW_freeze 0 rfl (PW_weak (env' := slots [(0, .g (.sl (VCmd.gs []))), (11, .g (.sl (bys f))), (14, .g (.sl (bys (g.set (f.length + 4 + at_) (g.getD (f.length + 4 + at_) 0 ^^^ UInt8.ofNat x.toNat)))))]) (SlotsOk.le ⟨.inl rfl, .inl rfl, .inl ?_, trivial⟩) (HLe.refl _) ?_)
      · show frz 0 (0 + g.length) _ (.mar 0 (0 + g.length)) = _
        have hX := xor1 (g.getD (f.length + 4 + at_) 0) x hx
        simp only [frz]
        rw [hw]
        have hs := bys_set g (f.length + 4 + at_) (g.getD (f.length + 4 + at_) 0 ^^^ UInt8.ofNat x.toNat)
        rw [hX, show (Nat.beq 0 0 && Nat.beq (0 + g.length) (0 + g.length)) = true by rw [Nat.beq_refl, Nat.beq_refl]; rfl, cond_true]
        exact congrArg (fun z => PV.g (.sl z)) hs
      · (repeat' (first | (first | (refine qA ?_; try show PW _ _ _ _ _ _) | (refine qB ?_; try show PW _ _ _ _ _ _) | refine rO tabOk 300 rfl rfl ?_ | refine rO tabOk 6 rfl rfl ?_ | refine rO tabOk 1 rfl rfl ?_ | refine rD tabOk 300 rfl rfl ?_ | refine rD tabOk 6 rfl rfl ?_ | refine rD tabOk 1 rfl rfl ?_ | ((first | apply oR rfl rfl | (apply dR rfl rfl; focus (first | (apply cF rfl; intro _) | (apply cP rfl; intro _) | (apply cL rfl; intro _)))); focus (first | exact cl rfl rfl (EN rfl) (hR) rfl rfl rfl | exact cl rfl rfl (EN rfl) (hS) rfl rfl rfl | exact cI rfl (IK rfl) (IK rfl) rfl | exact mF rfl | exact bS rfl (EL rfl) (SZ rfl) (AG rfl) (ZR rfl) rfl rfl rfl rfl rfl rfl rfl | exact nC rfl rfl)) | (apply dR rfl rfl; focus (first | exact Cond_c (cl rfl rfl (EN rfl) (hR) rfl rfl rfl) | exact Cond_c (cl rfl rfl (EN rfl) (hS) rfl rfl rfl))) | refine xS ?_ | refine xR ?_ | refine xD false false rfl rfl mixed (by decide +kernel) ?_ | refine xD false true rfl rfl mixed (by decide +kernel) ?_ | refine xD true false rfl rfl mixed (by decide +kernel) ?_ | refine xD true true rfl rfl mixed (by decide +kernel) ?_ | refine xB ?_ | (refine xN ?_; try show PW _ _ _ _ _ _) | (refine xE ?_; try show PW _ _ _ _ _ _) | (refine xT ?_; try show PW _ _ _ _ _ _) | refine xt rfl ?_ | refine xf rfl ?_) | refine POps_split rfl rfl (fun h => ?_) (fun h => ?_) | refine POpsD_split rfl rfl (fun h => ?_) (fun h => ?_) | refine PW_cond rfl (fun h => ?_) (fun h => ?_)))
        all_goals (first | (exfalso; simp [b2] at h; done) | ((first | refine Ret_int (vC vT vN) rfl ?_ | refine Ret_bool (vC vT vN) rfl ?_ | refine Ret_g (vC vT vN) rfl ?_ | refine Ret_int (vC (vA (AG rfl) (SZ rfl) rfl rfl (lB rfl)) vN) rfl ?_ | refine Ret_bool (vC (vA (AG rfl) (SZ rfl) rfl rfl (lB rfl)) vN) rfl ?_ | refine Ret_g (vC (vA (AG rfl) (SZ rfl) rfl rfl (lB rfl)) vN) rfl ?_); rfl))
  | cons c0 l0 =>
    have ll : (VCmd.gs (c0 :: l0)).length = (c0 :: l0).length := by simp [VCmd.gs]
    refine PC_of_PW Try.func11 rfl rfl (rs := _) rfl (Nat.le_of_ble_eq_true (by kernel_rfl)) ?_
    (repeat' (first | (first | (refine qA ?_; try show PW _ _ _ _ _ _) | (refine qB ?_; try show PW _ _ _ _ _ _) | refine rO tabOk 300 rfl rfl ?_ | refine rO tabOk 6 rfl rfl ?_ | refine rO tabOk 1 rfl rfl ?_ | refine rD tabOk 300 rfl rfl ?_ | refine rD tabOk 6 rfl rfl ?_ | refine rD tabOk 1 rfl rfl ?_ | ((first | apply oR rfl rfl | (apply dR rfl rfl; focus (first | (apply cF rfl; intro _) | (apply cP rfl; intro _) | (apply cL rfl; intro _)))); focus (first | exact cl rfl rfl (EN rfl) (alive14_pc) rfl rfl rfl | exact cl rfl rfl (EN rfl) (hW) rfl rfl rfl | exact cl rfl rfl (EN rfl) (hP) rfl rfl rfl | exact cl rfl rfl (EN rfl) (hB) rfl rfl rfl | exact cI rfl (IK rfl) (IK rfl) rfl | exact mF rfl | exact bS rfl (EL rfl) (SZ rfl) (AG rfl) (ZR rfl) rfl rfl rfl rfl rfl rfl rfl | exact nC rfl rfl)) | (apply dR rfl rfl; focus (first | exact Cond_c (cl rfl rfl (EN rfl) (alive14_pc) rfl rfl rfl) | exact Cond_c (cl rfl rfl (EN rfl) (hW) rfl rfl rfl) | exact Cond_c (cl rfl rfl (EN rfl) (hP) rfl rfl rfl) | exact Cond_c (cl rfl rfl (EN rfl) (hB) rfl rfl rfl))) | refine xU [9] rfl ?_ | refine xR ?_ | refine xD false false rfl rfl mixed (by decide +kernel) ?_ | refine xD false true rfl rfl mixed (by decide +kernel) ?_ | refine xD true false rfl rfl mixed (by decide +kernel) ?_ | refine xD true true rfl rfl mixed (by decide +kernel) ?_ | refine xB ?_ | (refine xN ?_; try show PW _ _ _ _ _ _) | (refine xE ?_; try show PW _ _ _ _ _ _) | (refine xT ?_; try show PW _ _ _ _ _ _) | refine xt rfl ?_ | refine xf rfl ?_) | refine POps_split rfl rfl (fun h => ?_) (fun h => ?_) | refine POpsD_split rfl rfl (fun h => ?_) (fun h => ?_) | refine PW_cond rfl (fun h => ?_) (fun h => ?_)))
    all_goals (try (exfalso; simp [b1] at h <;> omega))
    clear h
    (repeat (first | (refine qA ?_; try show PW _ _ _ _ _ _) | (refine qB ?_; try show PW _ _ _ _ _ _) | refine rO tabOk 300 rfl rfl ?_ | refine rO tabOk 6 rfl rfl ?_ | refine rO tabOk 1 rfl rfl ?_ | refine rD tabOk 300 rfl rfl ?_ | refine rD tabOk 6 rfl rfl ?_ | refine rD tabOk 1 rfl rfl ?_ | ((first | apply oR rfl rfl | (apply dR rfl rfl; focus (first | (apply cF rfl; intro _) | (apply cP rfl; intro _) | (apply cL rfl; intro _)))); focus (first | exact cl rfl rfl (EN rfl) (hW2) rfl rfl rfl | exact PO_buildSlice_lit rfl (EL rfl) (SZ rfl) (AG rfl) (ZR rfl) rfl rfl rfl rfl rfl rfl rfl | exact PO_append_lit (es := []) (xs := VCmd.gs (c0 :: l0)) rfl (EL rfl) (SZ rfl) (BY rfl) (ZR rfl) rfl rfl rfl (by simp) (hcm _) (by rw [ll]; simp) (by simp only [ll, lm, List.length_nil, List.length_cons, List.length_append, maxLen] at hln ⊢; omega) (by simp only [ll, lm, List.length_nil, List.length_cons, List.length_append, maxLen] at hln ⊢; omega) | exact aP (xs := [(VCmd.mk session seq kind ⟨tname, policy, ins, outs, rules⟩ name to).g]) rfl (EL rfl) (SZ rfl) (BY rfl) (ZR rfl) rfl rfl rfl rfl (by simp) hc1 (by simp only [ll, lm, List.length_nil, List.length_cons, List.length_append, maxLen] at hln ⊢; omega) (by simp only [ll, lm, List.length_nil, List.length_cons, List.length_append, maxLen] at hln ⊢; omega) | exact aP (xs := VCmd.gs m) rfl (EL rfl) (SZ rfl) (BY rfl) (ZR rfl) rfl rfl rfl rfl (by simp) (hcm m) (by simp only [ll, lm, List.length_nil, List.length_cons, List.length_append, maxLen] at hln ⊢; omega) (by simp only [ll, lm, List.length_nil, List.length_cons, List.length_append, maxLen] at hln ⊢; omega) | exact cI rfl (IK rfl) (IK rfl) rfl | exact mF rfl | exact bS rfl (EL rfl) (SZ rfl) (AG rfl) (ZR rfl) rfl rfl rfl rfl rfl rfl rfl | exact nC rfl rfl)) | (apply dR rfl rfl; focus (first | exact Cond_c (cl rfl rfl (EN rfl) (hW2) rfl rfl rfl) | exact Cond_c (PO_buildSlice_lit rfl (EL rfl) (SZ rfl) (AG rfl) (ZR rfl) rfl rfl rfl rfl rfl rfl rfl) | exact Cond_c (PO_append_lit (es := []) (xs := VCmd.gs (c0 :: l0)) rfl (EL rfl) (SZ rfl) (BY rfl) (ZR rfl) rfl rfl rfl (by simp) (hcm _) (by rw [ll]; simp) (by simp only [ll, lm, List.length_nil, List.length_cons, List.length_append, maxLen] at hln ⊢; omega) (by simp only [ll, lm, List.length_nil, List.length_cons, List.length_append, maxLen] at hln ⊢; omega)) | exact Cond_c (aP (xs := [(VCmd.mk session seq kind ⟨tname, policy, ins, outs, rules⟩ name to).g]) rfl (EL rfl) (SZ rfl) (BY rfl) (ZR rfl) rfl rfl rfl rfl (by simp) hc1 (by simp only [ll, lm, List.length_nil, List.length_cons, List.length_append, maxLen] at hln ⊢; omega) (by simp only [ll, lm, List.length_nil, List.length_cons, List.length_append, maxLen] at hln ⊢; omega)) | exact Cond_c (aP (xs := VCmd.gs m) rfl (EL rfl) (SZ rfl) (BY rfl) (ZR rfl) rfl rfl rfl rfl (by simp) (hcm m) (by simp only [ll, lm, List.length_nil, List.length_cons, List.length_append, maxLen] at hln ⊢; omega) (by simp only [ll, lm, List.length_nil, List.length_cons, List.length_append, maxLen] at hln ⊢; omega)))) | refine xS ?_ | refine xR ?_ | refine xD false false rfl rfl mixed (by decide +kernel) ?_ | refine xD false true rfl rfl mixed (by decide +kernel) ?_ | refine xD true false rfl rfl mixed (by decide +kernel) ?_ | refine xD true true rfl rfl mixed (by decide +kernel) ?_ | refine xB ?_ | (refine xN ?_; try show PW _ _ _ _ _ _) | (refine xE ?_; try show PW _ _ _ _ _ _) | (refine xT ?_; try show PW _ _ _ _ _ _) | refine xt rfl ?_ | refine xf rfl ?_))
    (first | refine POps_split rfl rfl (fun h => ?_) (fun h => ?_) | refine POpsD_split rfl rfl (fun h => ?_) (fun h => ?_) | refine PW_cond rfl (fun h => ?_) (fun h => ?_))
    · (repeat (first | (refine qA ?_; try show PW _ _ _ _ _ _) | (refine qB ?_; try show PW _ _ _ _ _ _) | refine rO tabOk 300 rfl rfl ?_ | refine rO tabOk 6 rfl rfl ?_ | refine rO tabOk 1 rfl rfl ?_ | refine rD tabOk 300 rfl rfl ?_ | refine rD tabOk 6 rfl rfl ?_ | refine rD tabOk 1 rfl rfl ?_ | ((first | apply oR rfl rfl | (apply dR rfl rfl; focus (first | (apply cF rfl; intro _) | (apply cP rfl; intro _) | (apply cL rfl; intro _)))); focus (first | exact cI rfl (IK rfl) (IK rfl) rfl | exact mF rfl | exact bS rfl (EL rfl) (SZ rfl) (AG rfl) (ZR rfl) rfl rfl rfl rfl rfl rfl rfl | exact nC rfl rfl)) | refine xS ?_ | refine xR ?_ | refine xD false false rfl rfl mixed (by decide +kernel) ?_ | refine xD false true rfl rfl mixed (by decide +kernel) ?_ | refine xD true false rfl rfl mixed (by decide +kernel) ?_ | refine xD true true rfl rfl mixed (by decide +kernel) ?_ | refine xB ?_ | (refine xN ?_; try show PW _ _ _ _ _ _) | (refine xE ?_; try show PW _ _ _ _ _ _) | (refine xT ?_; try show PW _ _ _ _ _ _) | refine xt rfl ?_ | refine xf rfl ?_))
      (first | refine Ret_int (vC vT vN) rfl ?_ | refine Ret_bool (vC vT vN) rfl ?_ | refine Ret_g (vC vT vN) rfl ?_ | refine Ret_int (vC (vA (AG rfl) (SZ rfl) rfl rfl (lB rfl)) vN) rfl ?_ | refine Ret_bool (vC (vA (AG rfl) (SZ rfl) rfl rfl (lB rfl)) vN) rfl ?_ | refine Ret_g (vC (vA (AG rfl) (SZ rfl) rfl rfl (lB rfl)) vN) rfl ?_)
      rfl
    · have he : e = 0 := by simpa [bne] using h
      subst he
      obtain ⟨hg1, hg2⟩ := hgl rfl
      have hR := hR rfl
      clear h hgl hW2
      have hw : IntKind.i64.wrap (IntKind.i64.wrap (((bys f).length : Int) + 4) + (at_ : Int)) = ((f.length + 4 + at_ : Nat) : Int) := by rw [b2, wrap64 (n := (f.length : Int) + 4) (by omega), wrap64 (by omega)]; omega
      have hat := bys_at g (f.length + 4 + at_) hg1
      have i0 : 0 ≤ IntKind.i64.wrap (IntKind.i64.wrap (((bys f).length : Int) + 4) + (at_ : Int)) := by rw [hw]; omega
      have i1 : IntKind.i64.wrap (IntKind.i64.wrap (((bys f).length : Int) + 4) + (at_ : Int)) < ((bys ([] ++ g)).length : Int) := by rw [hw, List.nil_append, bys_len]; omega
      have i2 : (bys ([] ++ g))[(IntKind.i64.wrap (IntKind.i64.wrap (((bys f).length : Int) + 4) + (at_ : Int))).toNat]? = some (byteG (g.getD (f.length + 4 + at_) 0)) := by rw [hw]; exact hat
      (repeat (first | (refine qA ?_; try show PW _ _ _ _ _ _) | (refine qB ?_; try show PW _ _ _ _ _ _) | refine rO tabOk 300 rfl rfl ?_ | refine rO tabOk 6 rfl rfl ?_ | refine rO tabOk 1 rfl rfl ?_ | refine rD tabOk 300 rfl rfl ?_ | refine rD tabOk 6 rfl rfl ?_ | refine rD tabOk 1 rfl rfl ?_ | ((first | apply oR rfl rfl | (apply dR rfl rfl; focus (first | (apply cF rfl; intro _) | (apply cP rfl; intro _) | (apply cL rfl; intro _)))); focus (first | exact PO_buildSlice_mar rfl (EL rfl) (SZ rfl) (AG rfl) (ZR rfl) rfl rfl rfl rfl rfl rfl rfl | exact PO_mappb (b := []) g rfl (EL rfl) (SZ rfl) (BY rfl) (ZR rfl) rfl rfl rfl rfl rfl (by simp; omega) (by simp [maxLen]; omega) | exact PO_mindex rfl (EL rfl) (SZ rfl) rfl rfl rfl (SZ rfl) i0 i1 | exact PO_load_mref_one rfl (AG rfl) rfl rfl i2 rfl | exact PO_store_mref rfl (SZ rfl) rfl rfl rfl rfl Nat.one_pos rfl i2 (Nat.le_refl _) | exact cI rfl (IK rfl) (IK rfl) rfl | exact mF rfl | exact bS rfl (EL rfl) (SZ rfl) (AG rfl) (ZR rfl) rfl rfl rfl rfl rfl rfl rfl | exact nC rfl rfl)) | (apply dR rfl rfl; focus (first | exact Cond_c (PO_buildSlice_mar rfl (EL rfl) (SZ rfl) (AG rfl) (ZR rfl) rfl rfl rfl rfl rfl rfl rfl) | exact Cond_c (PO_mappb (b := []) g rfl (EL rfl) (SZ rfl) (BY rfl) (ZR rfl) rfl rfl rfl rfl rfl (by simp; omega) (by simp [maxLen]; omega)) | exact Cond_c (PO_load_mref_one rfl (AG rfl) rfl rfl i2 rfl) | exact Cond_c (PO_store_mref rfl (SZ rfl) rfl rfl rfl rfl Nat.one_pos rfl i2 (Nat.le_refl _)))) | refine xU [14] rfl ?_ | refine xR ?_ | refine xD false false rfl rfl mixed (by decide +kernel) ?_ | refine xD false true rfl rfl mixed (by decide +kernel) ?_ | refine xD true false rfl rfl mixed (by decide +kernel) ?_ | refine xD true true rfl rfl mixed (by decide +kernel) ?_ | refine xB ?_ | (refine xN ?_; try show PW _ _ _ _ _ _) | (refine xE ?_; try show PW _ _ _ _ _ _) | (refine xT ?_; try show PW _ _ _ _ _ _) | refine xt rfl ?_ | refine xf rfl ?_))
      refine PW_freeze 0 rfl (PW_weak (env' := slots [(0, .g (.sl (VCmd.gs (c0 :: l0)))), (11, .g (.sl (bys f))), (14, .g (.sl (bys (g.set (f.length + 4 + at_) (g.getD (f.length + 4 + at_) 0 ^^^ UInt8.ofNat x.toNat)))))]) (SlotsOk.le ⟨.inl rfl, .inl rfl, .inl ?_, trivial⟩) (HLe.refl _) ?_)
      · show frz 0 (0 + g.length) _ (.mar 0 (0 + g.length)) = _
        have hX := xor1 (g.getD (f.length + 4 + at_) 0) x hx
        simp only [frz]
        rw [hw]
        have hs := bys_set g (f.length + 4 + at_) (g.getD (f.length + 4 + at_) 0 ^^^ UInt8.ofNat x.toNat)
        rw [hX, show (Nat.beq 0 0 && Nat.beq (0 + g.length) (0 + g.length)) = true by rw [Nat.beq_refl, Nat.beq_refl]; rfl, cond_true]
        exact congrArg (fun z => PV.g (.sl z)) hs
      · (repeat' (first | (first | (refine qA ?_; try show PW _ _ _ _ _ _) | (refine qB ?_; try show PW _ _ _ _ _ _) | refine rO tabOk 300 rfl rfl ?_ | refine rO tabOk 6 rfl rfl ?_ | refine rO tabOk 1 rfl rfl ?_ | refine rD tabOk 300 rfl rfl ?_ | refine rD tabOk 6 rfl rfl ?_ | refine rD tabOk 1 rfl rfl ?_ | ((first | apply oR rfl rfl | (apply dR rfl rfl; focus (first | (apply cF rfl; intro _) | (apply cP rfl; intro _) | (apply cL rfl; intro _)))); focus (first | exact cl rfl rfl (EN rfl) (hR) rfl rfl rfl | exact cl rfl rfl (EN rfl) (hS) rfl rfl rfl | exact cI rfl (IK rfl) (IK rfl) rfl | exact mF rfl | exact bS rfl (EL rfl) (SZ rfl) (AG rfl) (ZR rfl) rfl rfl rfl rfl rfl rfl rfl | exact nC rfl rfl)) | (apply dR rfl rfl; focus (first | exact Cond_c (cl rfl rfl (EN rfl) (hR) rfl rfl rfl) | exact Cond_c (cl rfl rfl (EN rfl) (hS) rfl rfl rfl))) | refine xS ?_ | refine xR ?_ | refine xD false false rfl rfl mixed (by decide +kernel) ?_ | refine xD false true rfl rfl mixed (by decide +kernel) ?_ | refine xD true false rfl rfl mixed (by decide +kernel) ?_ | refine xD true true rfl rfl mixed (by decide +kernel) ?_ | refine xB ?_ | (refine xN ?_; try show PW _ _ _ _ _ _) | (refine xE ?_; try show PW _ _ _ _ _ _) | (refine xT ?_; try show PW _ _ _ _ _ _) | refine xt rfl ?_ | refine xf rfl ?_) | refine POps_split rfl rfl (fun h => ?_) (fun h => ?_) | refine POpsD_split rfl rfl (fun h => ?_) (fun h => ?_) | refine PW_cond rfl (fun h => ?_) (fun h => ?_)))
        all_goals (first | (exfalso; simp [b2] at h; done) | ((first | refine Ret_int (vC vT vN) rfl ?_ | refine Ret_bool (vC vT vN) rfl ?_ | refine Ret_g (vC vT vN) rfl ?_ | refine Ret_int (vC (vA (AG rfl) (SZ rfl) rfl rfl (lB rfl)) vN) rfl ?_ | refine Ret_bool (vC (vA (AG rfl) (SZ rfl) rfl rfl (lB rfl)) vN) rfl ?_ | refine Ret_g (vC (vA (AG rfl) (SZ rfl) rfl rfl (lB rfl)) vN) rfl ?_); rfl))

theorem spoilt_pc (l m : List VCmd) (c : VCmd) (at_ x : Int) (h : Spoil l c m) : PC Try.prog 11 [.g (.sl (VCmd.gs l)), .g c.g, .g (.sl (VCmd.gs m)), .g (.int .i64 at_), .g (.int .i64 x)] ⟨[], [], []⟩ (.g (.bool true)) ⟨[], [], []⟩ := by
  obtain ⟨hc, hl, hm, hb, wl, wc⟩ := h
  have hln : l.length ≤ 1048576 := by have := map_len VCmd.one l; omega
  have hmn : m.length ≤ 1048576 := by have := map_len VCmd.one m; omega
  have hW := write_pc l hl
  have hA := writeJ_all l [] (writeJ l []).1
  generalize writeJ l [] = r at hW hA
  obtain ⟨f, e⟩ := r
  dsimp only at hW hA
  by_cases hx : e ≠ 0 ∨ x < 1 ∨ 255 < x
  · exact spoilt_none l m c at_ x f e hW hx
  · have he : e = 0 := by omega
    subst he
    obtain ⟨h1, h2, _⟩ := hA rfl
    rw [List.nil_append] at h1
    subst h1
    obtain ⟨p, hP, hB⟩ := body_pc c hc
    by_cases ha : (body c).2 ≠ 0 ∨ at_ < 0 ∨ ((body c).1.length : Int) ≤ at_
    · exact spoilt_none2 l m c at_ x _ _ _ p (by omega) hW hP hB ha
    · have hb0 : (body c).2 = 0 := by omega
      rw [hb0] at hB
      obtain ⟨n, rfl⟩ : ∃ n : Nat, at_ = n := ⟨at_.toNat, by omega⟩
      have hW2 := write_pc (l ++ [c] ++ m) hb
      have hA2 := writeJ_all (l ++ [c] ++ m) [] (writeJ (l ++ [c] ++ m) []).1
      generalize writeJ (l ++ [c] ++ m) [] = r2 at hW2 hA2
      obtain ⟨g, e3⟩ := r2
      dsimp only at hW2 hA2
      have hgs : VCmd.gs (l ++ [c] ++ m) = VCmd.gs l ++ [c.g] ++ VCmd.gs m := by simp [VCmd.gs]
      rw [hgs] at hW2
      have hall : e3 = 0 → g = allB (l ++ [c] ++ m) ∧ g.length ≤ 1000000 := fun h0 => by
        subst h0
        obtain ⟨k1, _, k3⟩ := hA2 rfl
        exact ⟨by rw [k1, List.nil_append], k3 (by simp)⟩
      have hlen : (allB (l ++ [c] ++ m)).length = (allB l).length + (4 + (body c).1.length) + (allB m).length := by
        rw [allB_append, allB_append, allB_one, List.length_append, List.length_append, recB_len]
      refine spoilt_main l m c n x _ _ g e3 p (by omega) hln hmn hW hP hB (by omega) hW2 (fun h0 => ?_) (samecmds_pc l (by omega)) (fun h0 => ?_)
      · obtain ⟨k1, k2⟩ := hall h0
        rw [k1] at k2 ⊢
        omega
      · obtain ⟨k1, k2⟩ := hall h0
        rw [k1] at k2 ⊢
        have hR := recover_pc ((allB (l ++ [c] ++ m)).set ((allB l).length + 4 + n) ((allB (l ++ [c] ++ m)).getD ((allB l).length + 4 + n) 0 ^^^ UInt8.ofNat x.toNat))
        rw [spoilt_plain (fun y hy => sound_of (gwfs_iff.1 wl _ (List.mem_map_of_mem hy)) (h2 y hy)) (sound_of wc hb0) (by omega) (fun h0 => by
          have := congrArg UInt8.toNat h0
          rw [u8of _ (by omega)] at this
          have : x.toNat = 0 := this
          omega) k2] at hR
        exact hR
end Go.Proofs.Ytffpepmfdjjjaaa

namespace Go.Proofs.Ytffpepmfdjjjaaa
open Go.Pure Go.ChangeShapes Go.WideShapes Go.ChangeAt Go.RowKit

set_option maxRecDepth 100000 in
theorem journalSpoilt_lifted (os : Os) (started : os.Started) (H : Type) (enc : TypeId × Value → H) (F : Stop.Interp) :
    ReturnsInHanded {} Try.checked os 11 .any ((Rows.OpenSpec.upto Rows.journalSpoiltSpec).pre6 enc Try.prog Try.f11 Rows.journalSpoiltUptoRow.domain false) (((Rows.OpenSpec.upto Rows.journalSpoiltSpec).at F).post enc Try.prog Try.f11 false true false false) := by
  refine returnsInHanded_of_cond (C := Try.checked) (s := Rows.OpenSpec.upto Rows.journalSpoiltSpec) (k := Rows.uptoSmall) rfl own started (by kernel_rfl) Try.func11
    (OpenSpec.witness (enc := enc) (C := Try.checked) (s := Rows.OpenSpec.upto Rows.journalSpoiltSpec) (k := Rows.uptoSmall) rfl false ⟨#[], #[.slice none 0 0, .agg #[.int .i64 0, .int .i64 0, .int .i64 0, .string ⟨#[]⟩, .int .i64 0, .slice none 0 0, .slice none 0 0, .slice none 0 0, .string ⟨#[]⟩, .int .i64 0], .slice none 0 0, .int .i64 0, .int .i64 0], []⟩ 8 (by kernel_rfl) (by kernel_rfl) (by kernel_rfl)
      (x := ([.nil, .agg [.lit (.int .i64 0), .lit (.int .i64 0), .lit (.int .i64 0), .agg [.lit (.string []), .lit (.int .i64 0), .nil, .nil, .nil], .lit (.string []), .lit (.int .i64 0)], .nil, .lit (.int .i64 0), .lit (.int .i64 0)], [], [])) (by kernel_rfl) rfl (by kernel_rfl)) ?_
  intro W base args ds gs before hval hW _ hk _
  refine law_calls (s := Rows.journalSpoiltSpec) (set := [2, 3, 4, 9, 22, 23, 25, 27, 64, 66, 69, 70, 72, 111, 113, 117, 121, 51]) (B := 4) (by kernel_rfl) (by kernel_rfl) laidOut rfl rfl Try.underlying4 (fun ds hl => ?_) W base args ds gs before hval hW (fun xs hl hl2 hD hT => ?_)
  · match ds, hl with
    | [a0, a1, a2, a3, a4], _ => rfl
  · match xs, hl with
    | [a0, a1, a2, a3, a4], _ =>
      have hbk := bulk_all hl2 hD
      have hs : Rows.uptoBulkAll (ds ++ gs) ≤ 1048576 := of_decide_eq_true hk
      rw [bulkAll_append] at hs
      obtain ⟨l, rfl, wl⟩ := cmds_in (hT 0 51 _ rfl rfl)
      have wc := (hT 1 27 _ rfl rfl).gwf
      obtain ⟨c, rfl⟩ := cmd_in (hT 1 27 _ rfl rfl)
      obtain ⟨m, rfl, _⟩ := cmds_in (hT 2 51 _ rfl rfl)
      obtain ⟨k, rfl, _⟩ := GT.int_inv Try.underlying3 (hT 3 3 _ rfl rfl)
      obtain ⟨x, rfl, _⟩ := GT.int_inv Try.underlying3 (hT 4 3 _ rfl rfl)
      simp only [gbulks, gbulk, VCmd.gs] at hbk
      exact spoilt_pc l m c k x ⟨by omega, by omega, by omega, by rw [List.map_append, List.map_append, gbulks_append, gbulks_append]; simp only [List.map_cons, List.map_nil, gbulks]; omega, wl, wc⟩

theorem journalSpoilt_holds : Rows.JournalSpoiltUptoSaid :=
  OpenClaim.holds_of_cond 11 Try.f11 rfl rfl rfl rfl rfl rfl rfl ⟨rfl, rfl, rfl, rfl, rfl⟩ rfl rfl rfl rfl rfl (by kernel_rfl) Try.func11 (by kernel_rfl)
    (of_decide_eq_true (by kernel_rfl)) (by unfold Func.isWrapper; first | (rw [if_pos (by decide +kernel)]; kernel_rfl) | (rw [if_neg (by decide +kernel)]; exact ⟨rfl, rfl⟩))
    (fun os started H enc _ F => journalSpoilt_lifted os started H enc F)
#print axioms journalSpoilt_holds
end Go.Proofs.Ytffpepmfdjjjaaa
