/- What the program's functions compute, each shown once; and plain laws of it. -/
import Derived.Test.YtffpepmfdjjjaaaOwnK
import Derived.Test.YtffpepmfdjjjaaaPureL
import Derived.Test.YtffpepmfdjjjaaaOwnE
namespace Go.Proofs.Ytffpepmfdjjjaaa
open Go.Pure
attribute [local irreducible] PW POps POpsD PO PC Cond

/-- A length in four bytes, the highest first. -/
def be4 (n : Nat) : List UInt8 := [UInt8.ofNat (n / 16777216 % 256), UInt8.ofNat (n / 65536 % 256), UInt8.ofNat (n / 256 % 256), UInt8.ofNat (n % 256)]
/-- A command's bytes, without what tells how many they are. -/
def body (c : VCmd) : List UInt8 × Int := bytesT (packCmd c)
def appendJ (file : List UInt8) (c : VCmd) : List UInt8 × Int :=
  if (body c).2 = 0 then (if 1000000 < file.length + 4 + (body c).1.length then ([], 5) else (file ++ (be4 (body c).1.length ++ (body c).1), 0)) else ([], (body c).2)
theorem be4_eq (n : Nat) : [GV.int .u8 (IntKind.u8.wrap ((n : Int).fdiv (2 ^ min (24 : Int).toNat IntKind.i64.bits))), .int .u8 (IntKind.u8.wrap ((n : Int).fdiv (2 ^ min (16 : Int).toNat IntKind.i64.bits))), .int .u8 (IntKind.u8.wrap ((n : Int).fdiv (2 ^ min (8 : Int).toNat IntKind.i64.bits))), .int .u8 (IntKind.u8.wrap (n : Int))] = bys (be4 n) := by
  have e1 : (2 : Int) ^ min (8 : Int).toNat IntKind.i64.bits = ((256 : Nat) : Int) := by decide
  have e2 : (2 : Int) ^ min (16 : Int).toNat IntKind.i64.bits = ((65536 : Nat) : Int) := by decide
  have e3 : (2 : Int) ^ min (24 : Int).toNat IntKind.i64.bits = ((16777216 : Nat) : Int) := by decide
  rw [e1, e2, e3, fdivN, fdivN, fdivN, u8nat, u8nat, u8nat, u8nat]
  rfl
theorem be4_len (n : Nat) : (be4 n).length = 4 := rfl
theorem body_len (c : VCmd) : (body c).1.length ≤ 100000 := by
  unfold body bytesT
  split
  · split
    · simp
    · simp [four]; omega
  · simp

set_option maxRecDepth 100000 in
set_option maxHeartbeats 8000000 in
theorem body_pc (c : VCmd) (hc : gbulk c.g ≤ 1048576) : ∃ p : Tr, PC Try.prog 12 [.g c.g] ⟨[], [], []⟩ (.g p.g) ⟨[], [], []⟩ ∧ PC Try.prog 21 [.g p.g] ⟨[], [], []⟩ (.tuple [.g (.sl (bys (body c).1)), .g (.int .i64 (body c).2)]) ⟨[], [], []⟩ := by
  have hb := cmd_bulks c
  have hE := enc_bulk (packCmd c)
  have hok := ok_of_bulk _ (packCmd c) (Nat.le_refl _) (by simp only [maxLen]; omega)
  refine ⟨packCmd c, pack_pc c hc, ?_⟩
  unfold body
  generalize packCmd c = p at hb hE hok
  obtain ⟨p0, p1, p2, p3⟩ := p
  exact bytes_pc p0 p1 p2 p3 hok (by omega)

set_option maxRecDepth 100000 in
set_option maxHeartbeats 8000000 in
theorem append_pc (file : List UInt8) (c : VCmd) (hc : gbulk c.g ≤ 1048576) (hf : file.length ≤ 1000000000) :
    PC Try.prog 27 [.g (.sl (bys file)), .g c.g] ⟨[], [], []⟩ (.tuple [.g (.sl (bys (appendJ file c).1)), .g (.int .i64 (appendJ file c).2)]) ⟨[], [], []⟩ := by
  obtain ⟨p, h1, h2⟩ := body_pc c hc
  have hl := body_len c
  unfold appendJ
  generalize body c = r at h2 hl
  obtain ⟨b, e⟩ := r
  obtain ⟨p0, p1, p2, p3⟩ := p
  obtain ⟨session, seq, kind, ⟨tname, policy, ins, outs, rules⟩, name, to⟩ := c
  dsimp only at h2 hl ⊢
  have hbl : (bys b).length = b.length := bys_len b
  have hfl : (bys file).length = file.length := bys_len file
  clear hc
  have w1 : IntKind.i64.wrap (IntKind.i64.wrap (((bys file).length : Int) + 4) + ((bys b).length : Int)) = ((file.length + 4 + b.length : Nat) : Int) := by
    rw [hfl, hbl, wrap64 (n := (file.length : Int) + 4) (by omega), wrap64 (by omega)]; omega
  have w2 : 0 ≤ IntKind.i64.wrap (IntKind.i64.wrap (((bys file).length : Int) + 4) + ((bys b).length : Int)) := by rw [w1]; omega
  have w3 : ((1 : Nat) : Int) * IntKind.i64.wrap (IntKind.i64.wrap (((bys file).length : Int) + 4) + ((bys b).length : Int)) ≤ 281474976710656 := by rw [w1]; omega
  have w4 : IntKind.i64.wrap (IntKind.i64.wrap (((bys file).length : Int) + 4) + ((bys b).length : Int)) ≤ 9223372036854775807 := by rw [w1]; omega
  have hbe := be4_eq (bys b).length
  rw [show be4 (bys b).length = be4 b.length by rw [hbl]] at hbe
  refine PC_of_PW Try.func27 rfl rfl (rs := _) rfl (Nat.le_of_ble_eq_true (by kernel_rfl)) ?_
  (repeat' (first | (first | (refine qA ?_; try show PW _ _ _ _ _ _) | (refine qB ?_; try show PW _ _ _ _ _ _) | refine rO tabOk 300 rfl rfl ?_ | refine rO tabOk 6 rfl rfl ?_ | refine rO tabOk 1 rfl rfl ?_ | refine rD tabOk 300 rfl rfl ?_ | refine rD tabOk 6 rfl rfl ?_ | refine rD tabOk 1 rfl rfl ?_ | ((first | apply oR rfl rfl | (apply dR rfl rfl; focus (first | (apply cF rfl; intro _) | (apply cP rfl; intro _) | (apply cL rfl; intro _)))); focus (first | exact cl rfl rfl (EN rfl) (h1) rfl rfl rfl | exact cl rfl rfl (EN rfl) (h2) rfl rfl rfl | exact PO_makeRoom rfl rfl rfl (EL rfl) (SZ rfl) (ZR rfl) (BY rfl) w2 w3 w4 | exact PO_shr rfl rfl rfl (by decide) | exact PO_appb (b := []) file rfl (EL rfl) (SZ rfl) (BY rfl) (ZR rfl) rfl rfl rfl rfl rfl (by simp; omega) (by simp [maxLen]; omega) | exact PO_appb (be4 b.length) rfl (EL rfl) (SZ rfl) (BY rfl) (ZR rfl) rfl rfl rfl rfl hbe (by simp [be4]; omega) (by simp [maxLen, be4]; omega) | exact PO_appb b rfl (EL rfl) (SZ rfl) (BY rfl) (ZR rfl) rfl rfl rfl rfl rfl (by simp [be4]; omega) (by simp [maxLen, be4]; omega) | exact cI rfl (IK rfl) (IK rfl) rfl | exact mF rfl | exact bS rfl (EL rfl) (SZ rfl) (AG rfl) (ZR rfl) rfl rfl rfl rfl rfl rfl rfl | exact nC rfl rfl)) | (apply dR rfl rfl; focus (first | exact Cond_c (cl rfl rfl (EN rfl) (h1) rfl rfl rfl) | exact Cond_c (cl rfl rfl (EN rfl) (h2) rfl rfl rfl) | exact Cond_c (PO_makeRoom rfl rfl rfl (EL rfl) (SZ rfl) (ZR rfl) (BY rfl) w2 w3 w4) | exact Cond_c (PO_appb (b := []) file rfl (EL rfl) (SZ rfl) (BY rfl) (ZR rfl) rfl rfl rfl rfl rfl (by simp; omega) (by simp [maxLen]; omega)) | exact Cond_c (PO_appb (be4 b.length) rfl (EL rfl) (SZ rfl) (BY rfl) (ZR rfl) rfl rfl rfl rfl hbe (by simp [be4]; omega) (by simp [maxLen, be4]; omega)) | exact Cond_c (PO_appb b rfl (EL rfl) (SZ rfl) (BY rfl) (ZR rfl) rfl rfl rfl rfl rfl (by simp [be4]; omega) (by simp [maxLen, be4]; omega)))) | refine xS ?_ | refine xR ?_ | refine xD false false rfl rfl mixed (by decide +kernel) ?_ | refine xD false true rfl rfl mixed (by decide +kernel) ?_ | refine xD true false rfl rfl mixed (by decide +kernel) ?_ | refine xD true true rfl rfl mixed (by decide +kernel) ?_ | refine xB ?_ | (refine xN ?_; try show PW _ _ _ _ _ _) | (refine xE ?_; try show PW _ _ _ _ _ _) | (refine xT ?_; try show PW _ _ _ _ _ _) | refine xt rfl ?_ | refine xf rfl ?_) | refine POps_split rfl rfl (fun h => ?_) (fun h => ?_) | refine POpsD_split rfl rfl (fun h => ?_) (fun h => ?_) | refine PW_cond rfl (fun h => ?_) (fun h => ?_)))
  · have he : ¬ e = 0 := by simpa [bne] using h
    rw [if_neg he]
    exact Ret_two (vC vT (vC vT vN)) rfl rfl rfl
  · rename_i q
    have he : e = 0 := by simpa [bne] using q
    rw [if_pos he]
    rw [w1] at h
    rw [if_pos (by have := of_decide_eq_true h; omega)]
    exact Ret_two (vC vT (vC vT vN)) rfl rfl rfl
  · rename_i q
    have he : e = 0 := by simpa [bne] using q
    rw [if_pos he]
    rw [w1] at h
    rw [if_neg (by have := of_decide_eq_false h; omega)]
    refine Ret_two (vC vT (vC vT vN)) rfl ?_ rfl
    simp
end Go.Proofs.Ytffpepmfdjjjaaa

namespace Go.Proofs.Ytffpepmfdjjjaaa
open Go.Pure
attribute [local irreducible] PW POps POpsD PO PC Cond

/-- Four bytes as a length. -/
def beN (l : List UInt8) : Nat := l.foldl (fun n c => n * 256 + c.toNat) 0
theorem beN_snoc (l : List UInt8) (c : UInt8) : beN (l ++ [c]) = beN l * 256 + c.toNat := by simp [beN]
theorem beN_lt : ∀ l : List UInt8, beN l < 256 ^ l.length := by
  intro l
  induction h : l.length generalizing l with
  | zero => obtain rfl := List.eq_nil_of_length_eq_zero h; simp [beN]
  | succ n ih =>
    obtain ⟨l', c, rfl⟩ : ∃ l' c, l = l' ++ [c] := by
      rcases List.eq_nil_or_concat l with rfl | ⟨l', c, rfl⟩
      · simp at h
      · exact ⟨l', c, by simp⟩
    have hl : l'.length = n := by simpa using h
    have := ih l' hl
    have := c.toNat_lt
    rw [beN_snoc, Nat.pow_succ]
    omega
theorem or8i (x c : Nat) (hx : x < 1099511627776) (hc : c < 256) :
    IntKind.i64.wrap ((BitVec.ofInt IntKind.i64.bits (IntKind.i64.wrap ((x : Int) * 2 ^ min (8 : Int).toNat IntKind.i64.bits)) ||| BitVec.ofInt IntKind.i64.bits (IntKind.i64.wrap (c : Int))).toNat : Int) = ((x * 256 + c : Nat) : Int) := by
  have e1 : (x : Int) * 2 ^ min (8 : Int).toNat IntKind.i64.bits = ((256 * x : Nat) : Int) := by
    have : (2 : Int) ^ min (8 : Int).toNat IntKind.i64.bits = 256 := by decide
    rw [this]; omega
  rw [e1, wrap64 (n := ((256 * x : Nat) : Int)) (by omega), wrap64 (n := (c : Int)) (by omega)]
  show IntKind.i64.wrap ((BitVec.ofInt 64 ((256 * x : Nat) : Int) ||| BitVec.ofInt 64 (c : Int)).toNat : Int) = _
  rw [BitVec.ofInt_natCast, BitVec.ofInt_natCast, BitVec.toNat_or, BitVec.toNat_ofNat, BitVec.toNat_ofNat, Nat.mod_eq_of_lt (by omega : 256 * x < 2 ^ 64), Nat.mod_eq_of_lt (by omega : c < 2 ^ 64)]
  have h := Nat.two_pow_add_eq_or_of_lt (i := 8) (by omega : c < 2 ^ 8) x
  rw [show (256 : Nat) * x = 2 ^ 8 * x from rfl, ← h, wrap64 (by omega)]
  omega

/-- The record at a place: its command, where it ends, and whether it is whole. -/
def nextX (file : List UInt8) (at_ : Nat) : VCmd × Int × Bool :=
  if file.length < at_ + 4 then (noCmd, 0, false) else
  let n := beN ((file.drop at_).take 4)
  if file.length < at_ + 4 + n then (noCmd, 0, false) else
  let p := parseT ((file.drop (at_ + 4)).take n)
  if p.2 = 0 then ((unCmd p.1).1, ((at_ + 4 + n : Nat) : Int), decide ((unCmd p.1).2 = 0)) else (noCmd, 0, false)
mutual
theorem bulk_enc : ∀ t : Tr, gbulk t.g ≤ (enc t).length
  | .mk tag n text kids => by
    have h1 := bulks_enc kids
    have h2 := varint_pos (fold64 n)
    have h3 := varint_pos text.size
    have h4 := varint_pos kids.length
    rw [tr_bulk]
    simp only [enc, List.length_cons, List.length_append, Array.length_toList]
    have : text.data.size = text.size := rfl
    omega
theorem bulks_enc : ∀ l : List Tr, gbulks (Tr.gs l) ≤ (encs l).length
  | [] => by simp [Tr.gs, gbulks]
  | t :: l => by
    have h1 := bulk_enc t
    have h2 := bulks_enc l
    simp only [Tr.gs, gbulks, encs, List.length_append]
    omega
end
theorem Ret_three {P : Program} {env : Env} {rs : List ResultVar} {ps : List PV} {e : Exit} {H2 : PH} {a b c a' b' c' : GV} (hs : resVs P env H2 rs = some ps) (hp : ps = [.g a, .g b, .g c]) (ha : a = a') (hb : b = b') (hc : c = c')
    (he : e = .normal ∨ e = .ret := by first | exact .inl rfl | exact .inr rfl) : Ret P rs ⟨[], [], []⟩ (.tuple [.g a', .g b', .g c']) ⟨[], [], []⟩ e env H2 := by
  subst ha; subst hb; subst hc; subst hp
  refine Ret_pure hs rfl (.tuple _ fun p hp => ?_) he
  simp at hp
  rcases hp with rfl | rfl | rfl <;> exact .g _

set_option maxRecDepth 100000 in
set_option maxHeartbeats 8000000 in
theorem next_pc (file : List UInt8) (at_ : Nat) (hf : file.length ≤ 1000000) (ha : at_ ≤ file.length) :
    PC Try.prog 57 [.g (.sl (bys file)), .g (.int .i64 at_)] ⟨[], [], []⟩ (.tuple [.g (nextX file at_).1.g, .g (.int .i64 (nextX file at_).2.1), .g (.bool (nextX file at_).2.2)]) ⟨[], [], []⟩ := by
  have hfl : (bys file).length = file.length := bys_len file
  have hnx : nextX file at_ = nextX file at_ := rfl
  conv at hnx => rhs; unfold nextX
  refine PC_of_PW Try.func57 rfl rfl (rs := _) rfl (Nat.le_of_ble_eq_true (by kernel_rfl)) ?_
  (repeat (first | (refine qA ?_; try show PW _ _ _ _ _ _) | (refine qB ?_; try show PW _ _ _ _ _ _) | refine rO tabOk 300 rfl rfl ?_ | refine rO tabOk 6 rfl rfl ?_ | refine rO tabOk 1 rfl rfl ?_ | refine rD tabOk 300 rfl rfl ?_ | refine rD tabOk 6 rfl rfl ?_ | refine rD tabOk 1 rfl rfl ?_ | ((first | apply oR rfl rfl | (apply dR rfl rfl; focus (first | (apply cF rfl; intro _) | (apply cP rfl; intro _) | (apply cL rfl; intro _)))); focus (first | exact cI rfl (IK rfl) (IK rfl) rfl | exact mF rfl | exact bS rfl (EL rfl) (SZ rfl) (AG rfl) (ZR rfl) rfl rfl rfl rfl rfl rfl rfl | exact nC rfl rfl)) | refine xU [1] rfl ?_ | refine xR ?_ | refine xD false false rfl rfl mixed (by decide +kernel) ?_ | refine xD false true rfl rfl mixed (by decide +kernel) ?_ | refine xD true false rfl rfl mixed (by decide +kernel) ?_ | refine xD true true rfl rfl mixed (by decide +kernel) ?_ | refine xB ?_ | (refine xN ?_; try show PW _ _ _ _ _ _) | (refine xE ?_; try show PW _ _ _ _ _ _) | (refine xT ?_; try show PW _ _ _ _ _ _) | refine xt rfl ?_ | refine xf rfl ?_))
  (repeat (first | (refine qA ?_; try show PW _ _ _ _ _ _) | (refine qB ?_; try show PW _ _ _ _ _ _) | refine rO tabOk 300 rfl rfl ?_ | refine rO tabOk 6 rfl rfl ?_ | refine rO tabOk 1 rfl rfl ?_ | refine rD tabOk 300 rfl rfl ?_ | refine rD tabOk 6 rfl rfl ?_ | refine rD tabOk 1 rfl rfl ?_ | ((first | apply oR rfl rfl | (apply dR rfl rfl; focus (first | (apply cF rfl; intro _) | (apply cP rfl; intro _) | (apply cL rfl; intro _)))); focus (first | exact cI rfl (IK rfl) (IK rfl) rfl | exact mF rfl | exact bS rfl (EL rfl) (SZ rfl) (AG rfl) (ZR rfl) rfl rfl rfl rfl rfl rfl rfl | exact nC rfl rfl)) | refine xS ?_ | refine xR ?_ | refine xD false false rfl rfl mixed (by decide +kernel) ?_ | refine xD false true rfl rfl mixed (by decide +kernel) ?_ | refine xD true false rfl rfl mixed (by decide +kernel) ?_ | refine xD true true rfl rfl mixed (by decide +kernel) ?_ | refine xB ?_ | (refine xN ?_; try show PW _ _ _ _ _ _) | (refine xE ?_; try show PW _ _ _ _ _ _) | (refine xT ?_; try show PW _ _ _ _ _ _) | refine xt rfl ?_ | refine xf rfl ?_))
  (first | refine POps_split rfl rfl (fun h => ?_) (fun h => ?_) | refine POpsD_split rfl rfl (fun h => ?_) (fun h => ?_) | refine PW_cond rfl (fun h => ?_) (fun h => ?_))
  · have h4 : file.length < at_ + 4 := by have := of_decide_eq_true h; rw [hfl, wrap64 (by omega)] at this; omega
    rw [if_pos h4] at hnx
    rw [hnx]
    (repeat (first | (refine qA ?_; try show PW _ _ _ _ _ _) | (refine qB ?_; try show PW _ _ _ _ _ _) | refine rO tabOk 300 rfl rfl ?_ | refine rO tabOk 6 rfl rfl ?_ | refine rO tabOk 1 rfl rfl ?_ | refine rD tabOk 300 rfl rfl ?_ | refine rD tabOk 6 rfl rfl ?_ | refine rD tabOk 1 rfl rfl ?_ | ((first | apply oR rfl rfl | (apply dR rfl rfl; focus (first | (apply cF rfl; intro _) | (apply cP rfl; intro _) | (apply cL rfl; intro _)))); focus (first | exact cI rfl (IK rfl) (IK rfl) rfl | exact mF rfl | exact bS rfl (EL rfl) (SZ rfl) (AG rfl) (ZR rfl) rfl rfl rfl rfl rfl rfl rfl | exact nC rfl rfl)) | refine xS ?_ | refine xR ?_ | refine xD false false rfl rfl mixed (by decide +kernel) ?_ | refine xD false true rfl rfl mixed (by decide +kernel) ?_ | refine xD true false rfl rfl mixed (by decide +kernel) ?_ | refine xD true true rfl rfl mixed (by decide +kernel) ?_ | refine xB ?_ | (refine xN ?_; try show PW _ _ _ _ _ _) | (refine xE ?_; try show PW _ _ _ _ _ _) | (refine xT ?_; try show PW _ _ _ _ _ _) | refine xt rfl ?_ | refine xf rfl ?_))
    exact Ret_three (vC (vA (AG rfl) (SZ rfl) rfl rfl (lB rfl)) (vC vT (vC vT vN))) rfl rfl rfl rfl
  · have h4 : at_ + 4 ≤ file.length := by have := of_decide_eq_false h; rw [hfl, wrap64 (by omega)] at this; omega
    clear h
    rw [if_neg (by omega)] at hnx
    have hw : IntKind.i64.wrap ((at_ : Int) + 4) = ((at_ + 4 : Nat) : Int) := by rw [wrap64 (by omega)]; omega
    have h4l : ((file.drop at_).take 4).length = 4 := by simp; omega
    generalize hhd : (file.drop at_).take 4 = hd at h4l hnx
    (repeat (first | (refine qA ?_; try show PW _ _ _ _ _ _) | (refine qB ?_; try show PW _ _ _ _ _ _) | refine rO tabOk 300 rfl rfl ?_ | refine rO tabOk 6 rfl rfl ?_ | refine rO tabOk 1 rfl rfl ?_ | refine rD tabOk 300 rfl rfl ?_ | refine rD tabOk 6 rfl rfl ?_ | refine rD tabOk 1 rfl rfl ?_ | ((first | apply oR rfl rfl | (apply dR rfl rfl; focus (first | (apply cF rfl; intro _) | (apply cP rfl; intro _) | (apply cL rfl; intro _)))); focus (first | exact PO_slice_bys hd at_ (at_ + 4) rfl (EL rfl) (SZ rfl) rfl rfl rfl rfl hw (by omega) h4 (by rw [← hhd]; congr 1; omega) | exact cI rfl (IK rfl) (IK rfl) rfl | exact mF rfl | exact bS rfl (EL rfl) (SZ rfl) (AG rfl) (ZR rfl) rfl rfl rfl rfl rfl rfl rfl | exact nC rfl rfl)) | (apply dR rfl rfl; focus (first | exact Cond_c (PO_slice_bys hd at_ (at_ + 4) rfl (EL rfl) (SZ rfl) rfl rfl rfl rfl hw (by omega) h4 (by rw [← hhd]; congr 1; omega)))) | refine xS ?_ | refine xR ?_ | refine xD false false rfl rfl mixed (by decide +kernel) ?_ | refine xD false true rfl rfl mixed (by decide +kernel) ?_ | refine xD true false rfl rfl mixed (by decide +kernel) ?_ | refine xD true true rfl rfl mixed (by decide +kernel) ?_ | refine xB ?_ | (refine xN ?_; try show PW _ _ _ _ _ _) | (refine xE ?_; try show PW _ _ _ _ _ _) | (refine xT ?_; try show PW _ _ _ _ _ _) | refine xt rfl ?_ | refine xf rfl ?_))
    refine PW_loop_cut (S := Nat) (fun i => [(0, .g (.sl (bys file))), (1, .g (.int .i64 at_)), (4, .ptr 0 0), (7, .g (.int .i64 (beN (hd.take i) : Nat))), (24, .g (.sl (bys hd))), (25, .g (.int .i64 4)), (26, .g (.int .i64 i))])
      (fun _ => ⟨[[.g (.int .i64 0), .g (.int .i64 0), .g (.int .i64 0), .g (.str ⟨#[]⟩), .g (.int .i64 0), .nils, .nils, .nils, .g (.str ⟨#[]⟩), .g (.int .i64 0)]], [], []⟩) (fun i => i ≤ 4) (fun i => 4 - i) 0 (Nat.zero_le _)
      (SlotsOk.le ⟨.inl rfl, .inl rfl, .inl rfl, .inl rfl, .inl rfl, .inl (congrArg (fun k : Nat => PV.g (.int .i64 k)) ((bys_len hd).trans h4l)), .inl rfl, trivial⟩) (HLe.of_eq rfl) (fun _ => rfl) (fun i hi => ?_)
    (repeat (first | (refine qA ?_; try show PW _ _ _ _ _ _) | (refine qB ?_; try show PW _ _ _ _ _ _) | refine rO tabOk 300 rfl rfl ?_ | refine rO tabOk 6 rfl rfl ?_ | refine rO tabOk 1 rfl rfl ?_ | refine rD tabOk 300 rfl rfl ?_ | refine rD tabOk 6 rfl rfl ?_ | refine rD tabOk 1 rfl rfl ?_ | ((first | apply oR rfl rfl | (apply dR rfl rfl; focus (first | (apply cF rfl; intro _) | (apply cP rfl; intro _) | (apply cL rfl; intro _)))); focus (first | exact cI rfl (IK rfl) (IK rfl) rfl | exact mF rfl | exact bS rfl (EL rfl) (SZ rfl) (AG rfl) (ZR rfl) rfl rfl rfl rfl rfl rfl rfl | exact nC rfl rfl)) | refine xS ?_ | refine xR ?_ | refine xD false false rfl rfl mixed (by decide +kernel) ?_ | refine xD false true rfl rfl mixed (by decide +kernel) ?_ | refine xD true false rfl rfl mixed (by decide +kernel) ?_ | refine xD true true rfl rfl mixed (by decide +kernel) ?_ | refine xB ?_ | (refine xN ?_; try show PW _ _ _ _ _ _) | (refine xE ?_; try show PW _ _ _ _ _ _) | (refine xT ?_; try show PW _ _ _ _ _ _) | refine xt rfl ?_ | refine xf rfl ?_))
    (first | refine POps_split rfl rfl (fun h => ?_) (fun h => ?_) | refine POpsD_split rfl rfl (fun h => ?_) (fun h => ?_) | refine PW_cond rfl (fun h => ?_) (fun h => ?_))
    · have hlt : i < 4 := by have := of_decide_eq_true h; omega
      have hlt' : i < hd.length := by omega
      have hg := bys_get hlt'
      have hbl := beN_lt (hd.take i)
      have hp : 256 ^ (hd.take i).length ≤ 256 ^ 3 := Nat.pow_le_pow_right (by decide) (by simp; omega)
      have ho := or8i (beN (hd.take i)) hd[i].toNat (by omega) hd[i].toNat_lt
      have htk : beN (hd.take (i + 1)) = beN (hd.take i) * 256 + hd[i].toNat := by rw [List.take_succ_eq_append_getElem hlt', beN_snoc]
      clear h
      (repeat (first | (refine qA ?_; try show PW _ _ _ _ _ _) | (refine qB ?_; try show PW _ _ _ _ _ _) | refine rO tabOk 300 rfl rfl ?_ | refine rO tabOk 6 rfl rfl ?_ | refine rO tabOk 1 rfl rfl ?_ | refine rD tabOk 300 rfl rfl ?_ | refine rD tabOk 6 rfl rfl ?_ | refine rD tabOk 1 rfl rfl ?_ | ((first | apply oR rfl rfl | (apply dR rfl rfl; focus (first | (apply cF rfl; intro _) | (apply cP rfl; intro _) | (apply cL rfl; intro _)))); focus (first | exact iA rfl (EL rfl) (SZ rfl) rfl rfl (Int.natCast_nonneg _) hg rfl | exact PO_shl rfl rfl rfl (by decide) | exact cI rfl (IK rfl) (IK rfl) rfl | exact mF rfl | exact bS rfl (EL rfl) (SZ rfl) (AG rfl) (ZR rfl) rfl rfl rfl rfl rfl rfl rfl | exact nC rfl rfl)) | refine xS ?_ | refine xR ?_ | refine xD false false rfl rfl mixed (by decide +kernel) ?_ | refine xD false true rfl rfl mixed (by decide +kernel) ?_ | refine xD true false rfl rfl mixed (by decide +kernel) ?_ | refine xD true true rfl rfl mixed (by decide +kernel) ?_ | refine xB ?_ | (refine xN ?_; try show PW _ _ _ _ _ _) | (refine xE ?_; try show PW _ _ _ _ _ _) | (refine xT ?_; try show PW _ _ _ _ _ _) | refine xt rfl ?_ | refine xf rfl ?_))
      refine ⟨i + 1, hlt, by omega, SlotsOk.le ⟨.inl rfl, .inl rfl, .inl rfl, .inl ?_, .inl rfl, .inl rfl, .inl (congrArg (fun x => PV.g (.int .i64 x)) (wrap64 (by omega))), trivial⟩, Drops.mk [] [] [] rfl⟩
      rw [htk]
      exact congrArg (fun x => PV.g (.int .i64 x)) ho
    · have hi' : i = 4 := by have := of_decide_eq_false h; omega
      subst hi'
      have htk : hd.take 4 = hd := List.take_of_length_le (by omega)
      rw [htk]
      clear h
      have hbl := beN_lt hd
      rw [h4l] at hbl
      dsimp only at hnx
      generalize beN hd = n at hbl hnx
      (repeat (first | (refine qA ?_; try show PW _ _ _ _ _ _) | (refine qB ?_; try show PW _ _ _ _ _ _) | refine rO tabOk 300 rfl rfl ?_ | refine rO tabOk 6 rfl rfl ?_ | refine rO tabOk 1 rfl rfl ?_ | refine rD tabOk 300 rfl rfl ?_ | refine rD tabOk 6 rfl rfl ?_ | refine rD tabOk 1 rfl rfl ?_ | ((first | apply oR rfl rfl | (apply dR rfl rfl; focus (first | (apply cF rfl; intro _) | (apply cP rfl; intro _) | (apply cL rfl; intro _)))); focus (first | exact cI rfl (IK rfl) (IK rfl) rfl | exact mF rfl | exact bS rfl (EL rfl) (SZ rfl) (AG rfl) (ZR rfl) rfl rfl rfl rfl rfl rfl rfl | exact nC rfl rfl)) | refine xS ?_ | refine xR ?_ | refine xD false false rfl rfl mixed (by decide +kernel) ?_ | refine xD false true rfl rfl mixed (by decide +kernel) ?_ | refine xD true false rfl rfl mixed (by decide +kernel) ?_ | refine xD true true rfl rfl mixed (by decide +kernel) ?_ | refine xB ?_ | (refine xN ?_; try show PW _ _ _ _ _ _) | (refine xE ?_; try show PW _ _ _ _ _ _) | (refine xT ?_; try show PW _ _ _ _ _ _) | refine xt rfl ?_ | refine xf rfl ?_))
      (first | refine POps_split rfl rfl (fun h => ?_) (fun h => ?_) | refine POpsD_split rfl rfl (fun h => ?_) (fun h => ?_) | refine PW_cond rfl (fun h => ?_) (fun h => ?_))
      · have h5 : file.length < at_ + 4 + n := by have := of_decide_eq_true h; rw [hfl, wrap64 (n := (file.length : Int) - at_) (by omega), wrap64 (by omega)] at this; omega
        rw [if_pos h5] at hnx
        rw [hnx]
        (repeat (first | (refine qA ?_; try show PW _ _ _ _ _ _) | (refine qB ?_; try show PW _ _ _ _ _ _) | refine rO tabOk 300 rfl rfl ?_ | refine rO tabOk 6 rfl rfl ?_ | refine rO tabOk 1 rfl rfl ?_ | refine rD tabOk 300 rfl rfl ?_ | refine rD tabOk 6 rfl rfl ?_ | refine rD tabOk 1 rfl rfl ?_ | ((first | apply oR rfl rfl | (apply dR rfl rfl; focus (first | (apply cF rfl; intro _) | (apply cP rfl; intro _) | (apply cL rfl; intro _)))); focus (first | exact cI rfl (IK rfl) (IK rfl) rfl | exact mF rfl | exact bS rfl (EL rfl) (SZ rfl) (AG rfl) (ZR rfl) rfl rfl rfl rfl rfl rfl rfl | exact nC rfl rfl)) | refine xS ?_ | refine xR ?_ | refine xD false false rfl rfl mixed (by decide +kernel) ?_ | refine xD false true rfl rfl mixed (by decide +kernel) ?_ | refine xD true false rfl rfl mixed (by decide +kernel) ?_ | refine xD true true rfl rfl mixed (by decide +kernel) ?_ | refine xB ?_ | (refine xN ?_; try show PW _ _ _ _ _ _) | (refine xE ?_; try show PW _ _ _ _ _ _) | (refine xT ?_; try show PW _ _ _ _ _ _) | refine xt rfl ?_ | refine xf rfl ?_))
        exact Ret_three (vC (vA (AG rfl) (SZ rfl) rfl rfl (lB rfl)) (vC vT (vC vT vN))) rfl rfl rfl rfl
      · have h5 : at_ + 4 + n ≤ file.length := by have := of_decide_eq_false h; rw [hfl, wrap64 (n := (file.length : Int) - at_) (by omega), wrap64 (by omega)] at this; omega
        clear h
        rw [if_neg (by omega)] at hnx
        have hw2 : IntKind.i64.wrap (IntKind.i64.wrap ((at_ : Int) + 4) + (n : Int)) = ((at_ + 4 + n : Nat) : Int) := by rw [hw, wrap64 (by omega)]; omega
        have hpl : ((file.drop (at_ + 4)).take n).length ≤ 1000000 := by simp; omega
        generalize hpt : (file.drop (at_ + 4)).take n = pt at hnx hpl
        have hP := parse_all pt (by omega)
        have hU : (parseT pt).2 = 0 → PC Try.prog 15 [.g (parseT pt).1.g] ⟨[], [], []⟩ (.tuple [.g (unCmd (parseT pt).1).1.g, .g (.int .i64 (unCmd (parseT pt).1).2)]) ⟨[], [], []⟩ := fun h0 => by
          refine unpack_pc _ ?_
          have h6 := (parse_bytes (u := (parseT pt).1) (Prod.ext rfl h0)).1
          have h7 := (bytes_enc h6).1
          have h8 := bulk_enc (parseT pt).1
          omega
        generalize hpr : parseT pt = pr at hP hU hnx
        obtain ⟨⟨t0, t1, t2, t3⟩, e⟩ := pr
        dsimp only at hP hU hnx
        have hsl : List.take (at_ + 4 + n - (at_ + 4)) (List.drop (at_ + 4) file) = pt := by rw [← hpt]; congr 1; omega
        by_cases he : e = 0
        · subst he
          have hU := hU rfl
          rw [if_pos rfl] at hnx
          generalize unCmd (.mk t0 t1 t2 t3) = uc at hU hnx
          obtain ⟨⟨c0, c1, c2, ⟨d0, d1, d2, d3, d4⟩, c4, c5⟩, ue⟩ := uc
          dsimp only at hU hnx
          rw [hnx]
          (repeat (first | (refine qA ?_; try show PW _ _ _ _ _ _) | (refine qB ?_; try show PW _ _ _ _ _ _) | refine rO tabOk 300 rfl rfl ?_ | refine rO tabOk 6 rfl rfl ?_ | refine rO tabOk 1 rfl rfl ?_ | refine rD tabOk 300 rfl rfl ?_ | refine rD tabOk 6 rfl rfl ?_ | refine rD tabOk 1 rfl rfl ?_ | ((first | apply oR rfl rfl | (apply dR rfl rfl; focus (first | (apply cF rfl; intro _) | (apply cP rfl; intro _) | (apply cL rfl; intro _)))); focus (first | exact cl rfl rfl (EN rfl) (hP) rfl rfl rfl | exact cl rfl rfl (EN rfl) (hU) rfl rfl rfl | exact PO_slice_bys pt (at_ + 4) (at_ + 4 + n) rfl (EL rfl) (SZ rfl) rfl rfl rfl hw hw2 (by omega) h5 hsl | exact cI rfl (IK rfl) (IK rfl) rfl | exact mF rfl | exact bS rfl (EL rfl) (SZ rfl) (AG rfl) (ZR rfl) rfl rfl rfl rfl rfl rfl rfl | exact nC rfl rfl)) | (apply dR rfl rfl; focus (first | exact Cond_c (cl rfl rfl (EN rfl) (hP) rfl rfl rfl) | exact Cond_c (cl rfl rfl (EN rfl) (hU) rfl rfl rfl) | exact Cond_c (PO_slice_bys pt (at_ + 4) (at_ + 4 + n) rfl (EL rfl) (SZ rfl) rfl rfl rfl hw hw2 (by omega) h5 hsl))) | refine xS ?_ | refine xR ?_ | refine xD false false rfl rfl mixed (by decide +kernel) ?_ | refine xD false true rfl rfl mixed (by decide +kernel) ?_ | refine xD true false rfl rfl mixed (by decide +kernel) ?_ | refine xD true true rfl rfl mixed (by decide +kernel) ?_ | refine xB ?_ | (refine xN ?_; try show PW _ _ _ _ _ _) | (refine xE ?_; try show PW _ _ _ _ _ _) | (refine xT ?_; try show PW _ _ _ _ _ _) | refine xt rfl ?_ | refine xf rfl ?_))
          exact Ret_three (vC (vA (AG rfl) (SZ rfl) rfl rfl (lB rfl)) (vC vT (vC vT vN))) rfl rfl (congrArg (GV.int .i64) hw2) rfl
        · rw [if_neg he] at hnx
          rw [hnx]
          (repeat (first | (refine qA ?_; try show PW _ _ _ _ _ _) | (refine qB ?_; try show PW _ _ _ _ _ _) | refine rO tabOk 300 rfl rfl ?_ | refine rO tabOk 6 rfl rfl ?_ | refine rO tabOk 1 rfl rfl ?_ | refine rD tabOk 300 rfl rfl ?_ | refine rD tabOk 6 rfl rfl ?_ | refine rD tabOk 1 rfl rfl ?_ | ((first | apply oR rfl rfl | (apply dR rfl rfl; focus (first | (apply cF rfl; intro _) | (apply cP rfl; intro _) | (apply cL rfl; intro _)))); focus (first | exact cl rfl rfl (EN rfl) (hP) rfl rfl rfl | exact PO_slice_bys pt (at_ + 4) (at_ + 4 + n) rfl (EL rfl) (SZ rfl) rfl rfl rfl hw hw2 (by omega) h5 hsl | exact cI rfl (IK rfl) (IK rfl) rfl | exact mF rfl | exact bS rfl (EL rfl) (SZ rfl) (AG rfl) (ZR rfl) rfl rfl rfl rfl rfl rfl rfl | exact nC rfl rfl)) | (apply dR rfl rfl; focus (first | exact Cond_c (cl rfl rfl (EN rfl) (hP) rfl rfl rfl) | exact Cond_c (PO_slice_bys pt (at_ + 4) (at_ + 4 + n) rfl (EL rfl) (SZ rfl) rfl rfl rfl hw hw2 (by omega) h5 hsl))) | refine xS ?_ | refine xR ?_ | refine xD false false rfl rfl mixed (by decide +kernel) ?_ | refine xD false true rfl rfl mixed (by decide +kernel) ?_ | refine xD true false rfl rfl mixed (by decide +kernel) ?_ | refine xD true true rfl rfl mixed (by decide +kernel) ?_ | refine xB ?_ | (refine xN ?_; try show PW _ _ _ _ _ _) | (refine xE ?_; try show PW _ _ _ _ _ _) | (refine xT ?_; try show PW _ _ _ _ _ _) | refine xt rfl ?_ | refine xf rfl ?_))
          (first | refine POps_split rfl rfl (fun h => ?_) (fun h => ?_) | refine POpsD_split rfl rfl (fun h => ?_) (fun h => ?_) | refine PW_cond rfl (fun h => ?_) (fun h => ?_))
          · (repeat (first | (refine qA ?_; try show PW _ _ _ _ _ _) | (refine qB ?_; try show PW _ _ _ _ _ _) | refine rO tabOk 300 rfl rfl ?_ | refine rO tabOk 6 rfl rfl ?_ | refine rO tabOk 1 rfl rfl ?_ | refine rD tabOk 300 rfl rfl ?_ | refine rD tabOk 6 rfl rfl ?_ | refine rD tabOk 1 rfl rfl ?_ | ((first | apply oR rfl rfl | (apply dR rfl rfl; focus (first | (apply cF rfl; intro _) | (apply cP rfl; intro _) | (apply cL rfl; intro _)))); focus (first | exact cI rfl (IK rfl) (IK rfl) rfl | exact mF rfl | exact bS rfl (EL rfl) (SZ rfl) (AG rfl) (ZR rfl) rfl rfl rfl rfl rfl rfl rfl | exact nC rfl rfl)) | refine xS ?_ | refine xR ?_ | refine xD false false rfl rfl mixed (by decide +kernel) ?_ | refine xD false true rfl rfl mixed (by decide +kernel) ?_ | refine xD true false rfl rfl mixed (by decide +kernel) ?_ | refine xD true true rfl rfl mixed (by decide +kernel) ?_ | refine xB ?_ | (refine xN ?_; try show PW _ _ _ _ _ _) | (refine xE ?_; try show PW _ _ _ _ _ _) | (refine xT ?_; try show PW _ _ _ _ _ _) | refine xt rfl ?_ | refine xf rfl ?_))
            exact Ret_three (vC (vA (AG rfl) (SZ rfl) rfl rfl (lB rfl)) (vC vT (vC vT vN))) rfl rfl rfl rfl
          · exact absurd (by simpa [bne] using h) he
end Go.Proofs.Ytffpepmfdjjjaaa

namespace Go.Proofs.Ytffpepmfdjjjaaa
open Go.Pure
attribute [local irreducible] PW POps POpsD PO PC Cond

def writeJ : List VCmd → List UInt8 → List UInt8 × Int
  | [], f => (f, 0)
  | c :: r, f => if (appendJ f c).2 = 0 then writeJ r (appendJ f c).1 else ([], (appendJ f c).2)
theorem append_len {file : List UInt8} {c : VCmd} (h : (appendJ file c).2 = 0) : (appendJ file c).1.length ≤ 1000000 := by
  unfold appendJ at h ⊢
  split at h
  · split at h
    · cases h
    · rename_i h1 h2
      rw [if_pos h1, if_neg h2]
      simp [be4]
      omega
  · rename_i h1
    exact absurd h h1

set_option maxRecDepth 100000 in
set_option maxHeartbeats 8000000 in
theorem write_pc (l : List VCmd) (hb : gbulks (l.map VCmd.g) ≤ 1048576) : PC Try.prog 32 [.g (.sl (VCmd.gs l))] ⟨[], [], []⟩ (.tuple [.g (.sl (bys (writeJ l []).1)), .g (.int .i64 (writeJ l []).2)]) ⟨[], [], []⟩ := by
  have hln : l.length ≤ 1048576 := by have := map_len VCmd.one l; omega
  have hgl : (VCmd.gs l).length = l.length := by simp [VCmd.gs]
  refine PC_of_PW Try.func32 rfl rfl (rs := _) rfl (Nat.le_of_ble_eq_true (by kernel_rfl)) ?_
  (repeat (first | (refine qA ?_; try show PW _ _ _ _ _ _) | (refine qB ?_; try show PW _ _ _ _ _ _) | refine rO tabOk 300 rfl rfl ?_ | refine rO tabOk 6 rfl rfl ?_ | refine rO tabOk 1 rfl rfl ?_ | refine rD tabOk 300 rfl rfl ?_ | refine rD tabOk 6 rfl rfl ?_ | refine rD tabOk 1 rfl rfl ?_ | ((first | apply oR rfl rfl | (apply dR rfl rfl; focus (first | (apply cF rfl; intro _) | (apply cP rfl; intro _) | (apply cL rfl; intro _)))); focus (first | exact cI rfl (IK rfl) (IK rfl) rfl | exact mF rfl | exact bS rfl (EL rfl) (SZ rfl) (AG rfl) (ZR rfl) rfl rfl rfl rfl rfl rfl rfl | exact nC rfl rfl)) | refine xS ?_ | refine xR ?_ | refine xD false false rfl rfl mixed (by decide +kernel) ?_ | refine xD false true rfl rfl mixed (by decide +kernel) ?_ | refine xD true false rfl rfl mixed (by decide +kernel) ?_ | refine xD true true rfl rfl mixed (by decide +kernel) ?_ | refine xB ?_ | (refine xN ?_; try show PW _ _ _ _ _ _) | (refine xE ?_; try show PW _ _ _ _ _ _) | (refine xT ?_; try show PW _ _ _ _ _ _) | refine xt rfl ?_ | refine xf rfl ?_))
  refine PW_loop_cut (S := Nat × List UInt8) (fun s => [(4, .g (.sl (bys s.2))), (8, .g (.sl (VCmd.gs l))), (9, .g (.int .i64 l.length)), (10, .g (.int .i64 s.1))])
    (fun _ => ⟨[], [], []⟩) (fun s => s.1 ≤ l.length ∧ s.2.length ≤ 1000000 ∧ writeJ (l.drop s.1) s.2 = writeJ l []) (fun s => l.length - s.1) (0, []) ⟨Nat.zero_le _, by simp, rfl⟩
    (SlotsOk.le ⟨.inr rfl, .inl rfl, .inl (congrArg (fun k : Nat => PV.g (.int .i64 k)) hgl), .inl rfl, trivial⟩) (HLe.of_eq rfl) (fun _ => rfl) (fun s hs => ?_)
  obtain ⟨i, f⟩ := s
  obtain ⟨hi, hfl, hgo⟩ := hs
  dsimp only at hi hfl hgo
  (repeat (first | (refine qA ?_; try show PW _ _ _ _ _ _) | (refine qB ?_; try show PW _ _ _ _ _ _) | refine rO tabOk 300 rfl rfl ?_ | refine rO tabOk 6 rfl rfl ?_ | refine rO tabOk 1 rfl rfl ?_ | refine rD tabOk 300 rfl rfl ?_ | refine rD tabOk 6 rfl rfl ?_ | refine rD tabOk 1 rfl rfl ?_ | ((first | apply oR rfl rfl | (apply dR rfl rfl; focus (first | (apply cF rfl; intro _) | (apply cP rfl; intro _) | (apply cL rfl; intro _)))); focus (first | exact cI rfl (IK rfl) (IK rfl) rfl | exact mF rfl | exact bS rfl (EL rfl) (SZ rfl) (AG rfl) (ZR rfl) rfl rfl rfl rfl rfl rfl rfl | exact nC rfl rfl)) | refine xS ?_ | refine xR ?_ | refine xD false false rfl rfl mixed (by decide +kernel) ?_ | refine xD false true rfl rfl mixed (by decide +kernel) ?_ | refine xD true false rfl rfl mixed (by decide +kernel) ?_ | refine xD true true rfl rfl mixed (by decide +kernel) ?_ | refine xB ?_ | (refine xN ?_; try show PW _ _ _ _ _ _) | (refine xE ?_; try show PW _ _ _ _ _ _) | (refine xT ?_; try show PW _ _ _ _ _ _) | refine xt rfl ?_ | refine xf rfl ?_))
  (first | refine POps_split rfl rfl (fun h => ?_) (fun h => ?_) | refine POpsD_split rfl rfl (fun h => ?_) (fun h => ?_) | refine PW_cond rfl (fun h => ?_) (fun h => ?_))
  · have hlt : i < l.length := by have := of_decide_eq_true h; dsimp only at this; omega
    have hg : (VCmd.gs l)[((i : Int)).toNat]? = some l[i].g := map_get hlt
    have hdr : l.drop i = l[i] :: l.drop (i + 1) := List.drop_eq_getElem_cons hlt
    have hA := append_pc f l[i] (by have := map_bulk (f := VCmd.g) hlt; omega) (by omega)
    have hAl := append_len (file := f) (c := l[i])
    rw [hdr, writeJ] at hgo
    generalize l[i] = c at hg hA hAl hgo
    generalize appendJ f c = r at hA hAl hgo
    obtain ⟨f', e⟩ := r
    obtain ⟨session, seq, kind, ⟨tname, policy, ins, outs, rules⟩, name, to⟩ := c
    dsimp only at hA hAl hgo
    clear h
    (repeat (first | (refine qA ?_; try show PW _ _ _ _ _ _) | (refine qB ?_; try show PW _ _ _ _ _ _) | refine rO tabOk 300 rfl rfl ?_ | refine rO tabOk 6 rfl rfl ?_ | refine rO tabOk 1 rfl rfl ?_ | refine rD tabOk 300 rfl rfl ?_ | refine rD tabOk 6 rfl rfl ?_ | refine rD tabOk 1 rfl rfl ?_ | ((first | apply oR rfl rfl | (apply dR rfl rfl; focus (first | (apply cF rfl; intro _) | (apply cP rfl; intro _) | (apply cL rfl; intro _)))); focus (first | exact iA rfl (EL rfl) (SZ rfl) rfl rfl (Int.natCast_nonneg _) hg rfl | exact cl rfl rfl (EN rfl) (hA) rfl rfl rfl | exact cI rfl (IK rfl) (IK rfl) rfl | exact mF rfl | exact bS rfl (EL rfl) (SZ rfl) (AG rfl) (ZR rfl) rfl rfl rfl rfl rfl rfl rfl | exact nC rfl rfl)) | (apply dR rfl rfl; focus (first | exact Cond_c (cl rfl rfl (EN rfl) (hA) rfl rfl rfl))) | refine xS ?_ | refine xR ?_ | refine xD false false rfl rfl mixed (by decide +kernel) ?_ | refine xD false true rfl rfl mixed (by decide +kernel) ?_ | refine xD true false rfl rfl mixed (by decide +kernel) ?_ | refine xD true true rfl rfl mixed (by decide +kernel) ?_ | refine xB ?_ | (refine xN ?_; try show PW _ _ _ _ _ _) | (refine xE ?_; try show PW _ _ _ _ _ _) | (refine xT ?_; try show PW _ _ _ _ _ _) | refine xt rfl ?_ | refine xf rfl ?_))
    (first | refine POps_split rfl rfl (fun h => ?_) (fun h => ?_) | refine POpsD_split rfl rfl (fun h => ?_) (fun h => ?_) | refine PW_cond rfl (fun h => ?_) (fun h => ?_))
    · have he : ¬ e = 0 := by simpa [bne] using h
      rw [if_neg he] at hgo
      (repeat (first | (refine qA ?_; try show PW _ _ _ _ _ _) | (refine qB ?_; try show PW _ _ _ _ _ _) | refine rO tabOk 300 rfl rfl ?_ | refine rO tabOk 6 rfl rfl ?_ | refine rO tabOk 1 rfl rfl ?_ | refine rD tabOk 300 rfl rfl ?_ | refine rD tabOk 6 rfl rfl ?_ | refine rD tabOk 1 rfl rfl ?_ | ((first | apply oR rfl rfl | (apply dR rfl rfl; focus (first | (apply cF rfl; intro _) | (apply cP rfl; intro _) | (apply cL rfl; intro _)))); focus (first | exact cI rfl (IK rfl) (IK rfl) rfl | exact mF rfl | exact bS rfl (EL rfl) (SZ rfl) (AG rfl) (ZR rfl) rfl rfl rfl rfl rfl rfl rfl | exact nC rfl rfl)) | refine xS ?_ | refine xR ?_ | refine xD false false rfl rfl mixed (by decide +kernel) ?_ | refine xD false true rfl rfl mixed (by decide +kernel) ?_ | refine xD true false rfl rfl mixed (by decide +kernel) ?_ | refine xD true true rfl rfl mixed (by decide +kernel) ?_ | refine xB ?_ | (refine xN ?_; try show PW _ _ _ _ _ _) | (refine xE ?_; try show PW _ _ _ _ _ _) | (refine xT ?_; try show PW _ _ _ _ _ _) | refine xt rfl ?_ | refine xf rfl ?_))
      exact Ret_two (vC vT (vC vT vN)) rfl (by rw [← hgo]; rfl) (by rw [← hgo])
    · have he : e = 0 := by simpa [bne] using h
      rw [if_pos he] at hgo
      (repeat (first | (refine qA ?_; try show PW _ _ _ _ _ _) | (refine qB ?_; try show PW _ _ _ _ _ _) | refine rO tabOk 300 rfl rfl ?_ | refine rO tabOk 6 rfl rfl ?_ | refine rO tabOk 1 rfl rfl ?_ | refine rD tabOk 300 rfl rfl ?_ | refine rD tabOk 6 rfl rfl ?_ | refine rD tabOk 1 rfl rfl ?_ | ((first | apply oR rfl rfl | (apply dR rfl rfl; focus (first | (apply cF rfl; intro _) | (apply cP rfl; intro _) | (apply cL rfl; intro _)))); focus (first | exact cI rfl (IK rfl) (IK rfl) rfl | exact mF rfl | exact bS rfl (EL rfl) (SZ rfl) (AG rfl) (ZR rfl) rfl rfl rfl rfl rfl rfl rfl | exact nC rfl rfl)) | refine xS ?_ | refine xR ?_ | refine xD false false rfl rfl mixed (by decide +kernel) ?_ | refine xD false true rfl rfl mixed (by decide +kernel) ?_ | refine xD true false rfl rfl mixed (by decide +kernel) ?_ | refine xD true true rfl rfl mixed (by decide +kernel) ?_ | refine xB ?_ | (refine xN ?_; try show PW _ _ _ _ _ _) | (refine xE ?_; try show PW _ _ _ _ _ _) | (refine xT ?_; try show PW _ _ _ _ _ _) | refine xt rfl ?_ | refine xf rfl ?_))
      refine ⟨(i + 1, f'), ⟨hlt, hAl he, hgo⟩, by dsimp only; omega, SlotsOk.le ⟨.inl rfl, .inl rfl, .inl rfl, .inl (congrArg (fun k => PV.g (.int .i64 k)) (wrap64 (by dsimp only; omega))), trivial⟩, Drops.mk [(VCmd.mk session seq kind ⟨tname, policy, ins, outs, rules⟩ name to).g.cells.map PV.g] [] [] rfl⟩
  · have hi' : i = l.length := by have := of_decide_eq_false h; dsimp only at this; omega
    subst hi'
    rw [List.drop_length, writeJ] at hgo
    (repeat (first | (refine qA ?_; try show PW _ _ _ _ _ _) | (refine qB ?_; try show PW _ _ _ _ _ _) | refine rO tabOk 300 rfl rfl ?_ | refine rO tabOk 6 rfl rfl ?_ | refine rO tabOk 1 rfl rfl ?_ | refine rD tabOk 300 rfl rfl ?_ | refine rD tabOk 6 rfl rfl ?_ | refine rD tabOk 1 rfl rfl ?_ | ((first | apply oR rfl rfl | (apply dR rfl rfl; focus (first | (apply cF rfl; intro _) | (apply cP rfl; intro _) | (apply cL rfl; intro _)))); focus (first | exact cI rfl (IK rfl) (IK rfl) rfl | exact mF rfl | exact bS rfl (EL rfl) (SZ rfl) (AG rfl) (ZR rfl) rfl rfl rfl rfl rfl rfl rfl | exact nC rfl rfl)) | refine xS ?_ | refine xR ?_ | refine xD false false rfl rfl mixed (by decide +kernel) ?_ | refine xD false true rfl rfl mixed (by decide +kernel) ?_ | refine xD true false rfl rfl mixed (by decide +kernel) ?_ | refine xD true true rfl rfl mixed (by decide +kernel) ?_ | refine xB ?_ | (refine xN ?_; try show PW _ _ _ _ _ _) | (refine xE ?_; try show PW _ _ _ _ _ _) | (refine xT ?_; try show PW _ _ _ _ _ _) | refine xt rfl ?_ | refine xf rfl ?_))
    exact Ret_two (vC vT (vC vT vN)) rfl (by rw [← hgo]) (by rw [← hgo]; rfl)

/-- The commands of the records from a place on, and where they end: so many at most. -/
def recX : Nat → List UInt8 → Nat → List VCmd × Nat
  | 0, _, at_ => ([], at_)
  | k + 1, file, at_ => if (nextX file at_).2.2 = true then ((nextX file at_).1 :: (recX k file (nextX file at_).2.1.toNat).1, (recX k file (nextX file at_).2.1.toNat).2) else ([], at_)
def recoverJ (file : List UInt8) : List VCmd × Nat × Int := if 1000000 < file.length then ([], 0, 4) else ((recX (file.length + 1) file 0).1, (recX (file.length + 1) file 0).2, 0)
theorem next_end {file : List UInt8} {at_ : Nat} (h : (nextX file at_).2.2 = true) : ∃ e : Nat, (nextX file at_).2.1 = e ∧ at_ + 4 ≤ e ∧ e ≤ file.length := by
  unfold nextX at h ⊢
  split at h
  · cases h
  · rename_i h1
    rw [if_neg h1]
    dsimp only at h ⊢
    split at h
    · cases h
    · rename_i h2
      rw [if_neg h2]
      split at h
      · rename_i h3
        rw [if_pos h3]
        exact ⟨_, rfl, by omega, by omega⟩
      · cases h

set_option maxRecDepth 100000 in
set_option maxHeartbeats 8000000 in
theorem recover_pc (file : List UInt8) : PC Try.prog 29 [.g (.sl (bys file))] ⟨[], [], []⟩ (.tuple [.g (.sl (VCmd.gs (recoverJ file).1)), .g (.int .i64 (recoverJ file).2.1), .g (.int .i64 (recoverJ file).2.2)]) ⟨[], [], []⟩ := by
  have hfl : (bys file).length = file.length := bys_len file
  unfold recoverJ
  refine PC_of_PW Try.func29 rfl rfl (rs := _) rfl (Nat.le_of_ble_eq_true (by kernel_rfl)) ?_
  (repeat (first | (refine qA ?_; try show PW _ _ _ _ _ _) | (refine qB ?_; try show PW _ _ _ _ _ _) | refine rO tabOk 300 rfl rfl ?_ | refine rO tabOk 6 rfl rfl ?_ | refine rO tabOk 1 rfl rfl ?_ | refine rD tabOk 300 rfl rfl ?_ | refine rD tabOk 6 rfl rfl ?_ | refine rD tabOk 1 rfl rfl ?_ | ((first | apply oR rfl rfl | (apply dR rfl rfl; focus (first | (apply cF rfl; intro _) | (apply cP rfl; intro _) | (apply cL rfl; intro _)))); focus (first | exact cI rfl (IK rfl) (IK rfl) rfl | exact mF rfl | exact bS rfl (EL rfl) (SZ rfl) (AG rfl) (ZR rfl) rfl rfl rfl rfl rfl rfl rfl | exact nC rfl rfl)) | refine xS ?_ | refine xR ?_ | refine xD false false rfl rfl mixed (by decide +kernel) ?_ | refine xD false true rfl rfl mixed (by decide +kernel) ?_ | refine xD true false rfl rfl mixed (by decide +kernel) ?_ | refine xD true true rfl rfl mixed (by decide +kernel) ?_ | refine xB ?_ | (refine xN ?_; try show PW _ _ _ _ _ _) | (refine xE ?_; try show PW _ _ _ _ _ _) | (refine xT ?_; try show PW _ _ _ _ _ _) | refine xt rfl ?_ | refine xf rfl ?_))
  (first | refine POps_split rfl rfl (fun h => ?_) (fun h => ?_) | refine POpsD_split rfl rfl (fun h => ?_) (fun h => ?_) | refine PW_cond rfl (fun h => ?_) (fun h => ?_))
  · have h1 : 1000000 < file.length := by have := of_decide_eq_true h; rw [hfl] at this; omega
    rw [if_pos h1]
    (repeat (first | (refine qA ?_; try show PW _ _ _ _ _ _) | (refine qB ?_; try show PW _ _ _ _ _ _) | refine rO tabOk 300 rfl rfl ?_ | refine rO tabOk 6 rfl rfl ?_ | refine rO tabOk 1 rfl rfl ?_ | refine rD tabOk 300 rfl rfl ?_ | refine rD tabOk 6 rfl rfl ?_ | refine rD tabOk 1 rfl rfl ?_ | ((first | apply oR rfl rfl | (apply dR rfl rfl; focus (first | (apply cF rfl; intro _) | (apply cP rfl; intro _) | (apply cL rfl; intro _)))); focus (first | exact cI rfl (IK rfl) (IK rfl) rfl | exact mF rfl | exact bS rfl (EL rfl) (SZ rfl) (AG rfl) (ZR rfl) rfl rfl rfl rfl rfl rfl rfl | exact nC rfl rfl)) | refine xS ?_ | refine xR ?_ | refine xD false false rfl rfl mixed (by decide +kernel) ?_ | refine xD false true rfl rfl mixed (by decide +kernel) ?_ | refine xD true false rfl rfl mixed (by decide +kernel) ?_ | refine xD true true rfl rfl mixed (by decide +kernel) ?_ | refine xB ?_ | (refine xN ?_; try show PW _ _ _ _ _ _) | (refine xE ?_; try show PW _ _ _ _ _ _) | (refine xT ?_; try show PW _ _ _ _ _ _) | refine xt rfl ?_ | refine xf rfl ?_))
    exact Ret_three (vC vT (vC vT (vC vT vN))) rfl rfl rfl rfl
  · have h1 : ¬ 1000000 < file.length := by have := of_decide_eq_false h; rw [hfl] at this; omega
    clear h
    rw [if_neg h1]
    generalize hR : recX (file.length + 1) file 0 = R
    dsimp only
    (repeat (first | (refine qA ?_; try show PW _ _ _ _ _ _) | (refine qB ?_; try show PW _ _ _ _ _ _) | refine rO tabOk 300 rfl rfl ?_ | refine rO tabOk 6 rfl rfl ?_ | refine rO tabOk 1 rfl rfl ?_ | refine rD tabOk 300 rfl rfl ?_ | refine rD tabOk 6 rfl rfl ?_ | refine rD tabOk 1 rfl rfl ?_ | ((first | apply oR rfl rfl | (apply dR rfl rfl; focus (first | (apply cF rfl; intro _) | (apply cP rfl; intro _) | (apply cL rfl; intro _)))); focus (first | exact cI rfl (IK rfl) (IK rfl) rfl | exact mF rfl | exact bS rfl (EL rfl) (SZ rfl) (AG rfl) (ZR rfl) rfl rfl rfl rfl rfl rfl rfl | exact nC rfl rfl)) | refine xS ?_ | refine xR ?_ | refine xD false false rfl rfl mixed (by decide +kernel) ?_ | refine xD false true rfl rfl mixed (by decide +kernel) ?_ | refine xD true false rfl rfl mixed (by decide +kernel) ?_ | refine xD true true rfl rfl mixed (by decide +kernel) ?_ | refine xB ?_ | (refine xN ?_; try show PW _ _ _ _ _ _) | (refine xE ?_; try show PW _ _ _ _ _ _) | (refine xT ?_; try show PW _ _ _ _ _ _) | refine xt rfl ?_ | refine xf rfl ?_))
    refine PW_buf 5 27 (SZ rfl) rfl ?_
    refine PW_loop_cut (S := Nat × Nat × List VCmd) (fun s => [(0, .g (.sl (bys file))), (5, .own (VCmd.gs s.2.2) 0), (6, .g (.int .i64 s.2.1))])
      (fun s => ⟨[], [(27, s.2.2.length)], []⟩) (fun s => s.2.1 ≤ file.length ∧ file.length - s.2.1 < s.1 ∧ s.2.2.length ≤ s.2.1 ∧ (s.2.2 ++ (recX s.1 file s.2.1).1, (recX s.1 file s.2.1).2) = R) (fun s => file.length - s.2.1) (file.length + 1, 0, []) ⟨Nat.zero_le _, by dsimp only; omega, by simp, by rw [← hR]; simp⟩
      (SlotsOk.le ⟨.inl rfl, .inl rfl, .inl rfl, trivial⟩) (HLe.of_eq rfl) (fun _ => rfl) (fun s hs => ?_)
    obtain ⟨k, at_, acc⟩ := s
    obtain ⟨ha, hk, hacc, hgo⟩ := hs
    dsimp only at ha hk hacc hgo
    cases k with
    | zero => omega
    | succ k =>
      have hN := next_pc file at_ (by omega) ha
      have hE := next_end (file := file) (at_ := at_)
      rw [recX] at hgo
      generalize nextX file at_ = nx at hN hE hgo
      obtain ⟨c, e, ok⟩ := nx
      obtain ⟨session, seq, kind, ⟨tname, policy, ins, outs, rules⟩, name, to⟩ := c
      dsimp only at hN hE hgo
      cases ok with
      | false =>
        rw [if_neg (by decide)] at hgo
        (repeat (first | (refine qA ?_; try show PW _ _ _ _ _ _) | (refine qB ?_; try show PW _ _ _ _ _ _) | refine rO tabOk 300 rfl rfl ?_ | refine rO tabOk 6 rfl rfl ?_ | refine rO tabOk 1 rfl rfl ?_ | refine rD tabOk 300 rfl rfl ?_ | refine rD tabOk 6 rfl rfl ?_ | refine rD tabOk 1 rfl rfl ?_ | ((first | apply oR rfl rfl | (apply dR rfl rfl; focus (first | (apply cF rfl; intro _) | (apply cP rfl; intro _) | (apply cL rfl; intro _)))); focus (first | exact cl rfl rfl (EN rfl) (hN) rfl rfl rfl | exact cI rfl (IK rfl) (IK rfl) rfl | exact mF rfl | exact bS rfl (EL rfl) (SZ rfl) (AG rfl) (ZR rfl) rfl rfl rfl rfl rfl rfl rfl | exact nC rfl rfl)) | (apply dR rfl rfl; focus (first | exact Cond_c (cl rfl rfl (EN rfl) (hN) rfl rfl rfl))) | refine xS ?_ | refine xR ?_ | refine xD false false rfl rfl mixed (by decide +kernel) ?_ | refine xD false true rfl rfl mixed (by decide +kernel) ?_ | refine xD true false rfl rfl mixed (by decide +kernel) ?_ | refine xD true true rfl rfl mixed (by decide +kernel) ?_ | refine xB ?_ | (refine xN ?_; try show PW _ _ _ _ _ _) | (refine xE ?_; try show PW _ _ _ _ _ _) | (refine xT ?_; try show PW _ _ _ _ _ _) | refine xt rfl ?_ | refine xf rfl ?_))
        refine Ret_three (vC vT (vC vT (vC vT vN))) rfl ?_ ?_ rfl
        · rw [← hgo]; simp
        · rw [← hgo]
      | true =>
        obtain ⟨e', rfl, he1, he2⟩ := hE rfl
        rw [if_pos rfl] at hgo
        have hxs : ∀ x ∈ [(VCmd.mk session seq kind ⟨tname, policy, ins, outs, rules⟩ name to).g], x.cells.length = 10 := by
          intro x hx; rw [List.mem_singleton.1 hx]; exact VCmd.cells _
        (repeat (first | (refine qA ?_; try show PW _ _ _ _ _ _) | (refine qB ?_; try show PW _ _ _ _ _ _) | refine rO tabOk 300 rfl rfl ?_ | refine rO tabOk 6 rfl rfl ?_ | refine rO tabOk 1 rfl rfl ?_ | refine rD tabOk 300 rfl rfl ?_ | refine rD tabOk 6 rfl rfl ?_ | refine rD tabOk 1 rfl rfl ?_ | ((first | apply oR rfl rfl | (apply dR rfl rfl; focus (first | (apply cF rfl; intro _) | (apply cP rfl; intro _) | (apply cL rfl; intro _)))); focus (first | exact cl rfl rfl (EN rfl) (hN) rfl rfl rfl | exact aP (xs := [(VCmd.mk session seq kind ⟨tname, policy, ins, outs, rules⟩ name to).g]) rfl (EL rfl) (SZ rfl) (BY rfl) (ZR rfl) rfl rfl rfl rfl (by simp [VCmd.gs]) hxs (by simp; omega) (by simp [maxLen]; omega) | exact cI rfl (IK rfl) (IK rfl) rfl | exact mF rfl | exact bS rfl (EL rfl) (SZ rfl) (AG rfl) (ZR rfl) rfl rfl rfl rfl rfl rfl rfl | exact nC rfl rfl)) | (apply dR rfl rfl; focus (first | exact Cond_c (cl rfl rfl (EN rfl) (hN) rfl rfl rfl) | exact Cond_c (aP (xs := [(VCmd.mk session seq kind ⟨tname, policy, ins, outs, rules⟩ name to).g]) rfl (EL rfl) (SZ rfl) (BY rfl) (ZR rfl) rfl rfl rfl rfl (by simp [VCmd.gs]) hxs (by simp; omega) (by simp [maxLen]; omega)))) | refine xS ?_ | refine xR ?_ | refine xD false false rfl rfl mixed (by decide +kernel) ?_ | refine xD false true rfl rfl mixed (by decide +kernel) ?_ | refine xD true false rfl rfl mixed (by decide +kernel) ?_ | refine xD true true rfl rfl mixed (by decide +kernel) ?_ | refine xB ?_ | (refine xN ?_; try show PW _ _ _ _ _ _) | (refine xE ?_; try show PW _ _ _ _ _ _) | (refine xT ?_; try show PW _ _ _ _ _ _) | refine xt rfl ?_ | refine xf rfl ?_))
        refine ⟨(k, e', acc ++ [.mk session seq kind ⟨tname, policy, ins, outs, rules⟩ name to]), ⟨he2, by dsimp only; omega, by simp; omega, ?_⟩, by dsimp only; omega, SlotsOk.le ⟨.inl rfl, .inl ?_, .inl rfl, trivial⟩, Drops.mk [(VCmd.mk session seq kind ⟨tname, policy, ins, outs, rules⟩ name to).g.cells.map PV.g] [] [] ?_⟩
        · rw [← hgo]
          simp
        · simp only [VCmd.gs, List.map_append]; rfl
        · simp only [List.length_append]; rfl

set_option maxRecDepth 100000 in
set_option maxHeartbeats 4000000 in
theorem samecmds_pc (l : List VCmd) (hb : gbulks (l.map VCmd.g) ≤ 1000000000) : PC Try.prog 31 [.g (.sl (VCmd.gs l)), .g (.sl (VCmd.gs l))] ⟨[], [], []⟩ (.g (.bool true)) ⟨[], [], []⟩ := by
  have hln := map_len VCmd.one l
  have hgl : (VCmd.gs l).length = l.length := by simp [VCmd.gs]
  refine PC_of_PW Try.func31 rfl rfl (rs := _) rfl (Nat.le_of_ble_eq_true (by kernel_rfl)) ?_
  (repeat' (first | (first | (refine qA ?_; try show PW _ _ _ _ _ _) | (refine qB ?_; try show PW _ _ _ _ _ _) | refine rO tabOk 300 rfl rfl ?_ | refine rO tabOk 6 rfl rfl ?_ | refine rO tabOk 1 rfl rfl ?_ | refine rD tabOk 300 rfl rfl ?_ | refine rD tabOk 6 rfl rfl ?_ | refine rD tabOk 1 rfl rfl ?_ | ((first | apply oR rfl rfl | (apply dR rfl rfl; focus (first | (apply cF rfl; intro _) | (apply cP rfl; intro _) | (apply cL rfl; intro _)))); focus (first | exact cI rfl (IK rfl) (IK rfl) rfl | exact mF rfl | exact bS rfl (EL rfl) (SZ rfl) (AG rfl) (ZR rfl) rfl rfl rfl rfl rfl rfl rfl | exact nC rfl rfl)) | refine xU [3] rfl ?_ | refine xR ?_ | refine xD false false rfl rfl mixed (by decide +kernel) ?_ | refine xD false true rfl rfl mixed (by decide +kernel) ?_ | refine xD true false rfl rfl mixed (by decide +kernel) ?_ | refine xD true true rfl rfl mixed (by decide +kernel) ?_ | refine xB ?_ | (refine xN ?_; try show PW _ _ _ _ _ _) | (refine xE ?_; try show PW _ _ _ _ _ _) | (refine xT ?_; try show PW _ _ _ _ _ _) | refine xt rfl ?_ | refine xf rfl ?_) | refine POps_split rfl rfl (fun h => ?_) (fun h => ?_) | refine POpsD_split rfl rfl (fun h => ?_) (fun h => ?_) | refine PW_cond rfl (fun h => ?_) (fun h => ?_)))
  all_goals (try (exfalso; simp at h; done))
  clear h
  (repeat (first | (refine qA ?_; try show PW _ _ _ _ _ _) | (refine qB ?_; try show PW _ _ _ _ _ _) | refine rO tabOk 300 rfl rfl ?_ | refine rO tabOk 6 rfl rfl ?_ | refine rO tabOk 1 rfl rfl ?_ | refine rD tabOk 300 rfl rfl ?_ | refine rD tabOk 6 rfl rfl ?_ | refine rD tabOk 1 rfl rfl ?_ | ((first | apply oR rfl rfl | (apply dR rfl rfl; focus (first | (apply cF rfl; intro _) | (apply cP rfl; intro _) | (apply cL rfl; intro _)))); focus (first | exact cI rfl (IK rfl) (IK rfl) rfl | exact mF rfl | exact bS rfl (EL rfl) (SZ rfl) (AG rfl) (ZR rfl) rfl rfl rfl rfl rfl rfl rfl | exact nC rfl rfl)) | refine xS ?_ | refine xR ?_ | refine xD false false rfl rfl mixed (by decide +kernel) ?_ | refine xD false true rfl rfl mixed (by decide +kernel) ?_ | refine xD true false rfl rfl mixed (by decide +kernel) ?_ | refine xD true true rfl rfl mixed (by decide +kernel) ?_ | refine xB ?_ | (refine xN ?_; try show PW _ _ _ _ _ _) | (refine xE ?_; try show PW _ _ _ _ _ _) | (refine xT ?_; try show PW _ _ _ _ _ _) | refine xt rfl ?_ | refine xf rfl ?_))
  refine PW_loop (S := Nat) (fun i => slots [(0, .g (.sl (VCmd.gs l))), (1, .g (.sl (VCmd.gs l))), (12, .g (.int .i64 l.length)), (13, .g (.int .i64 i))])
    (fun _ => ⟨[], [], []⟩) (fun i => i ≤ l.length) (fun i => l.length - i) 0 (Nat.zero_le _)
    (SlotsOk.le ⟨.inl rfl, .inl rfl, .inl (congrArg (fun k : Nat => PV.g (.int .i64 k)) hgl), .inl rfl, trivial⟩) (HLe.of_eq rfl) (fun i hi => ?_)
  (repeat (first | (refine qA ?_; try show PW _ _ _ _ _ _) | (refine qB ?_; try show PW _ _ _ _ _ _) | refine rO tabOk 300 rfl rfl ?_ | refine rO tabOk 6 rfl rfl ?_ | refine rO tabOk 1 rfl rfl ?_ | refine rD tabOk 300 rfl rfl ?_ | refine rD tabOk 6 rfl rfl ?_ | refine rD tabOk 1 rfl rfl ?_ | ((first | apply oR rfl rfl | (apply dR rfl rfl; focus (first | (apply cF rfl; intro _) | (apply cP rfl; intro _) | (apply cL rfl; intro _)))); focus (first | exact cI rfl (IK rfl) (IK rfl) rfl | exact mF rfl | exact bS rfl (EL rfl) (SZ rfl) (AG rfl) (ZR rfl) rfl rfl rfl rfl rfl rfl rfl | exact nC rfl rfl)) | refine xS ?_ | refine xR ?_ | refine xD false false rfl rfl mixed (by decide +kernel) ?_ | refine xD false true rfl rfl mixed (by decide +kernel) ?_ | refine xD true false rfl rfl mixed (by decide +kernel) ?_ | refine xD true true rfl rfl mixed (by decide +kernel) ?_ | refine xB ?_ | (refine xN ?_; try show PW _ _ _ _ _ _) | (refine xE ?_; try show PW _ _ _ _ _ _) | (refine xT ?_; try show PW _ _ _ _ _ _) | refine xt rfl ?_ | refine xf rfl ?_))
  (first | refine POps_split rfl rfl (fun h => ?_) (fun h => ?_) | refine POpsD_split rfl rfl (fun h => ?_) (fun h => ?_) | refine PW_cond rfl (fun h => ?_) (fun h => ?_))
  · have hlt : i < l.length := by have := of_decide_eq_true h; omega
    have hg : (VCmd.gs l)[((i : Int)).toNat]? = some l[i].g := map_get hlt
    have hC := samecmd_pc l[i] (by have := map_bulk (f := VCmd.g) hlt; omega)
    generalize l[i] = x at hg hC
    obtain ⟨session, seq, kind, ⟨tname, policy, ins, outs, rules⟩, name, to⟩ := x
    (repeat (first | (refine qA ?_; try show PW _ _ _ _ _ _) | (refine qB ?_; try show PW _ _ _ _ _ _) | refine rO tabOk 300 rfl rfl ?_ | refine rO tabOk 6 rfl rfl ?_ | refine rO tabOk 1 rfl rfl ?_ | refine rD tabOk 300 rfl rfl ?_ | refine rD tabOk 6 rfl rfl ?_ | refine rD tabOk 1 rfl rfl ?_ | ((first | apply oR rfl rfl | (apply dR rfl rfl; focus (first | (apply cF rfl; intro _) | (apply cP rfl; intro _) | (apply cL rfl; intro _)))); focus (first | exact cl rfl rfl (EN rfl) (hC) rfl rfl rfl | exact iA rfl (EL rfl) (SZ rfl) rfl rfl (Int.natCast_nonneg _) hg rfl | exact cI rfl (IK rfl) (IK rfl) rfl | exact mF rfl | exact bS rfl (EL rfl) (SZ rfl) (AG rfl) (ZR rfl) rfl rfl rfl rfl rfl rfl rfl | exact nC rfl rfl)) | (apply dR rfl rfl; focus (first | exact Cond_c (cl rfl rfl (EN rfl) (hC) rfl rfl rfl))) | refine xS ?_ | refine xR ?_ | refine xD false false rfl rfl mixed (by decide +kernel) ?_ | refine xD false true rfl rfl mixed (by decide +kernel) ?_ | refine xD true false rfl rfl mixed (by decide +kernel) ?_ | refine xD true true rfl rfl mixed (by decide +kernel) ?_ | refine xB ?_ | (refine xN ?_; try show PW _ _ _ _ _ _) | (refine xE ?_; try show PW _ _ _ _ _ _) | (refine xT ?_; try show PW _ _ _ _ _ _) | refine xt rfl ?_ | refine xf rfl ?_))
    refine ⟨i + 1, hlt, by omega, SlotsOk.le ⟨.inl rfl, .inl rfl, .inl rfl, .inl (congrArg (fun x => PV.g (.int .i64 x)) (wrap64 (by omega))), trivial⟩, HLe.refl _⟩
  · (repeat (first | (refine qA ?_; try show PW _ _ _ _ _ _) | (refine qB ?_; try show PW _ _ _ _ _ _) | refine rO tabOk 300 rfl rfl ?_ | refine rO tabOk 6 rfl rfl ?_ | refine rO tabOk 1 rfl rfl ?_ | refine rD tabOk 300 rfl rfl ?_ | refine rD tabOk 6 rfl rfl ?_ | refine rD tabOk 1 rfl rfl ?_ | ((first | apply oR rfl rfl | (apply dR rfl rfl; focus (first | (apply cF rfl; intro _) | (apply cP rfl; intro _) | (apply cL rfl; intro _)))); focus (first | exact cI rfl (IK rfl) (IK rfl) rfl | exact mF rfl | exact bS rfl (EL rfl) (SZ rfl) (AG rfl) (ZR rfl) rfl rfl rfl rfl rfl rfl rfl | exact nC rfl rfl)) | refine xS ?_ | refine xR ?_ | refine xD false false rfl rfl mixed (by decide +kernel) ?_ | refine xD false true rfl rfl mixed (by decide +kernel) ?_ | refine xD true false rfl rfl mixed (by decide +kernel) ?_ | refine xD true true rfl rfl mixed (by decide +kernel) ?_ | refine xB ?_ | (refine xN ?_; try show PW _ _ _ _ _ _) | (refine xE ?_; try show PW _ _ _ _ _ _) | (refine xT ?_; try show PW _ _ _ _ _ _) | refine xt rfl ?_ | refine xf rfl ?_))
    (first | refine Ret_int (vC vT vN) rfl ?_ | refine Ret_bool (vC vT vN) rfl ?_ | refine Ret_g (vC vT vN) rfl ?_ | refine Ret_int (vC (vA (AG rfl) (SZ rfl) rfl rfl (lB rfl)) vN) rfl ?_ | refine Ret_bool (vC (vA (AG rfl) (SZ rfl) rfl rfl (lB rfl)) vN) rfl ?_ | refine Ret_g (vC (vA (AG rfl) (SZ rfl) rfl rfl (lB rfl)) vN) rfl ?_)
    rfl
end Go.Proofs.Ytffpepmfdjjjaaa

namespace Go.Proofs.Ytffpepmfdjjjaaa
open Go.Pure

/-! ### Records, in plain lists -/
theorem ofNat_toNat (a : UInt8) : UInt8.ofNat a.toNat = a := by simp
theorem beN_be4 (n : Nat) (h : n < 4294967296) : beN (be4 n) = n := by
  simp only [beN, be4, List.foldl_cons, List.foldl_nil]
  rw [u8of _ (by omega), u8of _ (by omega), u8of _ (by omega), u8of _ (by omega)]
  omega
theorem be4_beN (l : List UInt8) (h : l.length = 4) : be4 (beN l) = l := by
  match l, h with
  | [a, b, c, d], _ =>
    have ha := a.toNat_lt; have hb := b.toNat_lt; have hc := c.toNat_lt; have hd := d.toNat_lt
    simp only [beN, be4, List.foldl_cons, List.foldl_nil]
    have e1 : (((0 * 256 + a.toNat) * 256 + b.toNat) * 256 + c.toNat) * 256 + d.toNat = 16777216 * a.toNat + 65536 * b.toNat + 256 * c.toNat + d.toNat := by omega
    rw [e1]
    have q1 : (16777216 * a.toNat + 65536 * b.toNat + 256 * c.toNat + d.toNat) / 16777216 % 256 = a.toNat := by omega
    have q2 : (16777216 * a.toNat + 65536 * b.toNat + 256 * c.toNat + d.toNat) / 65536 % 256 = b.toNat := by omega
    have q3 : (16777216 * a.toNat + 65536 * b.toNat + 256 * c.toNat + d.toNat) / 256 % 256 = c.toNat := by omega
    have q4 : (16777216 * a.toNat + 65536 * b.toNat + 256 * c.toNat + d.toNat) % 256 = d.toNat := by omega
    rw [q1, q2, q3, q4]
    simp
/-- A command's record. -/
def recB (c : VCmd) : List UInt8 := be4 (body c).1.length ++ (body c).1
def allB (l : List VCmd) : List UInt8 := l.flatMap recB
theorem recB_len (c : VCmd) : (recB c).length = 4 + (body c).1.length := by simp [recB, be4]; omega
theorem allB_append (a b : List VCmd) : allB (a ++ b) = allB a ++ allB b := by simp [allB]
theorem allB_one (c : VCmd) : allB [c] = recB c := by simp [allB]
/-- A command whose bytes are read again. -/
def sound (c : VCmd) : Prop := (body c).2 = 0 ∧ parseT (body c).1 = (packCmd c, 0)
theorem sound_of {c : VCmd} (hw : gwf c.g) (h : (body c).2 = 0) : sound c := ⟨h, bytes_parse (fit_cmd c hw).2 (Prod.ext rfl h)⟩

theorem writeJ_all : ∀ (l : List VCmd) (f g : List UInt8), writeJ l f = (g, 0) → g = f ++ allB l ∧ (∀ c ∈ l, (body c).2 = 0) ∧ (l ≠ [] → g.length ≤ 1000000)
  | [], f, g, h => by
    simp only [writeJ, Prod.mk.injEq] at h
    exact ⟨by simp [allB, h.1], by simp, by simp⟩
  | c :: l, f, g, h => by
    rw [writeJ] at h
    split at h
    · rename_i h0
      obtain ⟨h1, h2, h3⟩ := writeJ_all l _ _ h
      have hl := append_len h0
      unfold appendJ at h0 h1 hl
      split at h0
      · rename_i hb
        split at h0
        · cases h0
        · rename_i hs
          rw [if_pos hb, if_neg hs] at h1 hl
          dsimp only at h1 hl
          refine ⟨by rw [h1, allB]; simp [allB, recB], fun x hx => ?_, fun _ => ?_⟩
          · rcases List.mem_cons.1 hx with rfl | hx
            · exact hb
            · exact h2 x hx
          · cases l with
            | nil => rw [h1]; simpa [allB] using hl
            | cons y l => exact h3 (by simp)
      · rename_i hb; exact absurd h0 hb
    · rename_i h0
      exact absurd (congrArg Prod.snd h) h0
theorem writeJ_ok : ∀ (l : List VCmd) (f : List UInt8), (∀ c ∈ l, (body c).2 = 0) → f.length + (allB l).length ≤ 1000000 → writeJ l f = (f ++ allB l, 0)
  | [], f, _, _ => by simp [writeJ, allB]
  | c :: l, f, h, hl => by
    have e : allB (c :: l) = recB c ++ allB l := by simp [allB]
    rw [e] at hl ⊢
    simp only [List.length_append, recB_len] at hl
    have h0 := h c (by simp)
    have hA : appendJ f c = (f ++ recB c, 0) := by
      unfold appendJ
      rw [if_pos h0, if_neg (by omega)]
      rfl
    rw [writeJ, hA, if_pos rfl, writeJ_ok l _ (fun x hx => h x (List.mem_cons_of_mem _ hx)) (by simp only [List.length_append, recB_len]; omega)]
    simp

theorem next_sound {file : List UInt8} {at_ : Nat} {c : VCmd} {tail : List UInt8} (hc : sound c) (hd : file.drop at_ = recB c ++ tail) (ha : at_ ≤ file.length) : nextX file at_ = (c, ((at_ + (recB c).length : Nat) : Int), true) := by
  have hbl := body_len c
  have hlen : file.length - at_ = (recB c).length + tail.length := by have := congrArg List.length hd; simpa using this
  rw [recB_len] at hlen
  have h4 : (file.drop at_).take 4 = be4 (body c).1.length := by rw [hd, recB, List.append_assoc]; rfl
  have hr : (file.drop (at_ + 4)).take (body c).1.length = (body c).1 := by
    have : file.drop (at_ + 4) = (body c).1 ++ tail := by
      rw [← List.drop_drop, hd, recB, List.append_assoc]; rfl
    rw [this]; simp
  unfold nextX
  rw [if_neg (by omega), h4, beN_be4 _ (by omega)]
  dsimp only
  rw [if_neg (by omega), hr, hc.2]
  dsimp only
  rw [if_pos rfl, unCmd_pack, recB_len]
  simp only [decide_true, Prod.mk.injEq, true_and, and_true]
  omega
theorem next_short {file : List UInt8} {at_ : Nat} (h : file.length < at_ + 4) : (nextX file at_).2.2 = false := by
  unfold nextX; rw [if_pos h]
theorem next_cut {file : List UInt8} {at_ k : Nat} {c : VCmd} {tail : List UInt8} (hd : file.drop at_ = (recB c ++ tail).take k) (hk : k < (recB c).length) : (nextX file at_).2.2 = false := by
  have hbl := body_len c
  rw [recB_len] at hk
  have hlen : file.length - at_ = k := by
    have := congrArg List.length hd
    simp only [List.length_drop, List.length_take, List.length_append, recB_len] at this
    omega
  by_cases h4 : file.length < at_ + 4
  · exact next_short h4
  · have h5 : (file.drop at_).take 4 = be4 (body c).1.length := by
      rw [hd, List.take_take, Nat.min_eq_left (by omega), recB, List.append_assoc]; rfl
    unfold nextX
    rw [if_neg h4, h5, beN_be4 _ (by omega)]
    dsimp only
    rw [if_pos (by omega)]
theorem next_back {file : List UInt8} {at_ e : Nat} {c : VCmd} (h : nextX file at_ = (c, (e : Int), true)) : sound c ∧ e = at_ + (recB c).length ∧ file.take e = file.take at_ ++ recB c ∧ gbulk c.g ≤ (recB c).length := by
  unfold nextX at h
  split at h
  · simp at h
  · rename_i h1
    dsimp only at h
    split at h
    · simp at h
    · rename_i h2
      have hd4 : ((file.drop at_).take 4).length = 4 := by simp; omega
      generalize hhd : (file.drop at_).take 4 = hd at h h2 hd4
      generalize hpt : (file.drop (at_ + 4)).take (beN hd) = pt at h
      have hptl : pt.length = beN hd := by rw [← hpt]; simp; omega
      split at h
      · rename_i h3
        simp only [Prod.mk.injEq, decide_eq_true_eq] at h
        obtain ⟨hc, he, hu⟩ := h
        have hu2 : (unCmd0 (parseT pt).1).2 = false := by
          cases hq : (unCmd0 (parseT pt).1).2 with
          | false => rfl
          | true =>
            unfold unCmd at hu
            rw [if_pos hq] at hu
            cases hu
        have hc2 : (unCmd0 (parseT pt).1).1 = c := by
          rw [← hc]
          unfold unCmd
          rw [hu2]
          rfl
        have hp := unCmd_back _ hu2
        rw [hc2] at hp
        have hB := (parse_bytes (u := (parseT pt).1) (Prod.ext rfl h3)).1
        rw [← hp] at hB
        have hbody : body c = (pt, 0) := hB
        have hs : sound c := ⟨by rw [hbody], by rw [hbody, hp]; exact Prod.ext rfl h3⟩
        have hrl : (recB c).length = 4 + beN hd := by rw [recB_len, hbody]; dsimp only; omega
        have hr : recB c = hd ++ pt := by
          rw [recB, hbody]
          dsimp only
          rw [hptl, be4_beN hd hd4]
        refine ⟨hs, by omega, ?_, ?_⟩
        · have : e = at_ + (4 + beN hd) := by omega
          rw [this, List.take_add, hr, ← hhd, ← hpt]
          congr 1
          rw [List.take_add, hhd, List.drop_drop]
        · have h8 := (cmd_bulks c).1
          have h9 := bulk_enc (packCmd c)
          have h10 := (bytes_enc hB).1
          have h11 : (enc (packCmd c)).length ≤ pt.length := by
            have : bytesT (packCmd c) = (pt, 0) := hB
            unfold bytesT at this
            split at this
            · split at this
              · simp at this
              · have := congrArg (fun x => x.1.length) this
                simp [four] at this
                omega
            · rename_i h0; exact absurd (congrArg Prod.snd this) h0
          rw [hrl]
          omega
      · simp at h

theorem recX_all : ∀ (l : List VCmd) (k : Nat) (pre rest : List UInt8), (∀ c ∈ l, sound c) → recX (k + l.length) (pre ++ allB l ++ rest) pre.length = (l ++ (recX k (pre ++ allB l ++ rest) (pre.length + (allB l).length)).1, (recX k (pre ++ allB l ++ rest) (pre.length + (allB l).length)).2)
  | [], k, pre, rest, _ => by simp [allB]
  | c :: l, k, pre, rest, h => by
    have e : allB (c :: l) = recB c ++ allB l := by simp [allB]
    have hn : nextX (pre ++ allB (c :: l) ++ rest) pre.length = (c, ((pre.length + (recB c).length : Nat) : Int), true) := by
      refine next_sound (tail := allB l ++ rest) (h c (by simp)) ?_ (by simp)
      rw [e]
      simp [List.append_assoc]
    rw [List.length_cons, ← Nat.add_assoc, recX, hn, if_pos rfl]
    have ih := recX_all l k (pre ++ recB c) rest fun x hx => h x (List.mem_cons_of_mem _ hx)
    have e2 : pre ++ recB c ++ allB l ++ rest = pre ++ allB (c :: l) ++ rest := by rw [e]; simp
    rw [e2] at ih
    simp only [List.length_append] at ih
    simp only [Int.toNat_natCast, e, List.length_append] at ih ⊢
    rw [ih]
    simp [Nat.add_assoc]
theorem recX_stop {k : Nat} {file : List UInt8} {at_ : Nat} (h : (nextX file at_).2.2 = false) : recX k file at_ = ([], at_) := by
  cases k with
  | zero => rfl
  | succ k => rw [recX, h, if_neg (by decide)]
theorem recX_back : ∀ (k : Nat) (file : List UInt8) (at_ : Nat) (l : List VCmd) (n : Nat), at_ ≤ file.length → recX k file at_ = (l, n) → (∀ c ∈ l, sound c) ∧ file.take n = file.take at_ ++ allB l ∧ n = at_ + (allB l).length ∧ n ≤ file.length ∧ gbulks (l.map VCmd.g) ≤ (allB l).length
  | 0, file, at_, l, n, ha, h => by
    simp only [recX, Prod.mk.injEq] at h
    obtain ⟨rfl, rfl⟩ := h
    simp [allB, ha, gbulks]
  | k + 1, file, at_, l, n, ha, h => by
    rw [recX] at h
    split at h
    · rename_i hok
      obtain ⟨e, he, he1, he2⟩ := next_end hok
      rw [he] at h
      simp only [Int.toNat_natCast, Prod.mk.injEq] at h
      obtain ⟨hl, rfl⟩ := h
      have hb := next_back (c := (nextX file at_).1) (e := e) (Prod.ext rfl (Prod.ext he hok))
      generalize (nextX file at_).1 = c at hb hl
      obtain ⟨b1, b2, b3, b4⟩ := hb
      obtain ⟨r1, r2, r3, r4, r5⟩ := recX_back k file e _ _ he2 rfl
      generalize (recX k file e).1 = l' at hl r1 r2 r3 r5
      subst hl
      have hal : allB (c :: l') = recB c ++ allB l' := by simp [allB]
      refine ⟨fun x hx => ?_, ?_, ?_, r4, ?_⟩
      · rcases List.mem_cons.1 hx with rfl | hx
        · exact b1
        · exact r1 x hx
      · rw [r2, b3, hal, List.append_assoc]
      · rw [hal, List.length_append]; omega
      · rw [hal, List.length_append, List.map_cons, gbulks]; omega
    · simp only [Prod.mk.injEq] at h
      obtain ⟨rfl, rfl⟩ := h
      simp [allB, ha, gbulks]
end Go.Proofs.Ytffpepmfdjjjaaa

/- Plain laws: a check sum guards: what is changed in four bytes that stand together is told. -/
namespace Go.Proofs.Ytffpepmfdjjjaaa
open Go.Pure

theorem bit_and (r : BitVec 32) : (r &&& 1#32 = 1#32) ↔ r.getLsbD 0 = true := by
  constructor
  · intro h
    have := congrArg (fun x => x.getLsbD 0) h
    simpa using this
  · intro h
    apply BitVec.eq_of_getLsbD_eq
    intro i hi
    cases i with
    | zero => simp at h ⊢; exact h
    | succ i => simp
theorem crcBit_eq (r : BitVec 32) : crcBit r = (r >>> 1) ^^^ (if r.getLsbD 0 = true then 0xedb88320#32 else 0#32) := by
  unfold crcBit
  by_cases h : r.getLsbD 0 = true
  · rw [if_pos ((bit_and r).2 h), if_pos h]
  · rw [if_neg (fun hh => h ((bit_and r).1 hh)), if_neg h, BitVec.xor_zero]
theorem crcBit_xor (r s : BitVec 32) : crcBit (r ^^^ s) = crcBit r ^^^ crcBit s := by
  rw [crcBit_eq, crcBit_eq, crcBit_eq]
  have h1 : (r ^^^ s) >>> 1 = (r >>> 1) ^^^ (s >>> 1) := by
    apply BitVec.eq_of_getLsbD_eq
    intro i hi
    simp
  have h2 : (r ^^^ s).getLsbD 0 = (r.getLsbD 0 ^^ s.getLsbD 0) := by simp
  rw [h1, h2]
  cases r.getLsbD 0 <;> cases s.getLsbD 0 <;> simp
  · rw [BitVec.xor_assoc]
  · rw [BitVec.xor_assoc, BitVec.xor_assoc, BitVec.xor_comm (s >>> 1)]
  · have : ∀ a b c : BitVec 32, a ^^^ c ^^^ (b ^^^ c) = a ^^^ b := by
      intro a b c
      rw [BitVec.xor_comm b c, ← BitVec.xor_assoc, BitVec.xor_assoc a c c, BitVec.xor_self, BitVec.xor_zero]
    rw [this]
theorem crcBit_zero : crcBit 0#32 = 0#32 := by decide
/-- Back, where the top bit is 0. -/
theorem crcBit_inv {y v : BitVec 32} (h : crcBit y = v) (hv : v.toNat < 2147483648) : y.toNat = 2 * v.toNat := by
  rw [crcBit_eq] at h
  by_cases hb : y.getLsbD 0 = true
  · rw [if_pos hb] at h
    have : v.getLsbD 31 = true := by
      rw [← h, BitVec.getLsbD_xor, BitVec.getLsbD_ushiftRight]
      have : y.getLsbD (1 + 31) = false := BitVec.getLsbD_of_ge _ _ (by decide)
      rw [this]
      decide
    have h2 := BitVec.testBit_toNat v (i := 31)
    rw [this] at h2
    have := Nat.ge_two_pow_of_testBit h2
    omega
  · rw [if_neg hb, BitVec.xor_zero] at h
    have h1 : v.toNat = y.toNat / 2 := by rw [← h, BitVec.toNat_ushiftRight, Nat.shiftRight_eq_div_pow]
    have h2 : y.toNat % 2 = 0 := by
      have := BitVec.testBit_toNat y (i := 0)
      rw [Nat.testBit_zero] at this
      rcases Nat.mod_two_eq_zero_or_one y.toNat with h | h
      · exact h
      · rw [h] at this; exact absurd this.symm hb
    omega
theorem iter_xor : ∀ (k : Nat) (r s : BitVec 32), iter k (r ^^^ s) = iter k r ^^^ iter k s
  | 0, r, s => rfl
  | k + 1, r, s => by rw [iter, iter_xor k, crcBit_xor]; rfl
theorem iter_inv : ∀ (k : Nat) {y v : BitVec 32}, iter k y = v → 2 ^ k * v.toNat < 4294967296 → y.toNat = 2 ^ k * v.toNat
  | 0, y, v, h, _ => by subst h; simp [iter]
  | k + 1, y, v, h, hv => by
    rw [iter] at h
    have hp : 2 ^ (k + 1) = 2 * 2 ^ k := by rw [Nat.pow_succ, Nat.mul_comm]
    rw [hp] at hv ⊢
    have hpos : 1 ≤ 2 ^ k := Nat.one_le_two_pow
    have h31 : v.toNat < 2147483648 := by
      have : 2 * v.toNat ≤ 2 * 2 ^ k * v.toNat := Nat.mul_le_mul_right _ (by omega)
      omega
    have h1 := crcBit_inv h h31
    have h2 := iter_inv k (y := y) rfl (by rw [h1]; rw [show 2 ^ k * (2 * v.toNat) = 2 * 2 ^ k * v.toNat by rw [← Nat.mul_assoc, Nat.mul_comm (2 ^ k) 2]]; exact hv)
    rw [h2, h1, ← Nat.mul_assoc, Nat.mul_comm (2 ^ k) 2]
theorem iter_zero {k : Nat} {y : BitVec 32} (h : iter k y = 0#32) : y = 0#32 := by
  have := iter_inv k h (by simp)
  apply BitVec.eq_of_toNat_eq
  simpa using this
theorem iter_inj {k : Nat} {y z : BitVec 32} (h : iter k y = iter k z) : y = z := by
  have h1 : iter k (y ^^^ z) = 0#32 := by rw [iter_xor, h, BitVec.xor_self]
  have h2 := iter_zero h1
  exact BitVec.xor_eq_zero_iff.1 h2
theorem iter_add (j : Nat) : ∀ (k : Nat) (r : BitVec 32), iter k (iter j r) = iter (j + k) r
  | 0, r => rfl
  | k + 1, r => by rw [iter, iter_add j k]; rfl
theorem crcBit_shl (x : BitVec 32) (h : x.toNat < 2147483648) : crcBit (x <<< 1) = x := by
  rw [crcBit_eq]
  have h0 : (x <<< 1).getLsbD 0 = false := by simp
  rw [h0, if_neg (by decide), BitVec.xor_zero]
  apply BitVec.eq_of_toNat_eq
  rw [BitVec.toNat_ushiftRight, BitVec.toNat_shiftLeft, Nat.shiftLeft_eq, Nat.shiftRight_eq_div_pow]
  omega
theorem iter_shl : ∀ (k : Nat) (x : BitVec 32), 2 ^ k * x.toNat < 4294967296 → iter k (x <<< k) = x
  | 0, x, _ => by simp [iter]
  | k + 1, x, h => by
    have hp : 2 ^ (k + 1) = 2 * 2 ^ k := by rw [Nat.pow_succ, Nat.mul_comm]
    rw [hp] at h
    have hpos : 1 ≤ 2 ^ k := Nat.one_le_two_pow
    have h31 : x.toNat < 2147483648 := by
      have : 2 * x.toNat ≤ 2 * 2 ^ k * x.toNat := Nat.mul_le_mul_right _ (by omega)
      omega
    have e : x <<< (k + 1) = (x <<< 1) <<< k := by rw [Nat.add_comm, BitVec.shiftLeft_add]
    have e2 : (x <<< 1).toNat = 2 * x.toNat := by rw [BitVec.toNat_shiftLeft, Nat.shiftLeft_eq]; omega
    rw [iter, e]
    have : iter k ((x <<< 1) <<< k) = x <<< 1 := iter_shl k (x <<< 1) (by rw [e2]; rw [show 2 ^ k * (2 * x.toNat) = 2 * 2 ^ k * x.toNat by rw [← Nat.mul_assoc, Nat.mul_comm (2 ^ k) 2]]; exact h)
    rw [this, crcBit_shl x h31]

theorem crc_append (r : BitVec 32) (a b : List UInt8) : crc r (a ++ b) = crc (crc r a) b := by simp [crc, List.foldl_append]
theorem crc_inj : ∀ (s : List UInt8) {r r' : BitVec 32}, crc r s = crc r' s → r = r'
  | [], r, r', h => h
  | c :: s, r, r', h => by
    have h1 : crc (crcByte r c) s = crc (crcByte r' c) s := h
    have h2 := crc_inj s h1
    unfold crcByte at h2
    have h3 := iter_inj h2
    exact (BitVec.xor_right_inj (BitVec.ofNat 32 c.toNat)).1 (by rw [BitVec.xor_comm _ r, BitVec.xor_comm _ r']; exact h3)

def byB (b : UInt8) : BitVec 32 := BitVec.ofNat 32 b.toNat
theorem byB_nat (b : UInt8) : (byB b).toNat = b.toNat := by have := b.toNat_lt; simp [byB]
/-- Four bytes at once. -/
theorem crc_four (r : BitVec 32) (a b c d : UInt8) : crc r [a, b, c, d] = iter 32 (r ^^^ (byB a ^^^ (byB b <<< 8) ^^^ (byB c <<< 16) ^^^ (byB d <<< 24))) := by
  have ha := byB_nat a; have hb := byB_nat b; have hc := byB_nat c; have hd := byB_nat d
  have la := a.toNat_lt; have lb := b.toNat_lt; have lc := c.toNat_lt; have ld := d.toNat_lt
  have e1 : iter 8 (byB b <<< 8) = byB b := iter_shl 8 _ (by rw [hb]; omega)
  have e2 : iter 16 (byB c <<< 16) = byB c := iter_shl 16 _ (by rw [hc]; omega)
  have e3 : iter 24 (byB d <<< 24) = byB d := iter_shl 24 _ (by rw [hd]; omega)
  show iter 8 (iter 8 (iter 8 (iter 8 (r ^^^ byB a) ^^^ byB b) ^^^ byB c) ^^^ byB d) = _
  have s1 : iter 8 (iter 8 (r ^^^ byB a) ^^^ byB b) = iter 16 (r ^^^ byB a ^^^ (byB b <<< 8)) := by
    conv => lhs; rw [← e1]
    rw [← iter_xor, iter_add]
  have s2 : iter 8 (iter 16 (r ^^^ byB a ^^^ (byB b <<< 8)) ^^^ byB c) = iter 24 (r ^^^ byB a ^^^ (byB b <<< 8) ^^^ (byB c <<< 16)) := by
    conv => lhs; rw [← e2]
    rw [← iter_xor, iter_add]
  have s3 : iter 8 (iter 24 (r ^^^ byB a ^^^ (byB b <<< 8) ^^^ (byB c <<< 16)) ^^^ byB d) = iter 32 (r ^^^ byB a ^^^ (byB b <<< 8) ^^^ (byB c <<< 16) ^^^ (byB d <<< 24)) := by
    conv => lhs; rw [← e3]
    rw [← iter_xor, iter_add]
  rw [s1, s2, s3]
  congr 1
  simp only [BitVec.xor_assoc]
def pack4 (a b c d : UInt8) : BitVec 32 := byB a ^^^ (byB b <<< 8) ^^^ (byB c <<< 16) ^^^ (byB d <<< 24)
theorem pack4_eq (a b c d : UInt8) : pack4 a b c d = le32 a b c d := by
  have ha := byB_nat a; have hb := byB_nat b; have hc := byB_nat c; have hd := byB_nat d
  have la := a.toNat_lt; have lb := b.toNat_lt; have lc := c.toNat_lt; have ld := d.toNat_lt
  apply BitVec.eq_of_toNat_eq
  unfold pack4 le32
  simp only [BitVec.toNat_xor, BitVec.toNat_shiftLeft, ha, hb, hc, hd, BitVec.toNat_ofNat]
  simp only [Nat.shiftLeft_eq]
  rw [Nat.mod_eq_of_lt (by omega : b.toNat * 2 ^ 8 < 2 ^ 32), Nat.mod_eq_of_lt (by omega : c.toNat * 2 ^ 16 < 2 ^ 32), Nat.mod_eq_of_lt (by omega : d.toNat * 2 ^ 24 < 2 ^ 32)]
  have x1 : ∀ (k x y : Nat), x < 2 ^ k → x ^^^ y * 2 ^ k = x + y * 2 ^ k := by
    intro k x y hx
    have h1 : x ^^^ y * 2 ^ k = x ||| y * 2 ^ k := by
      apply Nat.eq_of_testBit_eq
      intro i
      rw [Nat.testBit_xor, Nat.testBit_or]
      by_cases hi : i < k
      · have : (y * 2 ^ k).testBit i = false := by rw [Nat.mul_comm, Nat.testBit_two_pow_mul]; simp; omega
        rw [this]; simp
      · have : x.testBit i = false := Nat.testBit_lt_two_pow (Nat.lt_of_lt_of_le hx (Nat.pow_le_pow_right (by decide) (by omega)))
        rw [this]; simp
    rw [h1, Nat.or_comm, Nat.mul_comm y, ← Nat.two_pow_add_eq_or_of_lt hx, Nat.add_comm]
  rw [x1 8 _ _ (by omega), x1 16 _ _ (by omega), x1 24 _ _ (by omega)]
  omega
/-- A body and its sum, all together. -/
def residue : BitVec 32 := iter 32 0xffffffff#32
theorem crc_whole {u : Tr} {l : List UInt8} (h : bytesT u = (l, 0)) : crc 0xffffffff#32 l = residue := by
  unfold bytesT at h
  split at h
  · split at h
    · simp at h
    · cases h
      rw [crc_append]
      obtain ⟨a, b, c, d, h4, h5⟩ := four_back (sumB (enc u))
      have e := crc_four (crc 0xffffffff#32 (enc u)) a b c d
      rw [h4, e]
      have : byB a ^^^ (byB b <<< 8) ^^^ (byB c <<< 16) ^^^ (byB d <<< 24) = sumB (enc u) := by rw [← h5]; exact pack4_eq a b c d
      rw [this]
      unfold sumB residue
      congr 1
      have : (0xffffffff#32) = BitVec.allOnes 32 := by decide
      rw [this]
      generalize crc (BitVec.allOnes 32) (enc u) = z
      apply BitVec.eq_of_getLsbD_eq
      intro i hi
      rw [BitVec.getLsbD_xor, BitVec.getLsbD_not, BitVec.getLsbD_allOnes]
      simp [hi]
  · rename_i h0
    exact absurd (congrArg (fun x => x.2) h) h0
/-- Four bytes that stand together are as they were. -/
theorem crc_guards {p s : List UInt8} {a b c d a' b' c' d' : UInt8} (h : crc 0xffffffff#32 (p ++ [a, b, c, d] ++ s) = crc 0xffffffff#32 (p ++ [a', b', c', d'] ++ s)) : le32 a b c d = le32 a' b' c' d' := by
  rw [crc_append, crc_append, crc_append _ (p ++ _), crc_append _ p] at h
  have h1 := crc_inj s h
  rw [crc_four, crc_four] at h1
  have h2 := iter_inj h1
  have h3 : pack4 a b c d = pack4 a' b' c' d' := (BitVec.xor_right_inj _).1 h2
  rw [pack4_eq, pack4_eq] at h3
  exact h3
end Go.Proofs.Ytffpepmfdjjjaaa

/- Plain laws: bytes with a change in four that stand together are refused. -/
namespace Go.Proofs.Ytffpepmfdjjjaaa
open Go.Pure

/-- Byte k of a number of 32 bits. -/
def xb (x : BitVec 32) (k : Nat) : UInt8 := UInt8.ofNat (x.toNat / 2 ^ (8 * k) % 256)
/-- So many bytes from a place on are changed. -/
def fl (l : List UInt8) (n : Nat) (x : BitVec 32) : Nat → List UInt8
  | 0 => l
  | k + 1 => (fl l n x k).set (n + k) ((fl l n x k).getD (n + k) 0 ^^^ xb x k)
theorem fl_len (l : List UInt8) (n : Nat) (x : BitVec 32) : ∀ k, (fl l n x k).length = l.length
  | 0 => rfl
  | k + 1 => by simp [fl, fl_len l n x k]
theorem set_at (p : List UInt8) (y z : UInt8) (s : List UInt8) {n : Nat} (h : n = p.length) : (p ++ y :: s).set n z = p ++ z :: s := by
  subst h
  simp
theorem getD_at (p : List UInt8) (y : UInt8) (s : List UInt8) {n : Nat} (h : n = p.length) : (p ++ y :: s).getD n 0 = y := by
  subst h
  simp
theorem fl_four (p : List UInt8) (a b c d : UInt8) (s : List UInt8) (x : BitVec 32) :
    fl (p ++ [a, b, c, d] ++ s) p.length x 4 = p ++ [a ^^^ xb x 0, b ^^^ xb x 1, c ^^^ xb x 2, d ^^^ xb x 3] ++ s := by
  have e0 : p ++ [a, b, c, d] ++ s = p ++ a :: (b :: c :: d :: s) := by simp
  have f1 : fl (p ++ [a, b, c, d] ++ s) p.length x 1 = (p ++ [a ^^^ xb x 0]) ++ b :: (c :: d :: s) := by
    rw [fl, fl, e0, getD_at _ _ _ (by simp), set_at _ _ _ _ (by simp)]; simp
  have f2 : fl (p ++ [a, b, c, d] ++ s) p.length x 2 = (p ++ [a ^^^ xb x 0, b ^^^ xb x 1]) ++ c :: (d :: s) := by
    rw [fl, f1, getD_at _ _ _ (by simp), set_at _ _ _ _ (by simp)]; simp
  have f3 : fl (p ++ [a, b, c, d] ++ s) p.length x 3 = (p ++ [a ^^^ xb x 0, b ^^^ xb x 1, c ^^^ xb x 2]) ++ d :: s := by
    rw [fl, f2, getD_at _ _ _ (by simp), set_at _ _ _ _ (by simp)]; simp
  rw [fl, f3, getD_at _ _ _ (by simp), set_at _ _ _ _ (by simp)]; simp
theorem window (l : List UInt8) (n : Nat) (h : n + 4 ≤ l.length) : ∃ p a b c d s, l = p ++ [a, b, c, d] ++ s ∧ p.length = n := by
  have h1 : ((l.drop n).take 4).length = 4 := by simp; omega
  match hd : (l.drop n).take 4, h1 with
  | [a, b, c, d], _ =>
    refine ⟨l.take n, a, b, c, d, (l.drop n).drop 4, ?_, by simp; omega⟩
    rw [← hd, List.append_assoc, List.take_append_drop, List.take_append_drop]
theorem xor_self_eq {a y : UInt8} (h : a = a ^^^ y) : y = 0 := by
  have := congrArg (fun z => a ^^^ z) h
  rw [← UInt8.xor_assoc, UInt8.xor_self, UInt8.zero_xor] at this
  exact this.symm
theorem xb_zero {x : BitVec 32} (h0 : xb x 0 = 0) (h1 : xb x 1 = 0) (h2 : xb x 2 = 0) (h3 : xb x 3 = 0) : x = 0#32 := by
  have e : ∀ k, xb x k = 0 → x.toNat / 2 ^ (8 * k) % 256 = 0 := by
    intro k h
    have := congrArg UInt8.toNat h
    unfold xb at this
    rw [u8of _ (Nat.mod_lt _ (by decide))] at this
    exact this
  have g0 := e 0 h0; have g1 := e 1 h1; have g2 := e 2 h2; have g3 := e 3 h3
  have := x.isLt
  apply BitVec.eq_of_toNat_eq
  simp at g0 g1 g2 g3 ⊢
  omega
theorem guards {t : Tr} {l : List UInt8} {n : Nat} {x : BitVec 32} (h : bytesT t = (l, 0)) (hn : n + 4 ≤ l.length) (hx : x ≠ 0#32) : (parseT (fl l n x 4)).2 ≠ 0 := by
  intro h0
  obtain ⟨p, a, b, c, d, s, rfl, rfl⟩ := window l n hn
  obtain ⟨e1, _, _⟩ := parse_bytes (u := (parseT (fl (p ++ [a, b, c, d] ++ s) p.length x 4)).1) (l := fl (p ++ [a, b, c, d] ++ s) p.length x 4) (Prod.ext rfl h0)
  have c1 := crc_whole h
  have c2 := crc_whole e1
  rw [fl_four] at c2
  have hl := crc_guards (c1.trans c2.symm)
  have h4 := congrArg four hl
  rw [four_le32, four_le32] at h4
  simp only [List.cons.injEq, and_true] at h4
  exact hx (xb_zero (xor_self_eq h4.1) (xor_self_eq h4.2.1) (xor_self_eq h4.2.2.1) (xor_self_eq h4.2.2.2))
theorem parse_err {l : List UInt8} (h : (parseT l).2 ≠ 0) : (parseT l).1 = noTree := by
  by_cases h1 : 100000 < l.length
  · unfold parseT; rw [if_pos h1]
  · by_cases h2 : l.length < 4
    · unfold parseT
      rw [if_neg h1]
      have : (l.drop (l.length - 4)).length ≠ 4 := by simp; omega
      split
      · rename_i hd; rw [hd] at this; simp at this
      · rfl
    · obtain ⟨body, a, b, c, d, rfl⟩ := last_four l (by omega)
      have hl : (body ++ [a, b, c, d]).length = body.length + 4 := by simp
      rw [parseT_four _ _ _ _ _ (by omega)] at h ⊢
      unfold parseB at h ⊢
      split
      · rfl
      · rename_i h2
        rw [if_neg h2] at h
        split
        · rfl
        · rename_i h3
          rw [if_neg h3] at h
          exact absurd rfl h
end Go.Proofs.Ytffpepmfdjjjaaa

namespace Go.Proofs.Ytffpepmfdjjjaaa
open Go.Pure

theorem recB_pos (c : VCmd) : 4 ≤ (recB c).length := by rw [recB_len]; omega
theorem allB_cons (c : VCmd) (r : List VCmd) : allB (c :: r) = recB c ++ allB r := by simp [allB]
theorem allB_count : ∀ l : List VCmd, 4 * l.length ≤ (allB l).length
  | [] => by simp
  | c :: l => by
    have := allB_count l
    have := recB_pos c
    have e : allB (c :: l) = recB c ++ allB l := by simp [allB]
    rw [e]; simp; omega
/-- How many records are whole. -/
theorem whole_upto : ∀ (l : List VCmd) (k : Nat), k ≤ (allB l).length → ∃ j, j ≤ l.length ∧ (allB (l.take j)).length ≤ k ∧ (j < l.length → k < (allB (l.take (j + 1))).length)
  | [], k, h => ⟨0, by simp, by simp [allB], by simp⟩
  | c :: l, k, h => by
    have e : ∀ r, allB (c :: r) = recB c ++ allB r := fun r => by simp [allB]
    by_cases hk : (recB c).length ≤ k
    · rw [e, List.length_append] at h
      obtain ⟨j, h1, h2, h3⟩ := whole_upto l (k - (recB c).length) (by omega)
      refine ⟨j + 1, by simpa using h1, ?_, fun hj => ?_⟩
      · rw [List.take_succ_cons, e, List.length_append]; omega
      · have := h3 (by simpa using hj)
        rw [List.take_succ_cons, e, List.length_append]; omega
    · refine ⟨0, by simp, by simp [allB], fun _ => ?_⟩
      simp only [Nat.zero_add, List.take_succ_cons, List.take_zero, allB_one]
      omega
theorem recover_all {l : List VCmd} {rest : List UInt8} (h : ∀ c ∈ l, sound c) (hs : (nextX (allB l ++ rest) (allB l).length).2.2 = false) (hl : (allB l ++ rest).length ≤ 1000000) : recoverJ (allB l ++ rest) = (l, (allB l).length, 0) := by
  have hc := allB_count l
  have hk : (allB l ++ rest).length + 1 = ((allB l ++ rest).length + 1 - l.length) + l.length := by
    have : (allB l ++ rest).length = (allB l).length + rest.length := List.length_append
    omega
  have hr := recX_all l ((allB l ++ rest).length + 1 - l.length) [] rest h
  simp only [List.nil_append, List.length_nil, Nat.zero_add] at hr
  rw [← hk] at hr
  unfold recoverJ
  rw [if_neg (by omega), hr, recX_stop hs]
  simp
theorem torn_plain (l : List VCmd) (k : Nat) (h : ∀ c ∈ l, sound c) (hk : k ≤ (allB l).length) (hl : (allB l).length ≤ 1000000) :
    ∃ j, j ≤ l.length ∧ recoverJ ((allB l).take k) = (l.take j, (allB (l.take j)).length, 0) ∧ (allB (l.take j)).length ≤ k ∧ (j < l.length → k < (allB (l.take (j + 1))).length) := by
  obtain ⟨j, h1, h2, h3⟩ := whole_upto l k hk
  refine ⟨j, h1, ?_, h2, h3⟩
  have hsp : allB l = allB (l.take j) ++ allB (l.drop j) := by rw [← allB_append, List.take_append_drop]
  have hf : (allB l).take k = allB (l.take j) ++ (allB (l.drop j)).take (k - (allB (l.take j)).length) := by
    rw [hsp, List.take_append, List.take_of_length_le h2]
  rw [hf]
  refine recover_all (fun c hc => h c (List.mem_of_mem_take hc)) ?_ ?_
  · by_cases hj : j < l.length
    · have hd : l.drop j = l[j] :: l.drop (j + 1) := List.drop_eq_getElem_cons hj
      have hlt := h3 hj
      rw [List.take_succ_eq_append_getElem hj, allB_append, allB_one, List.length_append] at hlt
      refine next_cut (c := l[j]) (tail := allB (l.drop (j + 1))) (k := k - (allB (l.take j)).length) ?_ (by omega)
      rw [List.drop_left, hd, allB_cons]
    · refine next_short ?_
      have : l.drop j = [] := List.drop_eq_nil_of_le (by omega)
      rw [this]
      simp [allB]
  · rw [← hf]; simp; omega
theorem goes_plain {file : List UInt8} {l : List VCmd} {n : Nat} {e : Int} (h : recoverJ file = (l, n, e)) (he : e = 0) : (∀ c ∈ l, sound c) ∧ file.take n = allB l ∧ n = (allB l).length ∧ n ≤ file.length ∧ gbulks (l.map VCmd.g) ≤ 1000000 ∧ file.length ≤ 1000000 := by
  unfold recoverJ at h
  split at h
  · simp only [Prod.mk.injEq] at h
    rw [he] at h
    exact absurd h.2.2 (by decide)
  · rename_i hl
    simp only [Prod.mk.injEq] at h
    obtain ⟨a1, a2, a3, a4, a5⟩ := recX_back (file.length + 1) file 0 l n (Nat.zero_le _) (Prod.ext h.1 h.2.1)
    simp only [List.take_zero, List.nil_append, Nat.zero_add] at a2 a3
    exact ⟨a1, a2, a3, a4, by omega, by omega⟩
theorem next_none (l : List UInt8) : (nextX l l.length).2.2 = false := next_short (by omega)
theorem recover_full {l : List VCmd} (h : ∀ c ∈ l, sound c) (hl : (allB l).length ≤ 1000000) : recoverJ (allB l) = (l, (allB l).length, 0) := by
  have := recover_all (rest := []) h (by rw [List.append_nil]; exact next_none _) (by simpa using hl)
  simpa using this

/-! ### One byte changed -/
theorem fl_one (l : List UInt8) (n d : Nat) (y : UInt8) (hd : d < 4) : ∃ x : BitVec 32, (y ≠ 0 → x ≠ 0#32) ∧ fl l n x 4 = l.set (n + d) (l.getD (n + d) 0 ^^^ y) := by
  have hy := y.toNat_lt
  have hb : y.toNat * 2 ^ (8 * d) < 2 ^ 32 := by
    have : 2 ^ (8 * d) ≤ 2 ^ 24 := Nat.pow_le_pow_right (by decide) (by omega)
    have := Nat.mul_le_mul_left y.toNat this
    omega
  have hxb : ∀ k, k < 4 → xb (BitVec.ofNat 32 (y.toNat * 2 ^ (8 * d))) k = if k = d then y else 0 := by
    intro k hk
    unfold xb
    rw [BitVec.toNat_ofNat, Nat.mod_eq_of_lt hb]
    rcases Nat.lt_trichotomy k d with h | h | h
    · rw [if_neg (by omega)]
      have e : 2 ^ (8 * d) = 2 ^ (8 * k) * (256 * 2 ^ (8 * (d - k - 1))) := by
        rw [show (256 : Nat) = 2 ^ 8 by decide, ← Nat.pow_add, ← Nat.pow_add]; congr 1; omega
      rw [e, show y.toNat * (2 ^ (8 * k) * (256 * 2 ^ (8 * (d - k - 1)))) = 2 ^ (8 * k) * (256 * (y.toNat * 2 ^ (8 * (d - k - 1)))) by
        rw [Nat.mul_left_comm, ← Nat.mul_assoc y.toNat, Nat.mul_comm y.toNat 256, Nat.mul_assoc], Nat.mul_div_cancel_left _ (Nat.two_pow_pos _), Nat.mul_mod_right]
      rfl
    · subst h
      rw [if_pos rfl, Nat.mul_div_cancel _ (Nat.two_pow_pos _), Nat.mod_eq_of_lt hy]
      simp
    · rw [if_neg (by omega)]
      have : y.toNat * 2 ^ (8 * d) / 2 ^ (8 * k) = 0 := by
        refine Nat.div_eq_of_lt ?_
        have e : 2 ^ (8 * k) = 2 ^ (8 * d) * 2 ^ (8 * (k - d)) := by rw [← Nat.pow_add]; congr 1; omega
        have h2 : 2 ^ 8 ≤ 2 ^ (8 * (k - d)) := Nat.pow_le_pow_right (by decide) (by omega)
        rw [e, Nat.mul_comm]
        exact Nat.mul_lt_mul_of_pos_left (by omega) (Nat.two_pow_pos _)
      rw [this]; rfl
  have zero : ∀ (m : List UInt8) (i : Nat), m.set i (m.getD i 0 ^^^ (0 : UInt8)) = m := by
    intro m i
    rw [UInt8.xor_zero]
    by_cases hi : i < m.length
    · rw [List.getD_eq_getElem?_getD, List.getElem?_eq_getElem hi]; simp
    · exact List.set_eq_of_length_le (by omega)
  refine ⟨BitVec.ofNat 32 (y.toNat * 2 ^ (8 * d)), fun hy0 hx => ?_, ?_⟩
  · have := congrArg BitVec.toNat hx
    rw [BitVec.toNat_ofNat, Nat.mod_eq_of_lt hb] at this
    have h2 : y.toNat = 0 := by
      rcases Nat.mul_eq_zero.1 (by simpa using this) with h | h
      · exact h
      · exact absurd h (Nat.ne_of_gt (Nat.two_pow_pos _))
    exact hy0 (UInt8.toNat_inj.1 (by simpa using h2))
  · generalize BitVec.ofNat 32 (y.toNat * 2 ^ (8 * d)) = x at hxb
    have z : ∀ k, xb x k = 0 → fl l n x (k + 1) = fl l n x k := fun k h => by rw [fl, h]; exact zero _ _
    have o : ∀ k, xb x k = y → fl l n x k = l → fl l n x (k + 1) = l.set (n + k) (l.getD (n + k) 0 ^^^ y) := fun k h hl => by rw [fl, h, hl]
    have h0 := hxb 0 (by decide); have h1 := hxb 1 (by decide); have h2 := hxb 2 (by decide); have h3 := hxb 3 (by decide)
    obtain rfl | rfl | rfl | rfl : d = 0 ∨ d = 1 ∨ d = 2 ∨ d = 3 := by omega
    · exact (z 3 h3).trans ((z 2 h2).trans ((z 1 h1).trans (o 0 h0 rfl)))
    · exact (z 3 h3).trans ((z 2 h2).trans (o 1 h1 (z 0 h0)))
    · exact (z 3 h3).trans (o 2 h2 ((z 1 h1).trans (z 0 h0)))
    · exact o 3 h3 ((z 2 h2).trans ((z 1 h1).trans (z 0 h0)))
theorem one_bad {t : Tr} {l : List UInt8} {i : Nat} {y : UInt8} (h : bytesT t = (l, 0)) (hi : i < l.length) (hy : y ≠ 0) : (parseT (l.set i (l.getD i 0 ^^^ y))).2 ≠ 0 := by
  have h4 : 4 ≤ l.length := by
    have h := h
    unfold bytesT at h
    split at h
    · split at h
      · simp at h
      · have := congrArg (fun x => x.1.length) h
        simp [four] at this
        omega
    · rename_i h0; exact absurd (congrArg Prod.snd h) h0
  obtain ⟨x, h1, h2⟩ := fl_one l (min i (l.length - 4)) (i - min i (l.length - 4)) y (by omega)
  have := guards h (n := min i (l.length - 4)) (by omega) (h1 hy)
  rw [h2, show min i (l.length - 4) + (i - min i (l.length - 4)) = i by omega] at this
  exact this
theorem spoilt_plain {l m : List VCmd} {c : VCmd} {at_ : Nat} {y : UInt8} (hl : ∀ c ∈ l, sound c) (hc : sound c) (ha : at_ < (body c).1.length) (hy : y ≠ 0) (hs : (allB (l ++ [c] ++ m)).length ≤ 1000000) :
    recoverJ ((allB (l ++ [c] ++ m)).set ((allB l).length + 4 + at_) ((allB (l ++ [c] ++ m)).getD ((allB l).length + 4 + at_) 0 ^^^ y)) = (l, (allB l).length, 0) := by
  have hbl := body_len c
  have e0 : allB (l ++ [c] ++ m) = allB l ++ (be4 (body c).1.length ++ ((body c).1 ++ allB m)) := by
    rw [allB_append, allB_append, allB_one, recB]; simp
  have e1 : (allB (l ++ [c] ++ m)).getD ((allB l).length + 4 + at_) 0 = (body c).1.getD at_ 0 := by
    rw [e0, List.getD_eq_getElem?_getD, List.getD_eq_getElem?_getD, List.getElem?_append_right (by omega), List.getElem?_append_right (by rw [be4_len]; omega), be4_len, List.getElem?_append_left (by omega), show (allB l).length + 4 + at_ - (allB l).length - 4 = at_ by omega]
  have e2 : (allB (l ++ [c] ++ m)).set ((allB l).length + 4 + at_) ((allB (l ++ [c] ++ m)).getD ((allB l).length + 4 + at_) 0 ^^^ y) = allB l ++ (be4 (body c).1.length ++ ((body c).1.set at_ ((body c).1.getD at_ 0 ^^^ y) ++ allB m)) := by
    rw [e1, e0, List.set_append_right _ _ (by omega), List.set_append_right _ _ (by rw [be4_len]; omega), be4_len, List.set_append_left _ _ (by omega), show (allB l).length + 4 + at_ - (allB l).length - 4 = at_ by omega]
  rw [e2]
  have hlen : (allB l).length + 4 + (body c).1.length + (allB m).length ≤ 1000000 := by
    rw [e0] at hs
    simp only [List.length_append, be4_len] at hs
    omega
  refine recover_all hl ?_ (by simp only [List.length_append, be4_len, List.length_set]; omega)
  generalize hb' : (body c).1.set at_ ((body c).1.getD at_ 0 ^^^ y) = b'
  have hb'l : b'.length = (body c).1.length := by rw [← hb']; simp
  have hbad : (parseT b').2 ≠ 0 := by rw [← hb']; exact one_bad (t := packCmd c) (Prod.ext rfl hc.1) ha hy
  unfold nextX
  rw [if_neg (by simp only [List.length_append, be4_len]; omega), List.drop_left]
  have h4 : List.take 4 (be4 (body c).1.length ++ (b' ++ allB m)) = be4 (body c).1.length := rfl
  rw [h4, beN_be4 _ (by omega)]
  dsimp only
  rw [if_neg (by simp only [List.length_append, be4_len]; omega)]
  have hr : ((allB l ++ (be4 (body c).1.length ++ (b' ++ allB m))).drop ((allB l).length + 4)).take (body c).1.length = b' := by
    rw [← List.drop_drop, List.drop_left]
    have : List.drop 4 (be4 (body c).1.length ++ (b' ++ allB m)) = b' ++ allB m := rfl
    rw [this, ← hb'l]
    simp
  rw [hr, if_neg hbad]
end Go.Proofs.Ytffpepmfdjjjaaa

namespace Go.Proofs.Ytffpepmfdjjjaaa
open Go.Pure
attribute [local irreducible] PW POps POpsD PO PC Cond

def oneCmd : VCmd := .mk 1 2 3 (.mk ⟨#[]⟩ 0 [] [] []) ⟨#[116]⟩ 0
theorem one_body : (body oneCmd).2 = 0 := by
  have hw : wrongT (packCmd oneCmd) = 0 := by simp [wrongT, oneCmd, packCmd, look, looks, numT, listT]
  have hE := enc_bulk (packCmd oneCmd)
  have hb : gbulk (packCmd oneCmd).g ≤ 100 := by
    have h1 := (cmd_bulks oneCmd).2
    have h2 : gbulk oneCmd.g = 11 := by
      rw [oneCmd, cmd_bulk]
      simp [gbulks]
      rfl
    omega
  unfold body bytesT
  rw [if_pos hw, if_neg (by omega)]
theorem one_sound : sound oneCmd := sound_of (by simp [oneCmd, VCmd.g, VTable.g, GV.cells, gwf, gwfs, VCol.gs, VRule.gs]; decide) one_body
theorem one_len : 8 < (recB oneCmd).length ∧ (recB oneCmd).length ≤ 1000000 := by
  have hb := one_body
  have hl := body_len oneCmd
  rw [recB_len]
  unfold body at *
  unfold bytesT at *
  split at hb
  · rename_i hw
    rw [if_pos hw] at *
    split at hb
    · cases hb
    · rename_i h1
      rw [if_neg h1] at *
      simp [four] at *
      have := varint_pos (fold64 3)
      have : 4 ≤ (enc (packCmd oneCmd)).length := by
        simp only [oneCmd, packCmd, enc, List.length_cons, List.length_append]
        have h2 := varint_pos (fold64 3)
        have h3 := varint_pos (⟨#[116]⟩ : ByteArray).size
        have h4 := varint_pos ([numT 1, numT 2, numT 0, .mk 0 0 ⟨#[]⟩ [listT (List.map packC []), listT (List.map packC []), listT (List.map packR [])]] : List Tr).length
        simp only [List.length_cons, List.length_nil] at h4
        omega
      omega
  · rename_i hw
    exact absurd hb hw

set_option maxRecDepth 100000 in
set_option maxHeartbeats 8000000 in
theorem alive14_pc : PC Try.prog 33 [] ⟨[], [], []⟩ (.g (.bool true)) ⟨[], [], []⟩ := by
  have hW := write_pc [oneCmd] (by
    have h2 : gbulk oneCmd.g = 11 := by
      rw [oneCmd, cmd_bulk]
      simp [gbulks]
      rfl
    simp [gbulks, h2])
  rw [writeJ_ok [oneCmd] [] (by simp [one_body]) (by have := one_len; rw [allB_one]; simp; omega), allB_one, List.nil_append] at hW
  have hR := recover_pc (recB oneCmd)
  have hF := recover_full (l := [oneCmd]) (by simp [one_sound]) (by have := one_len; rw [allB_one]; omega)
  rw [allB_one] at hF
  rw [hF] at hR
  have hl := one_len
  generalize recB oneCmd = bb at hW hR hl
  dsimp only at hW hR
  clear hF
  have hbb : (bys bb).length = bb.length := bys_len bb
  unfold oneCmd at hW hR
  refine PC_of_PW Try.func33 rfl rfl (rs := _) rfl (Nat.le_of_ble_eq_true (by kernel_rfl)) ?_
  (repeat' (first | (first | (refine qA ?_; try show PW _ _ _ _ _ _) | (refine qB ?_; try show PW _ _ _ _ _ _) | refine rO tabOk 300 rfl rfl ?_ | refine rO tabOk 6 rfl rfl ?_ | refine rO tabOk 1 rfl rfl ?_ | refine rD tabOk 300 rfl rfl ?_ | refine rD tabOk 6 rfl rfl ?_ | refine rD tabOk 1 rfl rfl ?_ | ((first | apply oR rfl rfl | (apply dR rfl rfl; focus (first | (apply cF rfl; intro _) | (apply cP rfl; intro _) | (apply cL rfl; intro _)))); focus (first | exact cl rfl rfl (EN rfl) (hW) rfl rfl rfl | exact cl rfl rfl (EN rfl) (hR) rfl rfl rfl | exact iA (g := (VCmd.mk 1 2 3 (.mk ⟨#[]⟩ 0 [] [] []) ⟨#[116]⟩ 0).g) rfl (EL rfl) (SZ rfl) rfl rfl (by decide) rfl rfl | exact cI rfl (IK rfl) (IK rfl) rfl | exact mF rfl | exact bS rfl (EL rfl) (SZ rfl) (AG rfl) (ZR rfl) rfl rfl rfl rfl rfl rfl rfl | exact nC rfl rfl)) | (apply dR rfl rfl; focus (first | exact Cond_c (cl rfl rfl (EN rfl) (hW) rfl rfl rfl) | exact Cond_c (cl rfl rfl (EN rfl) (hR) rfl rfl rfl))) | refine xS ?_ | refine xR ?_ | refine xD false false rfl rfl mixed (by decide +kernel) ?_ | refine xD false true rfl rfl mixed (by decide +kernel) ?_ | refine xD true false rfl rfl mixed (by decide +kernel) ?_ | refine xD true true rfl rfl mixed (by decide +kernel) ?_ | refine xB ?_ | (refine xN ?_; try show PW _ _ _ _ _ _) | (refine xE ?_; try show PW _ _ _ _ _ _) | (refine xT ?_; try show PW _ _ _ _ _ _) | refine xt rfl ?_ | refine xf rfl ?_) | refine POps_split rfl rfl (fun h => ?_) (fun h => ?_) | refine POpsD_split rfl rfl (fun h => ?_) (fun h => ?_) | refine PW_cond rfl (fun h => ?_) (fun h => ?_)))
  all_goals (first | (exfalso; rw [hbb] at h; simp at h; done) | (exfalso; simp at h; done) | skip)
  (first | refine Ret_int (vC vT vN) rfl ?_ | refine Ret_bool (vC vT vN) rfl ?_ | refine Ret_g (vC vT vN) rfl ?_ | refine Ret_int (vC (vA (AG rfl) (SZ rfl) rfl rfl (lB rfl)) vN) rfl ?_ | refine Ret_bool (vC (vA (AG rfl) (SZ rfl) rfl rfl (lB rfl)) vN) rfl ?_ | refine Ret_g (vC (vA (AG rfl) (SZ rfl) rfl rfl (lB rfl)) vN) rfl ?_)
  have := hl.1
  simp
  omega

set_option maxRecDepth 100000 in
set_option maxHeartbeats 8000000 in
theorem torn_none (l : List VCmd) (k : Int) (f : List UInt8) (e : Int) (hW : PC Try.prog 32 [.g (.sl (VCmd.gs l))] ⟨[], [], []⟩ (.tuple [.g (.sl (bys f)), .g (.int .i64 e)]) ⟨[], [], []⟩) (hx : e ≠ 0 ∨ k < 0 ∨ (f.length : Int) < k) :
    PC Try.prog 9 [.g (.sl (VCmd.gs l)), .g (.int .i64 k)] ⟨[], [], []⟩ (.g (.bool true)) ⟨[], [], []⟩ := by
  have hbb : (bys f).length = f.length := bys_len f
  refine PC_of_PW Try.func9 rfl rfl (rs := _) rfl (Nat.le_of_ble_eq_true (by kernel_rfl)) ?_
  (repeat' (first | (first | (refine qA ?_; try show PW _ _ _ _ _ _) | (refine qB ?_; try show PW _ _ _ _ _ _) | refine rO tabOk 300 rfl rfl ?_ | refine rO tabOk 6 rfl rfl ?_ | refine rO tabOk 1 rfl rfl ?_ | refine rD tabOk 300 rfl rfl ?_ | refine rD tabOk 6 rfl rfl ?_ | refine rD tabOk 1 rfl rfl ?_ | ((first | apply oR rfl rfl | (apply dR rfl rfl; focus (first | (apply cF rfl; intro _) | (apply cP rfl; intro _) | (apply cL rfl; intro _)))); focus (first | exact cl rfl rfl (EN rfl) (alive14_pc) rfl rfl rfl | exact cl rfl rfl (EN rfl) (hW) rfl rfl rfl | exact cI rfl (IK rfl) (IK rfl) rfl | exact mF rfl | exact bS rfl (EL rfl) (SZ rfl) (AG rfl) (ZR rfl) rfl rfl rfl rfl rfl rfl rfl | exact nC rfl rfl)) | (apply dR rfl rfl; focus (first | exact Cond_c (cl rfl rfl (EN rfl) (alive14_pc) rfl rfl rfl) | exact Cond_c (cl rfl rfl (EN rfl) (hW) rfl rfl rfl))) | refine xU [6] rfl ?_ | refine xR ?_ | refine xD false false rfl rfl mixed (by decide +kernel) ?_ | refine xD false true rfl rfl mixed (by decide +kernel) ?_ | refine xD true false rfl rfl mixed (by decide +kernel) ?_ | refine xD true true rfl rfl mixed (by decide +kernel) ?_ | refine xB ?_ | (refine xN ?_; try show PW _ _ _ _ _ _) | (refine xE ?_; try show PW _ _ _ _ _ _) | (refine xT ?_; try show PW _ _ _ _ _ _) | refine xt rfl ?_ | refine xf rfl ?_) | refine POps_split rfl rfl (fun h => ?_) (fun h => ?_) | refine POpsD_split rfl rfl (fun h => ?_) (fun h => ?_) | refine PW_cond rfl (fun h => ?_) (fun h => ?_)))
  · (first | refine Ret_int (vC vT vN) rfl ?_ | refine Ret_bool (vC vT vN) rfl ?_ | refine Ret_g (vC vT vN) rfl ?_ | refine Ret_int (vC (vA (AG rfl) (SZ rfl) rfl rfl (lB rfl)) vN) rfl ?_ | refine Ret_bool (vC (vA (AG rfl) (SZ rfl) rfl rfl (lB rfl)) vN) rfl ?_ | refine Ret_g (vC (vA (AG rfl) (SZ rfl) rfl rfl (lB rfl)) vN) rfl ?_)
    rfl
  · (first | refine Ret_int (vC vT vN) rfl ?_ | refine Ret_bool (vC vT vN) rfl ?_ | refine Ret_g (vC vT vN) rfl ?_ | refine Ret_int (vC (vA (AG rfl) (SZ rfl) rfl rfl (lB rfl)) vN) rfl ?_ | refine Ret_bool (vC (vA (AG rfl) (SZ rfl) rfl rfl (lB rfl)) vN) rfl ?_ | refine Ret_g (vC (vA (AG rfl) (SZ rfl) rfl rfl (lB rfl)) vN) rfl ?_)
    rfl
  · (first | refine Ret_int (vC vT vN) rfl ?_ | refine Ret_bool (vC vT vN) rfl ?_ | refine Ret_g (vC vT vN) rfl ?_ | refine Ret_int (vC (vA (AG rfl) (SZ rfl) rfl rfl (lB rfl)) vN) rfl ?_ | refine Ret_bool (vC (vA (AG rfl) (SZ rfl) rfl rfl (lB rfl)) vN) rfl ?_ | refine Ret_g (vC (vA (AG rfl) (SZ rfl) rfl rfl (lB rfl)) vN) rfl ?_)
    rfl
  · exfalso
    rename_i q1 q2
    rw [hbb] at h
    have h1 : e = 0 := by simpa [bne] using q1
    have h2 := of_decide_eq_false q2
    have h3 := of_decide_eq_false h
    omega

set_option maxRecDepth 100000 in
set_option maxHeartbeats 8000000 in
theorem torn_yes (l : List VCmd) (k : Nat) (hb : gbulks (l.map VCmd.g) ≤ 1048576) (hs : ∀ c ∈ l, sound c) (hW : PC Try.prog 32 [.g (.sl (VCmd.gs l))] ⟨[], [], []⟩ (.tuple [.g (.sl (bys (allB l))), .g (.int .i64 0)]) ⟨[], [], []⟩) (hk : k ≤ (allB l).length) (hl : (allB l).length ≤ 1000000) :
    PC Try.prog 9 [.g (.sl (VCmd.gs l)), .g (.int .i64 k)] ⟨[], [], []⟩ (.g (.bool true)) ⟨[], [], []⟩ := by
  obtain ⟨j, hj, hr, h1, h2⟩ := torn_plain l k hs hk hl
  have hln : l.length ≤ 1048576 := by have := map_len VCmd.one l; omega
  have hR := recover_pc ((allB l).take k)
  rw [hr] at hR
  dsimp only at hR
  have hbt : ∀ i, gbulks ((l.take i).map VCmd.g) ≤ 1048576 := fun i => by
    have := gbulks_take (l.map VCmd.g) i
    rw [← List.map_take] at this
    omega
  have hS := samecmds_pc (l.take j) (by have := hbt j; omega)
  have hlt : ∀ i, (allB (l.take i)).length ≤ 1000000 := fun i => by
    have e : allB l = allB (l.take i) ++ allB (l.drop i) := by rw [← allB_append, List.take_append_drop]
    have := congrArg List.length e
    rw [List.length_append] at this
    omega
  have hW1 := write_pc (l.take j) (hbt j)
  rw [writeJ_ok (l.take j) [] (fun c hc => (hs c (List.mem_of_mem_take hc)).1) (by have := hlt j; simp only [List.length_nil]; omega), List.nil_append] at hW1
  have hW2 := write_pc (l.take (j + 1)) (hbt (j + 1))
  rw [writeJ_ok (l.take (j + 1)) [] (fun c hc => (hs c (List.mem_of_mem_take hc)).1) (by have := hlt (j + 1); simp only [List.length_nil]; omega), List.nil_append] at hW2
  dsimp only at hW1 hW2
  have g1 : (VCmd.gs l).length = l.length := by simp [VCmd.gs]
  have g2 : (VCmd.gs (l.take j)).length = j := by simp [VCmd.gs]; omega
  have b1 : (bys (allB l)).length = (allB l).length := bys_len _
  have b2 : (bys (allB (l.take j))).length = (allB (l.take j)).length := bys_len _
  have b3 : (bys (allB (l.take (j + 1)))).length = (allB (l.take (j + 1))).length := bys_len _
  have hcl : ∀ x ∈ VCmd.gs l, x.cells.length = 10 := by
    intro x hx; obtain ⟨c, _, rfl⟩ := List.mem_map.1 hx; exact VCmd.cells c
  have z0 : 0 ≤ loOf none := by simp [loOf]
  have z1 : loOf none ≤ hiOf (VCmd.gs l).length (some (IntKind.i64, ((VCmd.gs (l.take j)).length : Int))) := by simp [loOf, hiOf]
  have z2 : hiOf (VCmd.gs l).length (some (IntKind.i64, ((VCmd.gs (l.take j)).length : Int))) ≤ (VCmd.gs l).length := by simp only [hiOf]; rw [g1, g2]; omega
  have z3 : ((VCmd.gs l).drop (loOf none).toNat).take ((hiOf (VCmd.gs l).length (some (IntKind.i64, ((VCmd.gs (l.take j)).length : Int)))).toNat - (loOf none).toNat) = VCmd.gs (l.take j) := by
    simp only [hiOf, loOf, g2]
    simp [VCmd.gs, List.map_take]
  by_cases hjl : j < l.length
  · have w1 : IntKind.i64.wrap (((VCmd.gs (l.take j)).length : Int) + 1) = ((j + 1 : Nat) : Int) := by rw [g2, wrap64 (by omega)]; omega
    have z4 : loOf none ≤ hiOf (VCmd.gs l).length (some (IntKind.i64, IntKind.i64.wrap (((VCmd.gs (l.take j)).length : Int) + 1))) := by simp only [loOf, hiOf]; rw [w1]; omega
    have z5 : hiOf (VCmd.gs l).length (some (IntKind.i64, IntKind.i64.wrap (((VCmd.gs (l.take j)).length : Int) + 1))) ≤ (VCmd.gs l).length := by simp only [hiOf]; rw [g1, w1]; omega
    have z6 : ((VCmd.gs l).drop (loOf none).toNat).take ((hiOf (VCmd.gs l).length (some (IntKind.i64, IntKind.i64.wrap (((VCmd.gs (l.take j)).length : Int) + 1)))).toNat - (loOf none).toNat) = VCmd.gs (l.take (j + 1)) := by
      simp only [hiOf, loOf, w1]
      simp [VCmd.gs, List.map_take]
    have h2 := h2 hjl
    refine PC_of_PW Try.func9 rfl rfl (rs := _) rfl (Nat.le_of_ble_eq_true (by kernel_rfl)) ?_
    (repeat' (first | (first | (refine qA ?_; try show PW _ _ _ _ _ _) | (refine qB ?_; try show PW _ _ _ _ _ _) | refine rO tabOk 300 rfl rfl ?_ | refine rO tabOk 6 rfl rfl ?_ | refine rO tabOk 1 rfl rfl ?_ | refine rD tabOk 300 rfl rfl ?_ | refine rD tabOk 6 rfl rfl ?_ | refine rD tabOk 1 rfl rfl ?_ | ((first | apply oR rfl rfl | (apply dR rfl rfl; focus (first | (apply cF rfl; intro _) | (apply cP rfl; intro _) | (apply cL rfl; intro _)))); focus (first | exact cl rfl rfl (EN rfl) (alive14_pc) rfl rfl rfl | exact cl rfl rfl (EN rfl) (hW) rfl rfl rfl | exact cl rfl rfl (EN rfl) (hR) rfl rfl rfl | exact cl rfl rfl (EN rfl) (hS) rfl rfl rfl | exact cl rfl rfl (EN rfl) (hW1) rfl rfl rfl | exact cl rfl rfl (EN rfl) (hW2) rfl rfl rfl | exact PO_slice_bys ((allB l).take k) 0 k rfl (EL rfl) (SZ rfl) rfl rfl rfl rfl rfl (Nat.zero_le _) hk (by simp) | exact PO_as (PO_slice_sl rfl (EL rfl) (SZ rfl) rfl rfl rfl z0 z1 z2 hcl) (congrArg (fun z => PV.g (.sl z)) z3) | exact PO_as (PO_slice_sl rfl (EL rfl) (SZ rfl) rfl rfl rfl z0 z4 z5 hcl) (congrArg (fun z => PV.g (.sl z)) z6) | exact cI rfl (IK rfl) (IK rfl) rfl | exact mF rfl | exact bS rfl (EL rfl) (SZ rfl) (AG rfl) (ZR rfl) rfl rfl rfl rfl rfl rfl rfl | exact nC rfl rfl)) | (apply dR rfl rfl; focus (first | exact Cond_c (cl rfl rfl (EN rfl) (alive14_pc) rfl rfl rfl) | exact Cond_c (cl rfl rfl (EN rfl) (hW) rfl rfl rfl) | exact Cond_c (cl rfl rfl (EN rfl) (hR) rfl rfl rfl) | exact Cond_c (cl rfl rfl (EN rfl) (hS) rfl rfl rfl) | exact Cond_c (cl rfl rfl (EN rfl) (hW1) rfl rfl rfl) | exact Cond_c (cl rfl rfl (EN rfl) (hW2) rfl rfl rfl) | exact Cond_c (PO_slice_bys ((allB l).take k) 0 k rfl (EL rfl) (SZ rfl) rfl rfl rfl rfl rfl (Nat.zero_le _) hk (by simp)))) | refine xS ?_ | refine xR ?_ | refine xD false false rfl rfl mixed (by decide +kernel) ?_ | refine xD false true rfl rfl mixed (by decide +kernel) ?_ | refine xD true false rfl rfl mixed (by decide +kernel) ?_ | refine xD true true rfl rfl mixed (by decide +kernel) ?_ | refine xB ?_ | (refine xN ?_; try show PW _ _ _ _ _ _) | (refine xE ?_; try show PW _ _ _ _ _ _) | (refine xT ?_; try show PW _ _ _ _ _ _) | refine xt rfl ?_ | refine xf rfl ?_) | refine POps_split rfl rfl (fun h => ?_) (fun h => ?_) | refine POpsD_split rfl rfl (fun h => ?_) (fun h => ?_) | refine PW_cond rfl (fun h => ?_) (fun h => ?_)))
    all_goals (first | (exfalso; simp [g1, g2, b1, b2, b3] at h <;> omega) | ((first | refine Ret_int (vC vT vN) rfl ?_ | refine Ret_bool (vC vT vN) rfl ?_ | refine Ret_g (vC vT vN) rfl ?_ | refine Ret_int (vC (vA (AG rfl) (SZ rfl) rfl rfl (lB rfl)) vN) rfl ?_ | refine Ret_bool (vC (vA (AG rfl) (SZ rfl) rfl rfl (lB rfl)) vN) rfl ?_ | refine Ret_g (vC (vA (AG rfl) (SZ rfl) rfl rfl (lB rfl)) vN) rfl ?_); simp [g1, g2, b1, b2, b3] <;> omega) | ((first | refine Ret_int (vC vT vN) rfl ?_ | refine Ret_bool (vC vT vN) rfl ?_ | refine Ret_g (vC vT vN) rfl ?_ | refine Ret_int (vC (vA (AG rfl) (SZ rfl) rfl rfl (lB rfl)) vN) rfl ?_ | refine Ret_bool (vC (vA (AG rfl) (SZ rfl) rfl rfl (lB rfl)) vN) rfl ?_ | refine Ret_g (vC (vA (AG rfl) (SZ rfl) rfl rfl (lB rfl)) vN) rfl ?_); rfl))
  · have b4 : (allB (l.take j)).length = (allB l).length := by rw [List.take_of_length_le (by omega)]
    refine PC_of_PW Try.func9 rfl rfl (rs := _) rfl (Nat.le_of_ble_eq_true (by kernel_rfl)) ?_
    (repeat' (first | (first | (refine qA ?_; try show PW _ _ _ _ _ _) | (refine qB ?_; try show PW _ _ _ _ _ _) | refine rO tabOk 300 rfl rfl ?_ | refine rO tabOk 6 rfl rfl ?_ | refine rO tabOk 1 rfl rfl ?_ | refine rD tabOk 300 rfl rfl ?_ | refine rD tabOk 6 rfl rfl ?_ | refine rD tabOk 1 rfl rfl ?_ | ((first | apply oR rfl rfl | (apply dR rfl rfl; focus (first | (apply cF rfl; intro _) | (apply cP rfl; intro _) | (apply cL rfl; intro _)))); focus (first | exact cl rfl rfl (EN rfl) (alive14_pc) rfl rfl rfl | exact cl rfl rfl (EN rfl) (hW) rfl rfl rfl | exact cl rfl rfl (EN rfl) (hR) rfl rfl rfl | exact cl rfl rfl (EN rfl) (hS) rfl rfl rfl | exact cl rfl rfl (EN rfl) (hW1) rfl rfl rfl | exact cl rfl rfl (EN rfl) (hW2) rfl rfl rfl | exact PO_slice_bys ((allB l).take k) 0 k rfl (EL rfl) (SZ rfl) rfl rfl rfl rfl rfl (Nat.zero_le _) hk (by simp) | exact PO_as (PO_slice_sl rfl (EL rfl) (SZ rfl) rfl rfl rfl z0 z1 z2 hcl) (congrArg (fun z => PV.g (.sl z)) z3) | exact cI rfl (IK rfl) (IK rfl) rfl | exact mF rfl | exact bS rfl (EL rfl) (SZ rfl) (AG rfl) (ZR rfl) rfl rfl rfl rfl rfl rfl rfl | exact nC rfl rfl)) | (apply dR rfl rfl; focus (first | exact Cond_c (cl rfl rfl (EN rfl) (alive14_pc) rfl rfl rfl) | exact Cond_c (cl rfl rfl (EN rfl) (hW) rfl rfl rfl) | exact Cond_c (cl rfl rfl (EN rfl) (hR) rfl rfl rfl) | exact Cond_c (cl rfl rfl (EN rfl) (hS) rfl rfl rfl) | exact Cond_c (cl rfl rfl (EN rfl) (hW1) rfl rfl rfl) | exact Cond_c (cl rfl rfl (EN rfl) (hW2) rfl rfl rfl) | exact Cond_c (PO_slice_bys ((allB l).take k) 0 k rfl (EL rfl) (SZ rfl) rfl rfl rfl rfl rfl (Nat.zero_le _) hk (by simp)))) | refine xU [14] rfl ?_ | refine xR ?_ | refine xD false false rfl rfl mixed (by decide +kernel) ?_ | refine xD false true rfl rfl mixed (by decide +kernel) ?_ | refine xD true false rfl rfl mixed (by decide +kernel) ?_ | refine xD true true rfl rfl mixed (by decide +kernel) ?_ | refine xB ?_ | (refine xN ?_; try show PW _ _ _ _ _ _) | (refine xE ?_; try show PW _ _ _ _ _ _) | (refine xT ?_; try show PW _ _ _ _ _ _) | refine xt rfl ?_ | refine xf rfl ?_) | refine POps_split rfl rfl (fun h => ?_) (fun h => ?_) | refine POpsD_split rfl rfl (fun h => ?_) (fun h => ?_) | refine PW_cond rfl (fun h => ?_) (fun h => ?_)))
    all_goals (first | (exfalso; simp [g1, g2, b1, b2, b3] at h <;> omega) | ((first | refine Ret_int (vC vT vN) rfl ?_ | refine Ret_bool (vC vT vN) rfl ?_ | refine Ret_g (vC vT vN) rfl ?_ | refine Ret_int (vC (vA (AG rfl) (SZ rfl) rfl rfl (lB rfl)) vN) rfl ?_ | refine Ret_bool (vC (vA (AG rfl) (SZ rfl) rfl rfl (lB rfl)) vN) rfl ?_ | refine Ret_g (vC (vA (AG rfl) (SZ rfl) rfl rfl (lB rfl)) vN) rfl ?_); simp [g1, g2, b1, b2, b3] <;> omega) | ((first | refine Ret_int (vC vT vN) rfl ?_ | refine Ret_bool (vC vT vN) rfl ?_ | refine Ret_g (vC vT vN) rfl ?_ | refine Ret_int (vC (vA (AG rfl) (SZ rfl) rfl rfl (lB rfl)) vN) rfl ?_ | refine Ret_bool (vC (vA (AG rfl) (SZ rfl) rfl rfl (lB rfl)) vN) rfl ?_ | refine Ret_g (vC (vA (AG rfl) (SZ rfl) rfl rfl (lB rfl)) vN) rfl ?_); simp [b1, b4]) | ((first | refine Ret_int (vC vT vN) rfl ?_ | refine Ret_bool (vC vT vN) rfl ?_ | refine Ret_g (vC vT vN) rfl ?_ | refine Ret_int (vC (vA (AG rfl) (SZ rfl) rfl rfl (lB rfl)) vN) rfl ?_ | refine Ret_bool (vC (vA (AG rfl) (SZ rfl) rfl rfl (lB rfl)) vN) rfl ?_ | refine Ret_g (vC (vA (AG rfl) (SZ rfl) rfl rfl (lB rfl)) vN) rfl ?_); rfl))
end Go.Proofs.Ytffpepmfdjjjaaa

namespace Go.Proofs.Ytffpepmfdjjjaaa
open Go.Pure
attribute [local irreducible] PW POps POpsD PO PC Cond

theorem torn_pc (l : List VCmd) (k : Int) (hb : gbulks (l.map VCmd.g) ≤ 1048576) (hw : gwfs (l.map VCmd.g)) :
    PC Try.prog 9 [.g (.sl (VCmd.gs l)), .g (.int .i64 k)] ⟨[], [], []⟩ (.g (.bool true)) ⟨[], [], []⟩ := by
  have hW := write_pc l hb
  have hA := writeJ_all l [] (writeJ l []).1
  generalize hr : writeJ l [] = r at hW hA
  obtain ⟨f, e⟩ := r
  dsimp only at hW hA
  by_cases hx : e ≠ 0 ∨ k < 0 ∨ (f.length : Int) < k
  · exact torn_none l k f e hW hx
  · have he : e = 0 := by omega
    subst he
    obtain ⟨h1, h2, h3⟩ := hA rfl
    rw [List.nil_append] at h1
    subst h1
    obtain ⟨n, rfl⟩ : ∃ n : Nat, k = n := ⟨k.toNat, by omega⟩
    refine torn_yes l n hb (fun c hc => sound_of (gwfs_iff.1 hw _ (List.mem_map_of_mem hc)) (h2 c hc)) hW (by omega) ?_
    cases l with
    | nil => simp [allB]
    | cons c l => exact h3 (by simp)

set_option maxRecDepth 100000 in
set_option maxHeartbeats 8000000 in
theorem goes_err (file : List UInt8) (c : VCmd) (l : List VCmd) (n : Nat) (e : Int) (hR : PC Try.prog 29 [.g (.sl (bys file))] ⟨[], [], []⟩ (.tuple [.g (.sl (VCmd.gs l)), .g (.int .i64 n), .g (.int .i64 e)]) ⟨[], [], []⟩) (he : e ≠ 0) :
    PC Try.prog 10 [.g (.sl (bys file)), .g c.g] ⟨[], [], []⟩ (.g (.bool true)) ⟨[], [], []⟩ := by
  obtain ⟨session, seq, kind, ⟨tname, policy, ins, outs, rules⟩, name, to⟩ := c
  refine PC_of_PW Try.func10 rfl rfl (rs := _) rfl (Nat.le_of_ble_eq_true (by kernel_rfl)) ?_
  (repeat' (first | (first | (refine qA ?_; try show PW _ _ _ _ _ _) | (refine qB ?_; try show PW _ _ _ _ _ _) | refine rO tabOk 300 rfl rfl ?_ | refine rO tabOk 6 rfl rfl ?_ | refine rO tabOk 1 rfl rfl ?_ | refine rD tabOk 300 rfl rfl ?_ | refine rD tabOk 6 rfl rfl ?_ | refine rD tabOk 1 rfl rfl ?_ | ((first | apply oR rfl rfl | (apply dR rfl rfl; focus (first | (apply cF rfl; intro _) | (apply cP rfl; intro _) | (apply cL rfl; intro _)))); focus (first | exact cl rfl rfl (EN rfl) (alive14_pc) rfl rfl rfl | exact cl rfl rfl (EN rfl) (hR) rfl rfl rfl | exact cI rfl (IK rfl) (IK rfl) rfl | exact mF rfl | exact bS rfl (EL rfl) (SZ rfl) (AG rfl) (ZR rfl) rfl rfl rfl rfl rfl rfl rfl | exact nC rfl rfl)) | (apply dR rfl rfl; focus (first | exact Cond_c (cl rfl rfl (EN rfl) (alive14_pc) rfl rfl rfl) | exact Cond_c (cl rfl rfl (EN rfl) (hR) rfl rfl rfl))) | refine xU [6] rfl ?_ | refine xR ?_ | refine xD false false rfl rfl mixed (by decide +kernel) ?_ | refine xD false true rfl rfl mixed (by decide +kernel) ?_ | refine xD true false rfl rfl mixed (by decide +kernel) ?_ | refine xD true true rfl rfl mixed (by decide +kernel) ?_ | refine xB ?_ | (refine xN ?_; try show PW _ _ _ _ _ _) | (refine xE ?_; try show PW _ _ _ _ _ _) | (refine xT ?_; try show PW _ _ _ _ _ _) | refine xt rfl ?_ | refine xf rfl ?_) | refine POps_split rfl rfl (fun h => ?_) (fun h => ?_) | refine POpsD_split rfl rfl (fun h => ?_) (fun h => ?_) | refine PW_cond rfl (fun h => ?_) (fun h => ?_)))
  all_goals (first | (exfalso; simp at h; done) | (exfalso; exact he (by simp [bne] at h; assumption)) | ((first | refine Ret_int (vC vT vN) rfl ?_ | refine Ret_bool (vC vT vN) rfl ?_ | refine Ret_g (vC vT vN) rfl ?_ | refine Ret_int (vC (vA (AG rfl) (SZ rfl) rfl rfl (lB rfl)) vN) rfl ?_ | refine Ret_bool (vC (vA (AG rfl) (SZ rfl) rfl rfl (lB rfl)) vN) rfl ?_ | refine Ret_g (vC (vA (AG rfl) (SZ rfl) rfl rfl (lB rfl)) vN) rfl ?_); simp [bne, he]) | skip)
  all_goals (exfalso; first | exact he (by simpa [bne] using h) | (rename_i q; exact he (by simpa [bne] using q)) | (rename_i q _; exact he (by simpa [bne] using q)))

set_option maxRecDepth 100000 in
set_option maxHeartbeats 8000000 in
theorem goes_noroom (file : List UInt8) (c : VCmd) (l : List VCmd) (n : Nat) (f : List UInt8) (e : Int) (hn : n ≤ file.length) (hR : PC Try.prog 29 [.g (.sl (bys file))] ⟨[], [], []⟩ (.tuple [.g (.sl (VCmd.gs l)), .g (.int .i64 n), .g (.int .i64 0)]) ⟨[], [], []⟩)
    (hA : PC Try.prog 27 [.g (.sl (bys (file.take n))), .g c.g] ⟨[], [], []⟩ (.tuple [.g (.sl (bys f)), .g (.int .i64 e)]) ⟨[], [], []⟩) (he : e ≠ 0) :
    PC Try.prog 10 [.g (.sl (bys file)), .g c.g] ⟨[], [], []⟩ (.g (.bool true)) ⟨[], [], []⟩ := by
  have b1 : (bys file).length = file.length := bys_len _
  obtain ⟨session, seq, kind, ⟨tname, policy, ins, outs, rules⟩, name, to⟩ := c
  refine PC_of_PW Try.func10 rfl rfl (rs := _) rfl (Nat.le_of_ble_eq_true (by kernel_rfl)) ?_
  (repeat' (first | (first | (refine qA ?_; try show PW _ _ _ _ _ _) | (refine qB ?_; try show PW _ _ _ _ _ _) | refine rO tabOk 300 rfl rfl ?_ | refine rO tabOk 6 rfl rfl ?_ | refine rO tabOk 1 rfl rfl ?_ | refine rD tabOk 300 rfl rfl ?_ | refine rD tabOk 6 rfl rfl ?_ | refine rD tabOk 1 rfl rfl ?_ | ((first | apply oR rfl rfl | (apply dR rfl rfl; focus (first | (apply cF rfl; intro _) | (apply cP rfl; intro _) | (apply cL rfl; intro _)))); focus (first | exact cl rfl rfl (EN rfl) (alive14_pc) rfl rfl rfl | exact cl rfl rfl (EN rfl) (hR) rfl rfl rfl | exact cl rfl rfl (EN rfl) (hA) rfl rfl rfl | exact PO_slice_bys (file.take n) 0 n rfl (EL rfl) (SZ rfl) rfl rfl rfl rfl rfl (Nat.zero_le _) hn (by simp) | exact cI rfl (IK rfl) (IK rfl) rfl | exact mF rfl | exact bS rfl (EL rfl) (SZ rfl) (AG rfl) (ZR rfl) rfl rfl rfl rfl rfl rfl rfl | exact nC rfl rfl)) | (apply dR rfl rfl; focus (first | exact Cond_c (cl rfl rfl (EN rfl) (alive14_pc) rfl rfl rfl) | exact Cond_c (cl rfl rfl (EN rfl) (hR) rfl rfl rfl) | exact Cond_c (cl rfl rfl (EN rfl) (hA) rfl rfl rfl) | exact Cond_c (PO_slice_bys (file.take n) 0 n rfl (EL rfl) (SZ rfl) rfl rfl rfl rfl rfl (Nat.zero_le _) hn (by simp)))) | refine xU [9] rfl ?_ | refine xR ?_ | refine xD false false rfl rfl mixed (by decide +kernel) ?_ | refine xD false true rfl rfl mixed (by decide +kernel) ?_ | refine xD true false rfl rfl mixed (by decide +kernel) ?_ | refine xD true true rfl rfl mixed (by decide +kernel) ?_ | refine xB ?_ | (refine xN ?_; try show PW _ _ _ _ _ _) | (refine xE ?_; try show PW _ _ _ _ _ _) | (refine xT ?_; try show PW _ _ _ _ _ _) | refine xt rfl ?_ | refine xf rfl ?_) | refine POps_split rfl rfl (fun h => ?_) (fun h => ?_) | refine POpsD_split rfl rfl (fun h => ?_) (fun h => ?_) | refine PW_cond rfl (fun h => ?_) (fun h => ?_)))
  all_goals (first | (exfalso; simp [b1] at h <;> omega) | ((first | refine Ret_int (vC vT vN) rfl ?_ | refine Ret_bool (vC vT vN) rfl ?_ | refine Ret_g (vC vT vN) rfl ?_ | refine Ret_int (vC (vA (AG rfl) (SZ rfl) rfl rfl (lB rfl)) vN) rfl ?_ | refine Ret_bool (vC (vA (AG rfl) (SZ rfl) rfl rfl (lB rfl)) vN) rfl ?_ | refine Ret_g (vC (vA (AG rfl) (SZ rfl) rfl rfl (lB rfl)) vN) rfl ?_); rfl) | skip)
  all_goals (exfalso; exact he (by simpa [bne] using h))

set_option maxRecDepth 100000 in
set_option maxHeartbeats 8000000 in
theorem goes_good (file : List UInt8) (c : VCmd) (l : List VCmd) (n : Nat) (f : List UInt8) (hn : n ≤ file.length) (hc : gbulk c.g ≤ 1048576) (hl : gbulks (l.map VCmd.g) ≤ 1000000) (hR : PC Try.prog 29 [.g (.sl (bys file))] ⟨[], [], []⟩ (.tuple [.g (.sl (VCmd.gs l)), .g (.int .i64 n), .g (.int .i64 0)]) ⟨[], [], []⟩)
    (hA : PC Try.prog 27 [.g (.sl (bys (file.take n))), .g c.g] ⟨[], [], []⟩ (.tuple [.g (.sl (bys f)), .g (.int .i64 0)]) ⟨[], [], []⟩)
    (hR2 : PC Try.prog 29 [.g (.sl (bys f))] ⟨[], [], []⟩ (.tuple [.g (.sl (VCmd.gs (l ++ [c]))), .g (.int .i64 f.length), .g (.int .i64 0)]) ⟨[], [], []⟩) :
    PC Try.prog 10 [.g (.sl (bys file)), .g c.g] ⟨[], [], []⟩ (.g (.bool true)) ⟨[], [], []⟩ := by
  have b1 : (bys file).length = file.length := bys_len _
  have b2 : (bys f).length = f.length := bys_len _
  have hln : l.length ≤ 1000000 := by have := map_len VCmd.one l; omega
  have g1 : (VCmd.gs l).length = l.length := by simp [VCmd.gs]
  have g2 : (VCmd.gs (l ++ [c])).length = l.length + 1 := by simp [VCmd.gs]
  have hS := samecmds_pc l (by omega)
  have hC := samecmd_pc c (by omega)
  have hcl : ∀ x ∈ VCmd.gs (l ++ [c]), x.cells.length = 10 := by
    intro x hx; obtain ⟨c, _, rfl⟩ := List.mem_map.1 hx; exact VCmd.cells c
  have z0 : 0 ≤ loOf none := by simp [loOf]
  have z1 : loOf none ≤ hiOf (VCmd.gs (l ++ [c])).length (some (IntKind.i64, ((VCmd.gs l).length : Int))) := by simp [loOf, hiOf]
  have z2 : hiOf (VCmd.gs (l ++ [c])).length (some (IntKind.i64, ((VCmd.gs l).length : Int))) ≤ (VCmd.gs (l ++ [c])).length := by simp only [hiOf]; rw [g1, g2]; omega
  have z3 : ((VCmd.gs (l ++ [c])).drop (loOf none).toNat).take ((hiOf (VCmd.gs (l ++ [c])).length (some (IntKind.i64, ((VCmd.gs l).length : Int)))).toNat - (loOf none).toNat) = VCmd.gs l := by
    simp only [hiOf, loOf, g1]
    simp [VCmd.gs]
  have hw : IntKind.i64.wrap (((VCmd.gs l).length : Int) + 1) = ((l.length + 1 : Nat) : Int) := by rw [g1, wrap64 (by omega)]; omega
  have hg : (VCmd.gs (l ++ [c]))[(((VCmd.gs l).length : Nat) : Int).toNat]? = some c.g := by
    simp [VCmd.gs]
  have hgc : c.g.cells.length = 10 := VCmd.cells c
  generalize hlc : VCmd.gs (l ++ [c]) = gl at hR2 g2 hcl z1 z2 z3 hg
  obtain ⟨session, seq, kind, ⟨tname, policy, ins, outs, rules⟩, name, to⟩ := c
  refine PC_of_PW Try.func10 rfl rfl (rs := _) rfl (Nat.le_of_ble_eq_true (by kernel_rfl)) ?_
  (repeat' (first | (first | (refine qA ?_; try show PW _ _ _ _ _ _) | (refine qB ?_; try show PW _ _ _ _ _ _) | refine rO tabOk 300 rfl rfl ?_ | refine rO tabOk 6 rfl rfl ?_ | refine rO tabOk 1 rfl rfl ?_ | refine rD tabOk 300 rfl rfl ?_ | refine rD tabOk 6 rfl rfl ?_ | refine rD tabOk 1 rfl rfl ?_ | ((first | apply oR rfl rfl | (apply dR rfl rfl; focus (first | (apply cF rfl; intro _) | (apply cP rfl; intro _) | (apply cL rfl; intro _)))); focus (first | exact cl rfl rfl (EN rfl) (alive14_pc) rfl rfl rfl | exact cl rfl rfl (EN rfl) (hR) rfl rfl rfl | exact cl rfl rfl (EN rfl) (hA) rfl rfl rfl | exact cl rfl rfl (EN rfl) (hR2) rfl rfl rfl | exact cl rfl rfl (EN rfl) (hS) rfl rfl rfl | exact cl rfl rfl (EN rfl) (hC) rfl rfl rfl | exact PO_slice_bys (file.take n) 0 n rfl (EL rfl) (SZ rfl) rfl rfl rfl rfl rfl (Nat.zero_le _) hn (by simp) | exact PO_as (PO_slice_sl rfl (EL rfl) (SZ rfl) rfl rfl rfl z0 z1 z2 hcl) (congrArg (fun z => PV.g (.sl z)) z3) | exact iA rfl (EL rfl) (SZ rfl) rfl rfl (Int.natCast_nonneg _) hg rfl | exact cI rfl (IK rfl) (IK rfl) rfl | exact mF rfl | exact bS rfl (EL rfl) (SZ rfl) (AG rfl) (ZR rfl) rfl rfl rfl rfl rfl rfl rfl | exact nC rfl rfl)) | (apply dR rfl rfl; focus (first | exact Cond_c (cl rfl rfl (EN rfl) (alive14_pc) rfl rfl rfl) | exact Cond_c (cl rfl rfl (EN rfl) (hR) rfl rfl rfl) | exact Cond_c (cl rfl rfl (EN rfl) (hA) rfl rfl rfl) | exact Cond_c (cl rfl rfl (EN rfl) (hR2) rfl rfl rfl) | exact Cond_c (cl rfl rfl (EN rfl) (hS) rfl rfl rfl) | exact Cond_c (cl rfl rfl (EN rfl) (hC) rfl rfl rfl) | exact Cond_c (PO_slice_bys (file.take n) 0 n rfl (EL rfl) (SZ rfl) rfl rfl rfl rfl rfl (Nat.zero_le _) hn (by simp)))) | refine xS ?_ | refine xR ?_ | refine xD false false rfl rfl mixed (by decide +kernel) ?_ | refine xD false true rfl rfl mixed (by decide +kernel) ?_ | refine xD true false rfl rfl mixed (by decide +kernel) ?_ | refine xD true true rfl rfl mixed (by decide +kernel) ?_ | refine xB ?_ | (refine xN ?_; try show PW _ _ _ _ _ _) | (refine xE ?_; try show PW _ _ _ _ _ _) | (refine xT ?_; try show PW _ _ _ _ _ _) | refine xt rfl ?_ | refine xf rfl ?_) | refine POps_split rfl rfl (fun h => ?_) (fun h => ?_) | refine POpsD_split rfl rfl (fun h => ?_) (fun h => ?_) | refine PW_cond rfl (fun h => ?_) (fun h => ?_)))
  all_goals (first | (exfalso; simp [b1, b2] at h <;> omega) | (exfalso; rw [hw, g2] at h; simp at h; done) | ((first | refine Ret_int (vC vT vN) rfl ?_ | refine Ret_bool (vC vT vN) rfl ?_ | refine Ret_g (vC vT vN) rfl ?_ | refine Ret_int (vC (vA (AG rfl) (SZ rfl) rfl rfl (lB rfl)) vN) rfl ?_ | refine Ret_bool (vC (vA (AG rfl) (SZ rfl) rfl rfl (lB rfl)) vN) rfl ?_ | refine Ret_g (vC (vA (AG rfl) (SZ rfl) rfl rfl (lB rfl)) vN) rfl ?_); rfl) | skip)

theorem goes_pc (file : List UInt8) (c : VCmd) (hc : gbulk c.g ≤ 1048576) (hw : gwf c.g) : PC Try.prog 10 [.g (.sl (bys file)), .g c.g] ⟨[], [], []⟩ (.g (.bool true)) ⟨[], [], []⟩ := by
  have hR := recover_pc file
  have hG := fun h => goes_plain (file := file) (l := (recoverJ file).1) (n := (recoverJ file).2.1) (e := (recoverJ file).2.2) rfl h
  generalize recoverJ file = r at hR hG
  obtain ⟨l, n, e⟩ := r
  dsimp only at hR hG
  by_cases he : e = 0
  · subst he
    obtain ⟨h1, h2, h3, h4, h5, h6⟩ := hG rfl
    have hA := append_pc (file.take n) c hc (by simp; omega)
    have hAl := append_len (file := file.take n) (c := c)
    have hAe : (appendJ (file.take n) c).2 = 0 → (body c).2 = 0 ∧ (appendJ (file.take n) c).1 = allB (l ++ [c]) := fun h => by
      unfold appendJ at h ⊢
      split at h
      · rename_i hb
        split at h
        · cases h
        · rename_i hs
          rw [if_pos hb, if_neg hs]
          exact ⟨hb, by rw [h2, allB_append, allB_one]; rfl⟩
      · rename_i hb; exact absurd h hb
    generalize appendJ (file.take n) c = a at hA hAl hAe
    obtain ⟨f, e2⟩ := a
    dsimp only at hA hAl hAe
    by_cases he2 : e2 = 0
    · subst he2
      obtain ⟨k1, rfl⟩ := hAe rfl
      have hs : ∀ x ∈ l ++ [c], sound x := by
        intro x hx
        rcases List.mem_append.1 hx with hx | hx
        · exact h1 x hx
        · rw [List.mem_singleton.1 hx]; exact sound_of hw k1
      have hR2 := recover_pc (allB (l ++ [c]))
      rw [recover_full hs (hAl rfl)] at hR2
      exact goes_good file c l n _ h4 hc h5 hR hA hR2
    · exact goes_noroom file c l n f e2 h4 hR hA he2
  · exact goes_err file c l n e hR he
end Go.Proofs.Ytffpepmfdjjjaaa

namespace Go.Proofs.Ytffpepmfdjjjaaa
open Go.Pure
attribute [local irreducible] PW POps POpsD PO PC Cond

theorem xor_byte (a : UInt8) (x : BitVec 32) (k : Nat) (hk : k < 4) :
    IntKind.u8.wrap ((BitVec.ofInt IntKind.u8.bits (a.toNat : Int) ^^^ BitVec.ofInt IntKind.u8.bits (IntKind.u8.wrap ((x.toNat : Int).fdiv (2 ^ min (IntKind.i64.wrap (8 * (k : Int))).toNat IntKind.u32.bits)))).toNat : Int) = ((a ^^^ xb x k).toNat : Int) := by
  have hxl := x.isLt
  have e1 : min (IntKind.i64.wrap (8 * (k : Int))).toNat IntKind.u32.bits = 8 * k := by
    rw [wrap64 (by omega)]
    have : IntKind.u32.bits = 32 := rfl
    rw [this]; omega
  have e2 : (x.toNat : Int).fdiv (2 ^ (8 * k)) = ((x.toNat / 2 ^ (8 * k) : Nat) : Int) := by
    have : (2 : Int) ^ (8 * k) = ((2 ^ (8 * k) : Nat) : Int) := by push_cast; rfl
    rw [this, fdivN]
  rw [e1, e2, u8wrap]
  have ha := a.toNat_lt
  have hy : x.toNat / 2 ^ (8 * k) % 256 < 256 := Nat.mod_lt _ (by decide)
  show IntKind.u8.wrap ((BitVec.ofInt 8 (a.toNat : Int) ^^^ BitVec.ofInt 8 ((x.toNat / 2 ^ (8 * k) % 256 : Nat) : Int)).toNat : Int) = _
  rw [BitVec.ofInt_natCast, BitVec.ofInt_natCast, u8wrap, BitVec.toNat_xor, BitVec.toNat_ofNat, BitVec.toNat_ofNat, UInt8.toNat_xor]
  unfold xb
  rw [u8of _ hy]
  have hx8 : a.toNat ^^^ (x.toNat / 2 ^ (8 * k) % 256) < 2 ^ 8 := Nat.xor_lt_two_pow (by omega) (by omega)
  rw [Nat.mod_eq_of_lt (by omega : a.toNat < 2 ^ 8), Nat.mod_eq_of_lt (by omega : x.toNat / 2 ^ (8 * k) % 256 < 2 ^ 8), Nat.mod_eq_of_lt hx8]
theorem bys_set (l : List UInt8) (n : Nat) (v : UInt8) : (bys l).set n (byteG v) = bys (l.set n v) := by simp [bys, List.map_set]
theorem bys_at (l : List UInt8) (n : Nat) (h : n < l.length) : (bys l)[n]? = some (byteG (l.getD n 0)) := by simp [bys, h]

set_option maxRecDepth 100000 in
set_option maxHeartbeats 8000000 in
theorem guards_pc (tag tn : Int) (text : ByteArray) (kids : List Tr) (at_ : Int) (x : BitVec 32) (hk : (Tr.mk tag tn text kids).ok) (hb : (enc (.mk tag tn text kids)).length ≤ 900000000) :
    PC Try.prog 6 [.g (Tr.mk tag tn text kids).g, .g (.int .i64 at_), .g (w32 x)] ⟨[], [], []⟩ (.g (.bool true)) ⟨[], [], []⟩ := by
  have h1 := bytes_pc tag tn text kids hk hb
  cases hx : bytesT (.mk tag tn text kids) with
  | mk l e =>
  rw [hx] at h1
  dsimp only at h1
  have hlen : (bys l).length = l.length := bys_len l
  refine PC_of_PW Try.func6 rfl rfl (rs := _) rfl (Nat.le_of_ble_eq_true (by kernel_rfl)) ?_
  (repeat' (first | (first | (refine qA ?_; try show PW _ _ _ _ _ _) | (refine qB ?_; try show PW _ _ _ _ _ _) | refine rO tabOk 300 rfl rfl ?_ | refine rO tabOk 6 rfl rfl ?_ | refine rO tabOk 1 rfl rfl ?_ | refine rD tabOk 300 rfl rfl ?_ | refine rD tabOk 6 rfl rfl ?_ | refine rD tabOk 1 rfl rfl ?_ | ((first | apply oR rfl rfl | (apply dR rfl rfl; focus (first | (apply cF rfl; intro _) | (apply cP rfl; intro _) | (apply cL rfl; intro _)))); focus (first | exact cl rfl rfl (EN rfl) (alive_pc) rfl rfl rfl | exact cl rfl rfl (EN rfl) (h1) rfl rfl rfl | exact cI rfl (IK rfl) (IK rfl) rfl | exact mF rfl | exact bS rfl (EL rfl) (SZ rfl) (AG rfl) (ZR rfl) rfl rfl rfl rfl rfl rfl rfl | exact nC rfl rfl)) | (apply dR rfl rfl; focus (first | exact Cond_c (cl rfl rfl (EN rfl) (alive_pc) rfl rfl rfl) | exact Cond_c (cl rfl rfl (EN rfl) (h1) rfl rfl rfl))) | refine xU [6] rfl ?_ | refine xR ?_ | refine xD false false rfl rfl mixed (by decide +kernel) ?_ | refine xD false true rfl rfl mixed (by decide +kernel) ?_ | refine xD true false rfl rfl mixed (by decide +kernel) ?_ | refine xD true true rfl rfl mixed (by decide +kernel) ?_ | refine xB ?_ | (refine xN ?_; try show PW _ _ _ _ _ _) | (refine xE ?_; try show PW _ _ _ _ _ _) | (refine xT ?_; try show PW _ _ _ _ _ _) | refine xt rfl ?_ | refine xf rfl ?_) | refine POps_split rfl rfl (fun h => ?_) (fun h => ?_) | refine POpsD_split rfl rfl (fun h => ?_) (fun h => ?_) | refine PW_cond rfl (fun h => ?_) (fun h => ?_)))
  · (first | refine Ret_int (vC vT vN) rfl ?_ | refine Ret_bool (vC vT vN) rfl ?_ | refine Ret_g (vC vT vN) rfl ?_ | refine Ret_int (vC (vA (AG rfl) (SZ rfl) rfl rfl (lB rfl)) vN) rfl ?_ | refine Ret_bool (vC (vA (AG rfl) (SZ rfl) rfl rfl (lB rfl)) vN) rfl ?_ | refine Ret_g (vC (vA (AG rfl) (SZ rfl) rfl rfl (lB rfl)) vN) rfl ?_)
    rfl
  · (first | refine Ret_int (vC vT vN) rfl ?_ | refine Ret_bool (vC vT vN) rfl ?_ | refine Ret_g (vC vT vN) rfl ?_ | refine Ret_int (vC (vA (AG rfl) (SZ rfl) rfl rfl (lB rfl)) vN) rfl ?_ | refine Ret_bool (vC (vA (AG rfl) (SZ rfl) rfl rfl (lB rfl)) vN) rfl ?_ | refine Ret_g (vC (vA (AG rfl) (SZ rfl) rfl rfl (lB rfl)) vN) rfl ?_)
    rfl
  · (first | refine Ret_int (vC vT vN) rfl ?_ | refine Ret_bool (vC vT vN) rfl ?_ | refine Ret_g (vC vT vN) rfl ?_ | refine Ret_int (vC (vA (AG rfl) (SZ rfl) rfl rfl (lB rfl)) vN) rfl ?_ | refine Ret_bool (vC (vA (AG rfl) (SZ rfl) rfl rfl (lB rfl)) vN) rfl ?_ | refine Ret_g (vC (vA (AG rfl) (SZ rfl) rfl rfl (lB rfl)) vN) rfl ?_)
    rfl
  · (first | refine Ret_int (vC vT vN) rfl ?_ | refine Ret_bool (vC vT vN) rfl ?_ | refine Ret_g (vC vT vN) rfl ?_ | refine Ret_int (vC (vA (AG rfl) (SZ rfl) rfl rfl (lB rfl)) vN) rfl ?_ | refine Ret_bool (vC (vA (AG rfl) (SZ rfl) rfl rfl (lB rfl)) vN) rfl ?_ | refine Ret_g (vC (vA (AG rfl) (SZ rfl) rfl rfl (lB rfl)) vN) rfl ?_)
    rfl
  · rename_i q1 q2 q3
    have he : e = 0 := by simpa [bne] using q1
    have ha := of_decide_eq_false q2
    have hx0 : x ≠ 0#32 := by
      rintro rfl
      simp at h
    subst he
    have hl2 := (bytes_enc hx).2
    have hq3 : ¬ at_ > (l.length : Int) - 4 := by
      have := of_decide_eq_false q3
      rw [hlen, wrap64 (by omega)] at this
      exact this
    obtain ⟨n, rfl⟩ : ∃ n : Nat, at_ = (n : Int) := ⟨at_.toNat, by omega⟩
    have hn : n + 4 ≤ l.length := by
      rcases Nat.lt_or_ge l.length 4 with hh | hh
      · exfalso
        unfold bytesT at hx
        split at hx
        · split at hx
          · simp at hx
          · cases hx
            simp [four] at hh
            omega
        · rename_i h0
          exact h0 (congrArg (fun x => x.2) hx)
      · omega
    clear h q1 q2 q3
    have hp := parse_all (fl l n x 4) (by rw [fl_len]; omega)
    have hg := guards hx hn hx0
    rw [parse_err hg] at hp
    (repeat (first | (refine qA ?_; try show PW _ _ _ _ _ _) | (refine qB ?_; try show PW _ _ _ _ _ _) | refine rO tabOk 300 rfl rfl ?_ | refine rO tabOk 6 rfl rfl ?_ | refine rO tabOk 1 rfl rfl ?_ | refine rD tabOk 300 rfl rfl ?_ | refine rD tabOk 6 rfl rfl ?_ | refine rD tabOk 1 rfl rfl ?_ | ((first | apply oR rfl rfl | (apply dR rfl rfl; focus (first | (apply cF rfl; intro _) | (apply cP rfl; intro _) | (apply cL rfl; intro _)))); focus (first | exact PO_buildSlice_mar rfl (EL rfl) (SZ rfl) (AG rfl) (ZR rfl) rfl rfl rfl rfl rfl rfl rfl | exact PO_mappb (b := []) l rfl (EL rfl) (SZ rfl) (BY rfl) (ZR rfl) rfl rfl rfl rfl rfl (by simp; omega) (by simp [maxLen]; omega) | exact cI rfl (IK rfl) (IK rfl) rfl | exact mF rfl | exact bS rfl (EL rfl) (SZ rfl) (AG rfl) (ZR rfl) rfl rfl rfl rfl rfl rfl rfl | exact nC rfl rfl)) | (apply dR rfl rfl; focus (first | exact Cond_c (PO_buildSlice_mar rfl (EL rfl) (SZ rfl) (AG rfl) (ZR rfl) rfl rfl rfl rfl rfl rfl rfl) | exact Cond_c (PO_mappb (b := []) l rfl (EL rfl) (SZ rfl) (BY rfl) (ZR rfl) rfl rfl rfl rfl rfl (by simp; omega) (by simp [maxLen]; omega)))) | refine xS ?_ | refine xR ?_ | refine xD false false rfl rfl mixed (by decide +kernel) ?_ | refine xD false true rfl rfl mixed (by decide +kernel) ?_ | refine xD true false rfl rfl mixed (by decide +kernel) ?_ | refine xD true true rfl rfl mixed (by decide +kernel) ?_ | refine xB ?_ | (refine xN ?_; try show PW _ _ _ _ _ _) | (refine xE ?_; try show PW _ _ _ _ _ _) | (refine xT ?_; try show PW _ _ _ _ _ _) | refine xt rfl ?_ | refine xf rfl ?_))
    refine PW_loop (S := Nat) (fun k => slots [(1, .g (.int .i64 n)), (2, .g (w32 x)), (9, .mar 0 (0 + l.length)), (10, .g (.int .i64 k))])
      (fun k => ⟨[[.g (.int .i64 tag), .g (.int .i64 tn), .g (.str text), .g (.sl (Tr.gs kids))]], [], [.arr (0 + l.length) 5 (bys (fl l n x k))]⟩)
      (fun k => k ≤ 4) (fun k => 4 - k) 0 (Nat.zero_le _) (SlotsOk.le ⟨.inl rfl, .inl rfl, .inl rfl, .inl rfl, trivial⟩) (HLe.refl _) (fun k hk4 => ?_)
    (repeat (first | (refine qA ?_; try show PW _ _ _ _ _ _) | (refine qB ?_; try show PW _ _ _ _ _ _) | refine rO tabOk 300 rfl rfl ?_ | refine rO tabOk 6 rfl rfl ?_ | refine rO tabOk 1 rfl rfl ?_ | refine rD tabOk 300 rfl rfl ?_ | refine rD tabOk 6 rfl rfl ?_ | refine rD tabOk 1 rfl rfl ?_ | ((first | apply oR rfl rfl | (apply dR rfl rfl; focus (first | (apply cF rfl; intro _) | (apply cP rfl; intro _) | (apply cL rfl; intro _)))); focus (first | exact cI rfl (IK rfl) (IK rfl) rfl | exact mF rfl | exact bS rfl (EL rfl) (SZ rfl) (AG rfl) (ZR rfl) rfl rfl rfl rfl rfl rfl rfl | exact nC rfl rfl)) | refine xS ?_ | refine xR ?_ | refine xD false false rfl rfl mixed (by decide +kernel) ?_ | refine xD false true rfl rfl mixed (by decide +kernel) ?_ | refine xD true false rfl rfl mixed (by decide +kernel) ?_ | refine xD true true rfl rfl mixed (by decide +kernel) ?_ | refine xB ?_ | (refine xN ?_; try show PW _ _ _ _ _ _) | (refine xE ?_; try show PW _ _ _ _ _ _) | (refine xT ?_; try show PW _ _ _ _ _ _) | refine xt rfl ?_ | refine xf rfl ?_))
    (first | refine POps_split rfl rfl (fun h => ?_) (fun h => ?_) | refine POpsD_split rfl rfl (fun h => ?_) (fun h => ?_) | refine PW_cond rfl (fun h => ?_) (fun h => ?_))
    · have hlt : k < 4 := by have := of_decide_eq_true h; omega
      have hw : IntKind.i64.wrap ((n : Int) + (k : Int)) = ((n + k : Nat) : Int) := by rw [wrap64 (by omega)]; omega
      have hat := bys_at (fl l n x k) (n + k) (by rw [fl_len]; omega)
      have hfl : (bys (fl l n x k)).length = l.length := by rw [bys_len, fl_len]
      have i0 : 0 ≤ IntKind.i64.wrap ((n : Int) + (k : Int)) := by rw [hw]; omega
      have i1 : IntKind.i64.wrap ((n : Int) + (k : Int)) < ((bys (fl l n x k)).length : Int) := by rw [hw, hfl]; omega
      have i2 : (bys (fl l n x k))[(IntKind.i64.wrap ((n : Int) + (k : Int))).toNat]? = some (byteG ((fl l n x k).getD (n + k) 0)) := by rw [hw]; exact hat
      have i3 : 0 ≤ IntKind.i64.wrap (8 * (k : Int)) := by rw [wrap64 (by omega)]; omega
      (repeat (first | (refine qA ?_; try show PW _ _ _ _ _ _) | (refine qB ?_; try show PW _ _ _ _ _ _) | refine rO tabOk 300 rfl rfl ?_ | refine rO tabOk 6 rfl rfl ?_ | refine rO tabOk 1 rfl rfl ?_ | refine rD tabOk 300 rfl rfl ?_ | refine rD tabOk 6 rfl rfl ?_ | refine rD tabOk 1 rfl rfl ?_ | (apply dR rfl rfl; focus (first | exact Cond_mindex (K := [10000]) rfl rfl (EL rfl) (SZ rfl) rfl rfl rfl (SZ rfl) i0 i1 | exact Cond_mload (K := [10000]) rfl rfl (AG rfl) rfl rfl i2 rfl | exact Cond_mstore rfl (SZ rfl) rfl rfl rfl rfl Nat.one_pos rfl i2 (Nat.le_refl _))) | ((first | apply oR rfl rfl | (apply dR rfl rfl; focus (first | (apply cF rfl; intro _) | (apply cP rfl; intro _) | (apply cL rfl; intro _)))); focus (first | exact PO_shr rfl rfl rfl i3 | exact cI rfl (IK rfl) (IK rfl) rfl | exact mF rfl | exact bS rfl (EL rfl) (SZ rfl) (AG rfl) (ZR rfl) rfl rfl rfl rfl rfl rfl rfl | exact nC rfl rfl)) | refine xS ?_ | refine xR ?_ | refine xK false false [10000] rfl mixed (by decide +kernel) ?_ | refine xK false true [10000] rfl mixed (by decide +kernel) ?_ | refine xK true false [10000] rfl mixed (by decide +kernel) ?_ | refine xK true true [10000] rfl mixed (by decide +kernel) ?_ | refine xB ?_ | (refine xN ?_; try show PW _ _ _ _ _ _) | (refine xE ?_; try show PW _ _ _ _ _ _) | (refine xT ?_; try show PW _ _ _ _ _ _) | refine xt rfl ?_ | refine xf rfl ?_))
      refine ⟨k + 1, hlt, by omega, SlotsOk.le ⟨.inl rfl, .inl rfl, .inl rfl, .inl (congrArg (fun x => PV.g (.int .i64 x)) (wrap64 (by omega))), trivial⟩, HLe.of_eq ?_⟩
      rw [hw]
      have := xor_byte ((fl l n x k).getD (n + k) 0) x k hlt
      rw [this]
      exact congrArg (fun z => (⟨_, [], [.arr (0 + l.length) 5 z]⟩ : PH)) (bys_set _ _ _)
    · have hk : k = 4 := by have := of_decide_eq_false h; omega
      subst hk
      (repeat (first | (refine qA ?_; try show PW _ _ _ _ _ _) | (refine qB ?_; try show PW _ _ _ _ _ _) | refine rO tabOk 300 rfl rfl ?_ | refine rO tabOk 6 rfl rfl ?_ | refine rO tabOk 1 rfl rfl ?_ | refine rD tabOk 300 rfl rfl ?_ | refine rD tabOk 6 rfl rfl ?_ | refine rD tabOk 1 rfl rfl ?_ | ((first | apply oR rfl rfl | (apply dR rfl rfl; focus (first | (apply cF rfl; intro _) | (apply cP rfl; intro _) | (apply cL rfl; intro _)))); focus (first | exact cI rfl (IK rfl) (IK rfl) rfl | exact mF rfl | exact bS rfl (EL rfl) (SZ rfl) (AG rfl) (ZR rfl) rfl rfl rfl rfl rfl rfl rfl | exact nC rfl rfl)) | refine xU [11] rfl ?_ | refine xR ?_ | refine xD false false rfl rfl mixed (by decide +kernel) ?_ | refine xD false true rfl rfl mixed (by decide +kernel) ?_ | refine xD true false rfl rfl mixed (by decide +kernel) ?_ | refine xD true true rfl rfl mixed (by decide +kernel) ?_ | refine xB ?_ | (refine xN ?_; try show PW _ _ _ _ _ _) | (refine xE ?_; try show PW _ _ _ _ _ _) | (refine xT ?_; try show PW _ _ _ _ _ _) | refine xt rfl ?_ | refine xf rfl ?_))
      refine PW_freeze 0 rfl (PW_weak (env' := slots [(9, .g (.sl (bys (fl l n x 4))))]) (H' := ⟨[[.g (.int .i64 tag), .g (.int .i64 tn), .g (.str text), .g (.sl (Tr.gs kids))]], [], [.gone (0 + l.length + 1)]⟩) (SlotsOk.le ⟨.inl ?_, trivial⟩) (HLe.of_eq rfl) ?_)
      · show frz 0 (0 + l.length) _ (.mar 0 (0 + l.length)) = _
        simp [frz]
      (repeat' (first | (first | (refine qA ?_; try show PW _ _ _ _ _ _) | (refine qB ?_; try show PW _ _ _ _ _ _) | refine rO tabOk 300 rfl rfl ?_ | refine rO tabOk 6 rfl rfl ?_ | refine rO tabOk 1 rfl rfl ?_ | refine rD tabOk 300 rfl rfl ?_ | refine rD tabOk 6 rfl rfl ?_ | refine rD tabOk 1 rfl rfl ?_ | ((first | apply oR rfl rfl | (apply dR rfl rfl; focus (first | (apply cF rfl; intro _) | (apply cP rfl; intro _) | (apply cL rfl; intro _)))); focus (first | exact cl rfl rfl (EN rfl) (hp) rfl rfl rfl | exact cI rfl (IK rfl) (IK rfl) rfl | exact mF rfl | exact bS rfl (EL rfl) (SZ rfl) (AG rfl) (ZR rfl) rfl rfl rfl rfl rfl rfl rfl | exact nC rfl rfl)) | (apply dR rfl rfl; focus (first | exact Cond_c (cl rfl rfl (EN rfl) (hp) rfl rfl rfl))) | refine xS ?_ | refine xR ?_ | refine xD false false rfl rfl mixed (by decide +kernel) ?_ | refine xD false true rfl rfl mixed (by decide +kernel) ?_ | refine xD true false rfl rfl mixed (by decide +kernel) ?_ | refine xD true true rfl rfl mixed (by decide +kernel) ?_ | refine xB ?_ | (refine xN ?_; try show PW _ _ _ _ _ _) | (refine xE ?_; try show PW _ _ _ _ _ _) | (refine xT ?_; try show PW _ _ _ _ _ _) | refine xt rfl ?_ | refine xf rfl ?_) | refine POps_split rfl rfl (fun h => ?_) (fun h => ?_) | refine POpsD_split rfl rfl (fun h => ?_) (fun h => ?_) | refine PW_cond rfl (fun h => ?_) (fun h => ?_)))
      · (first | refine Ret_int (vC vT vN) rfl ?_ | refine Ret_bool (vC vT vN) rfl ?_ | refine Ret_g (vC vT vN) rfl ?_ | refine Ret_int (vC (vA (AG rfl) (SZ rfl) rfl rfl (lB rfl)) vN) rfl ?_ | refine Ret_bool (vC (vA (AG rfl) (SZ rfl) rfl rfl (lB rfl)) vN) rfl ?_ | refine Ret_g (vC (vA (AG rfl) (SZ rfl) rfl rfl (lB rfl)) vN) rfl ?_)
        rfl
      · exact absurd (by simpa [bne] using h) hg
end Go.Proofs.Ytffpepmfdjjjaaa
