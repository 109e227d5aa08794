/- What the program's functions compute, each shown once; and plain laws of it. -/
import Derived.Test.YtffpepmfdjjjaaaOwnJ
import Derived.Test.YtffpepmfdjjjaaaPureK
import Derived.Test.YtffpepmfdjjjaaaOwnD
namespace Go.Proofs.Ytffpepmfdjjjaaa
open Go.Pure
attribute [local irreducible] PW POps POpsD PO PC Cond

/-- A length in four bytes, the highest first. -/
def be4 (n : Nat) : List UInt8 := [UInt8.ofNat (n / 16777216 % 256), UInt8.ofNat (n / 65536 % 256), UInt8.ofNat (n / 256 % 256), UInt8.ofNat (n % 256)]
/-- A command's bytes, without what tells how many they are. -/
def body (c : VCmd) : List UInt8 × Int := bytesT (packCmd c)
def appendJ (file : List UInt8) (c : VCmd) : List UInt8 × Int :=
  if (body c).2 = 0 then (if 1000000 < file.length + 4 + (body c).1.length then ([], 5) else (file ++ (be4 (body c).1.length ++ (body c).1), 0)) else ([], (body c).2)
theorem be4_eq (n : Nat) : [GV.int .u8 (IntKind.u8.wrap ((n : Int).fdiv (2 ^ min (24 : Int).toNat IntKind.i64.bits))), .int .u8 (IntKind.u8.wrap ((n : Int).fdiv (2 ^ min (16 : Int).toNat IntKind.i64.bits))), .int .u8 (IntKind.u8.wrap ((n : Int).fdiv (2 ^ min (8 : Int).toNat IntKind.i64.bits))), .int .u8 (IntKind.u8.wrap (n : Int))] = bys (be4 n) := by
  have e1 : (2 : Int) ^ min (8 : Int).toNat IntKind.i64.bits = ((256 : Nat) : Int) := by decide
  have e2 : (2 : Int) ^ min (16 : Int).toNat IntKind.i64.bits = ((65536 : Nat) : Int) := by decide
  have e3 : (2 : Int) ^ min (24 : Int).toNat IntKind.i64.bits = ((16777216 : Nat) : Int) := by decide
  rw [e1, e2, e3, fdivN, fdivN, fdivN, u8nat, u8nat, u8nat, u8nat]
  rfl
theorem body_len (c : VCmd) : (body c).1.length ≤ 100000 := by
  unfold body bytesT
  split
  · split
    · simp
    · simp [four]; omega
  · simp

set_option maxRecDepth 100000 in
set_option maxHeartbeats 8000000 in
theorem body_pc (c : VCmd) (hc : gbulk c.g ≤ 1048576) : ∃ p : Tr, PC Try.prog 12 [.g c.g] ⟨[], [], []⟩ (.g p.g) ⟨[], [], []⟩ ∧ PC Try.prog 21 [.g p.g] ⟨[], [], []⟩ (.tuple [.g (.sl (bys (body c).1)), .g (.int .i64 (body c).2)]) ⟨[], [], []⟩ := by
  have hb := cmd_bulks c
  have hE := enc_bulk (packCmd c)
  have hok := ok_of_bulk _ (packCmd c) (Nat.le_refl _) (by simp only [maxLen]; omega)
  refine ⟨packCmd c, pack_pc c hc, ?_⟩
  unfold body
  generalize packCmd c = p at hb hE hok
  obtain ⟨p0, p1, p2, p3⟩ := p
  exact bytes_pc p0 p1 p2 p3 hok (by omega)

set_option maxRecDepth 100000 in
set_option maxHeartbeats 8000000 in
theorem append_pc (file : List UInt8) (c : VCmd) (hc : gbulk c.g ≤ 1048576) (hf : file.length ≤ 1000000000) :
    PC Try.prog 27 [.g (.sl (bys file)), .g c.g] ⟨[], [], []⟩ (.tuple [.g (.sl (bys (appendJ file c).1)), .g (.int .i64 (appendJ file c).2)]) ⟨[], [], []⟩ := by
  obtain ⟨p, h1, h2⟩ := body_pc c hc
  have hl := body_len c
  unfold appendJ
  generalize body c = r at h2 hl
  obtain ⟨b, e⟩ := r
  obtain ⟨p0, p1, p2, p3⟩ := p
  obtain ⟨session, seq, kind, ⟨tname, policy, ins, outs, rules⟩, name, to⟩ := c
  dsimp only at h2 hl ⊢
  have hbl : (bys b).length = b.length := bys_len b
  have hfl : (bys file).length = file.length := bys_len file
  clear hc
  have w1 : IntKind.i64.wrap (IntKind.i64.wrap (((bys file).length : Int) + 4) + ((bys b).length : Int)) = ((file.length + 4 + b.length : Nat) : Int) := by
    rw [hfl, hbl, wrap64 (n := (file.length : Int) + 4) (by omega), wrap64 (by omega)]; omega
  have w2 : 0 ≤ IntKind.i64.wrap (IntKind.i64.wrap (((bys file).length : Int) + 4) + ((bys b).length : Int)) := by rw [w1]; omega
  have w3 : ((1 : Nat) : Int) * IntKind.i64.wrap (IntKind.i64.wrap (((bys file).length : Int) + 4) + ((bys b).length : Int)) ≤ 281474976710656 := by rw [w1]; omega
  have w4 : IntKind.i64.wrap (IntKind.i64.wrap (((bys file).length : Int) + 4) + ((bys b).length : Int)) ≤ 9223372036854775807 := by rw [w1]; omega
  have hbe := be4_eq (bys b).length
  rw [show be4 (bys b).length = be4 b.length by rw [hbl]] at hbe
  refine PC_of_PW Try.func27 rfl rfl (rs := _) rfl (Nat.le_of_ble_eq_true (by kernel_rfl)) ?_
  (repeat' (first | (first | ((first | refine qA ?_ | refine qB ?_ | refine xN ?_ | refine xE ?_ | refine xT ?_); try show PW _ _ _ _ _ _) | refine ro1 tabOk rfl rfl ?_ | refine ro2 tabOk rfl rfl ?_ | refine ro3 tabOk rfl rfl ?_ | refine rd1 tabOk rfl rfl ?_ | refine rd2 tabOk rfl rfl ?_ | refine rd3 tabOk rfl rfl ?_ | ((first | apply oR rfl rfl | (apply dF rfl rfl rfl; intro _) | (apply dP rfl rfl rfl; intro _) | (apply dL rfl rfl rfl; intro _) | apply dC rfl rfl rfl rfl); (focus (first | exact cqP h1 | exact cqP h2 | exact PO_makeRoom rfl rfl rfl (EL rfl) (SZ rfl) (ZR rfl) (BY rfl) w2 w3 w4 | exact PO_shr rfl rfl rfl (by decide) | exact PO_appb (b := []) file rfl (EL rfl) (SZ rfl) (BY rfl) (ZR rfl) rfl rfl rfl rfl rfl (by simp; omega) (by simp [maxLen]; omega) | exact PO_appb (be4 b.length) rfl (EL rfl) (SZ rfl) (BY rfl) (ZR rfl) rfl rfl rfl rfl hbe (by simp [be4]; omega) (by simp [maxLen, be4]; omega) | exact PO_appb b rfl (EL rfl) (SZ rfl) (BY rfl) (ZR rfl) rfl rfl rfl rfl rfl (by simp [be4]; omega) (by simp [maxLen, be4]; omega) | exact cJ | exact mG | exact bT | exact nD)); try exact kQ) | refine xS ?_ | refine xR ?_ | refine qxa rfl rfl mixed ?_ | refine qxb rfl rfl mixed ?_ | refine qxc rfl rfl mixed ?_ | refine qxd rfl rfl mixed ?_ | refine xB ?_ | refine xt rfl ?_ | refine xf rfl ?_) | (refine POps_split rfl rfl (fun h => ?_) (fun h => ?_) <;> fail_if_success (first | (have : true = true := h) | (have : false = false := h))) | (refine POpsD_split rfl rfl (fun h => ?_) (fun h => ?_) <;> fail_if_success (first | (have : true = true := h) | (have : false = false := h))) | refine PW_cond rfl (fun h => ?_) (fun h => ?_)))
  · have he : ¬ e = 0 := by simpa [bne] using h
    rw [if_neg he]
    exact Ret_two (vC vT (vC vT vN)) rfl rfl rfl
  · rename_i q
    have he : e = 0 := by simpa [bne] using q
    rw [if_pos he]
    rw [w1] at h
    rw [if_pos (by have := of_decide_eq_true h; omega)]
    exact Ret_two (vC vT (vC vT vN)) rfl rfl rfl
  · rename_i q
    have he : e = 0 := by simpa [bne] using q
    rw [if_pos he]
    rw [w1] at h
    rw [if_neg (by have := of_decide_eq_false h; omega)]
    refine Ret_two (vC vT (vC vT vN)) rfl ?_ rfl
    simp
end Go.Proofs.Ytffpepmfdjjjaaa


namespace Go.Proofs.Ytffpepmfdjjjaaa
open Go.Pure
attribute [local irreducible] PW POps POpsD PO PC Cond

/-- Four bytes as a length. -/
def beN (l : List UInt8) : Nat := l.foldl (fun n c => n * 256 + c.toNat) 0
theorem beN_snoc (l : List UInt8) (c : UInt8) : beN (l ++ [c]) = beN l * 256 + c.toNat := by simp [beN]
theorem beN_lt : ∀ l : List UInt8, beN l < 256 ^ l.length := by
  intro l
  induction h : l.length generalizing l with
  | zero => obtain rfl := List.eq_nil_of_length_eq_zero h; simp [beN]
  | succ n ih =>
    obtain ⟨l', c, rfl⟩ : ∃ l' c, l = l' ++ [c] := by
      rcases List.eq_nil_or_concat l with rfl | ⟨l', c, rfl⟩
      · simp at h
      · exact ⟨l', c, by simp⟩
    have hl : l'.length = n := by simpa using h
    have := ih l' hl
    have := c.toNat_lt
    rw [beN_snoc, Nat.pow_succ]
    omega
theorem or8i (x c : Nat) (hx : x < 1099511627776) (hc : c < 256) :
    IntKind.i64.wrap ((BitVec.ofInt IntKind.i64.bits (IntKind.i64.wrap ((x : Int) * 2 ^ min (8 : Int).toNat IntKind.i64.bits)) ||| BitVec.ofInt IntKind.i64.bits (IntKind.i64.wrap (c : Int))).toNat : Int) = ((x * 256 + c : Nat) : Int) := by
  have e1 : (x : Int) * 2 ^ min (8 : Int).toNat IntKind.i64.bits = ((256 * x : Nat) : Int) := by
    have : (2 : Int) ^ min (8 : Int).toNat IntKind.i64.bits = 256 := by decide
    rw [this]; omega
  rw [e1, wrap64 (n := ((256 * x : Nat) : Int)) (by omega), wrap64 (n := (c : Int)) (by omega)]
  show IntKind.i64.wrap ((BitVec.ofInt 64 ((256 * x : Nat) : Int) ||| BitVec.ofInt 64 (c : Int)).toNat : Int) = _
  rw [BitVec.ofInt_natCast, BitVec.ofInt_natCast, BitVec.toNat_or, BitVec.toNat_ofNat, BitVec.toNat_ofNat, Nat.mod_eq_of_lt (by omega : 256 * x < 2 ^ 64), Nat.mod_eq_of_lt (by omega : c < 2 ^ 64)]
  have h := Nat.two_pow_add_eq_or_of_lt (i := 8) (by omega : c < 2 ^ 8) x
  rw [show (256 : Nat) * x = 2 ^ 8 * x from rfl, ← h, wrap64 (by omega)]
  omega

/-- The record at a place: its command, where it ends, and whether it is whole. -/
def nextX (file : List UInt8) (at_ : Nat) : VCmd × Int × Bool :=
  if file.length < at_ + 4 then (noCmd, 0, false) else
  let n := beN ((file.drop at_).take 4)
  if file.length < at_ + 4 + n then (noCmd, 0, false) else
  let p := parseT ((file.drop (at_ + 4)).take n)
  if p.2 = 0 then ((unCmd p.1).1, ((at_ + 4 + n : Nat) : Int), decide ((unCmd p.1).2 = 0)) else (noCmd, 0, false)
mutual
theorem bulk_enc : ∀ t : Tr, gbulk t.g ≤ (enc t).length
  | .mk tag n text kids => by
    have h1 := bulks_enc kids
    have h2 := varint_pos (fold64 n)
    have h3 := varint_pos text.size
    have h4 := varint_pos kids.length
    rw [tr_bulk]
    simp only [enc, List.length_cons, List.length_append, Array.length_toList]
    have : text.data.size = text.size := rfl
    omega
theorem bulks_enc : ∀ l : List Tr, gbulks (Tr.gs l) ≤ (encs l).length
  | [] => by simp [Tr.gs, gbulks]
  | t :: l => by
    have h1 := bulk_enc t
    have h2 := bulks_enc l
    simp only [Tr.gs, gbulks, encs, List.length_append]
    omega
end
theorem Ret_three {P : Program} {env : Env} {rs : List ResultVar} {ps : List PV} {e : Exit} {H2 : PH} {a b c a' b' c' : GV} (hs : resVs P env H2 rs = some ps) (hp : ps = [.g a, .g b, .g c]) (ha : a = a') (hb : b = b') (hc : c = c')
    (he : e = .normal ∨ e = .ret := by first | exact .inl rfl | exact .inr rfl) : Ret P rs ⟨[], [], []⟩ (.tuple [.g a', .g b', .g c']) ⟨[], [], []⟩ e env H2 := by
  subst ha; subst hb; subst hc; subst hp
  refine Ret_pure hs rfl (.tuple _ fun p hp => ?_) he
  simp at hp
  rcases hp with rfl | rfl | rfl <;> exact .g _

set_option maxRecDepth 100000 in
set_option maxHeartbeats 8000000 in
theorem next_pc (file : List UInt8) (at_ : Nat) (hf : file.length ≤ 1000000) (ha : at_ ≤ file.length) :
    PC Try.prog 57 [.g (.sl (bys file)), .g (.int .i64 at_)] ⟨[], [], []⟩ (.tuple [.g (nextX file at_).1.g, .g (.int .i64 (nextX file at_).2.1), .g (.bool (nextX file at_).2.2)]) ⟨[], [], []⟩ := by
  have hfl : (bys file).length = file.length := bys_len file
  have hnx : nextX file at_ = nextX file at_ := rfl
  conv at hnx => rhs; unfold nextX
  refine PC_of_PW Try.func57 rfl rfl (rs := _) rfl (Nat.le_of_ble_eq_true (by kernel_rfl)) ?_
  (repeat (first | ((first | refine qA ?_ | refine qB ?_ | refine xN ?_ | refine xE ?_ | refine xT ?_); try show PW _ _ _ _ _ _) | refine ro1 tabOk rfl rfl ?_ | refine ro2 tabOk rfl rfl ?_ | refine ro3 tabOk rfl rfl ?_ | refine rd1 tabOk rfl rfl ?_ | refine rd2 tabOk rfl rfl ?_ | refine rd3 tabOk rfl rfl ?_ | ((first | apply oR rfl rfl | (apply dF rfl rfl rfl; intro _) | (apply dP rfl rfl rfl; intro _) | (apply dL rfl rfl rfl; intro _) | apply dC rfl rfl rfl rfl); (focus (first | exact cJ | exact mG | exact bT | exact nD)); try exact kQ) | refine xU [1] rfl ?_ | refine xR ?_ | refine qxa rfl rfl mixed ?_ | refine qxb rfl rfl mixed ?_ | refine qxc rfl rfl mixed ?_ | refine qxd rfl rfl mixed ?_ | refine xB ?_ | refine xt rfl ?_ | refine xf rfl ?_))
  (repeat (first | ((first | refine qA ?_ | refine qB ?_ | refine xN ?_ | refine xE ?_ | refine xT ?_); try show PW _ _ _ _ _ _) | refine ro1 tabOk rfl rfl ?_ | refine ro2 tabOk rfl rfl ?_ | refine ro3 tabOk rfl rfl ?_ | refine rd1 tabOk rfl rfl ?_ | refine rd2 tabOk rfl rfl ?_ | refine rd3 tabOk rfl rfl ?_ | ((first | apply oR rfl rfl | (apply dF rfl rfl rfl; intro _) | (apply dP rfl rfl rfl; intro _) | (apply dL rfl rfl rfl; intro _) | apply dC rfl rfl rfl rfl); (focus (first | exact cJ | exact mG | exact bT | exact nD)); try exact kQ) | refine xS ?_ | refine xR ?_ | refine qxa rfl rfl mixed ?_ | refine qxb rfl rfl mixed ?_ | refine qxc rfl rfl mixed ?_ | refine qxd rfl rfl mixed ?_ | refine xB ?_ | refine xt rfl ?_ | refine xf rfl ?_))
  (first | refine POps_split rfl rfl (fun h => ?_) (fun h => ?_) | refine POpsD_split rfl rfl (fun h => ?_) (fun h => ?_) | refine PW_cond rfl (fun h => ?_) (fun h => ?_))
  · have h4 : file.length < at_ + 4 := by have := of_decide_eq_true h; rw [hfl, wrap64 (by omega)] at this; omega
    rw [if_pos h4] at hnx
    rw [hnx]
    (repeat (first | ((first | refine qA ?_ | refine qB ?_ | refine xN ?_ | refine xE ?_ | refine xT ?_); try show PW _ _ _ _ _ _) | refine ro1 tabOk rfl rfl ?_ | refine ro2 tabOk rfl rfl ?_ | refine ro3 tabOk rfl rfl ?_ | refine rd1 tabOk rfl rfl ?_ | refine rd2 tabOk rfl rfl ?_ | refine rd3 tabOk rfl rfl ?_ | ((first | apply oR rfl rfl | (apply dF rfl rfl rfl; intro _) | (apply dP rfl rfl rfl; intro _) | (apply dL rfl rfl rfl; intro _) | apply dC rfl rfl rfl rfl); (focus (first | exact cJ | exact mG | exact bT | exact nD)); try exact kQ) | refine xS ?_ | refine xR ?_ | refine qxa rfl rfl mixed ?_ | refine qxb rfl rfl mixed ?_ | refine qxc rfl rfl mixed ?_ | refine qxd rfl rfl mixed ?_ | refine xB ?_ | refine xt rfl ?_ | refine xf rfl ?_))
    exact Ret_three (vC (vA (AG rfl) (SZ rfl) rfl rfl (lB rfl)) (vC vT (vC vT vN))) rfl rfl rfl rfl
  · have h4 : at_ + 4 ≤ file.length := by have := of_decide_eq_false h; rw [hfl, wrap64 (by omega)] at this; omega
    clear h
    rw [if_neg (by omega)] at hnx
    have hw : IntKind.i64.wrap ((at_ : Int) + 4) = ((at_ + 4 : Nat) : Int) := by rw [wrap64 (by omega)]; omega
    have h4l : ((file.drop at_).take 4).length = 4 := by simp; omega
    generalize hhd : (file.drop at_).take 4 = hd at h4l hnx
    (repeat (first | ((first | refine qA ?_ | refine qB ?_ | refine xN ?_ | refine xE ?_ | refine xT ?_); try show PW _ _ _ _ _ _) | refine ro1 tabOk rfl rfl ?_ | refine ro2 tabOk rfl rfl ?_ | refine ro3 tabOk rfl rfl ?_ | refine rd1 tabOk rfl rfl ?_ | refine rd2 tabOk rfl rfl ?_ | refine rd3 tabOk rfl rfl ?_ | ((first | apply oR rfl rfl | (apply dF rfl rfl rfl; intro _) | (apply dP rfl rfl rfl; intro _) | (apply dL rfl rfl rfl; intro _) | apply dC rfl rfl rfl rfl); (focus (first | exact PO_slice_bys hd at_ (at_ + 4) rfl (EL rfl) (SZ rfl) rfl rfl rfl rfl hw (by omega) h4 (by rw [← hhd]; congr 1; omega) | exact cJ | exact mG | exact bT | exact nD)); try exact kQ) | refine xS ?_ | refine xR ?_ | refine qxa rfl rfl mixed ?_ | refine qxb rfl rfl mixed ?_ | refine qxc rfl rfl mixed ?_ | refine qxd rfl rfl mixed ?_ | refine xB ?_ | refine xt rfl ?_ | refine xf rfl ?_))
    refine PW_loop_cut (S := Nat) (fun i => [(0, .g (.sl (bys file))), (1, .g (.int .i64 at_)), (4, .ptr 0 0), (7, .g (.int .i64 (beN (hd.take i) : Nat))), (24, .g (.sl (bys hd))), (25, .g (.int .i64 4)), (26, .g (.int .i64 i))])
      (fun _ => ⟨[[.g (.int .i64 0), .g (.int .i64 0), .g (.int .i64 0), .g (.str ⟨#[]⟩), .g (.int .i64 0), .nils, .nils, .nils, .g (.str ⟨#[]⟩), .g (.int .i64 0)]], [], []⟩) (fun i => i ≤ 4) (fun i => 4 - i) 0 (Nat.zero_le _)
      (SlotsOk.le ⟨.inl rfl, .inl rfl, .inl rfl, .inl rfl, .inl rfl, .inl (congrArg (fun k : Nat => PV.g (.int .i64 k)) ((bys_len hd).trans h4l)), .inl rfl, trivial⟩) (HLe.of_eq rfl) (fun _ => rfl) (fun i hi => ?_)
    (repeat (first | ((first | refine qA ?_ | refine qB ?_ | refine xN ?_ | refine xE ?_ | refine xT ?_); try show PW _ _ _ _ _ _) | refine ro1 tabOk rfl rfl ?_ | refine ro2 tabOk rfl rfl ?_ | refine ro3 tabOk rfl rfl ?_ | refine rd1 tabOk rfl rfl ?_ | refine rd2 tabOk rfl rfl ?_ | refine rd3 tabOk rfl rfl ?_ | ((first | apply oR rfl rfl | (apply dF rfl rfl rfl; intro _) | (apply dP rfl rfl rfl; intro _) | (apply dL rfl rfl rfl; intro _) | apply dC rfl rfl rfl rfl); (focus (first | exact cJ | exact mG | exact bT | exact nD)); try exact kQ) | refine xS ?_ | refine xR ?_ | refine qxa rfl rfl mixed ?_ | refine qxb rfl rfl mixed ?_ | refine qxc rfl rfl mixed ?_ | refine qxd rfl rfl mixed ?_ | refine xB ?_ | refine xt rfl ?_ | refine xf rfl ?_))
    (first | refine POps_split rfl rfl (fun h => ?_) (fun h => ?_) | refine POpsD_split rfl rfl (fun h => ?_) (fun h => ?_) | refine PW_cond rfl (fun h => ?_) (fun h => ?_))
    · have hlt : i < 4 := by have := of_decide_eq_true h; omega
      have hlt' : i < hd.length := by omega
      have hg := bys_get hlt'
      have hbl := beN_lt (hd.take i)
      have hp : 256 ^ (hd.take i).length ≤ 256 ^ 3 := Nat.pow_le_pow_right (by decide) (by simp; omega)
      have ho := or8i (beN (hd.take i)) hd[i].toNat (by omega) hd[i].toNat_lt
      have htk : beN (hd.take (i + 1)) = beN (hd.take i) * 256 + hd[i].toNat := by rw [List.take_succ_eq_append_getElem hlt', beN_snoc]
      clear h
      (repeat (first | ((first | refine qA ?_ | refine qB ?_ | refine xN ?_ | refine xE ?_ | refine xT ?_); try show PW _ _ _ _ _ _) | refine ro1 tabOk rfl rfl ?_ | refine ro2 tabOk rfl rfl ?_ | refine ro3 tabOk rfl rfl ?_ | refine rd1 tabOk rfl rfl ?_ | refine rd2 tabOk rfl rfl ?_ | refine rd3 tabOk rfl rfl ?_ | ((first | apply oR rfl rfl | (apply dF rfl rfl rfl; intro _) | (apply dP rfl rfl rfl; intro _) | (apply dL rfl rfl rfl; intro _) | apply dC rfl rfl rfl rfl); (focus (first | exact iA rfl (EL rfl) (SZ rfl) rfl rfl (Int.natCast_nonneg _) hg rfl | exact PO_shl rfl rfl rfl (by decide) | exact cJ | exact mG | exact bT | exact nD)); try exact kQ) | refine xS ?_ | refine xR ?_ | refine qxa rfl rfl mixed ?_ | refine qxb rfl rfl mixed ?_ | refine qxc rfl rfl mixed ?_ | refine qxd rfl rfl mixed ?_ | refine xB ?_ | refine xt rfl ?_ | refine xf rfl ?_))
      refine ⟨i + 1, hlt, by omega, SlotsOk.le ⟨.inl rfl, .inl rfl, .inl rfl, .inl ?_, .inl rfl, .inl rfl, .inl (congrArg (fun x => PV.g (.int .i64 x)) (wrap64 (by omega))), trivial⟩, Drops.mk [] [] [] rfl⟩
      rw [htk]
      exact congrArg (fun x => PV.g (.int .i64 x)) ho
    · have hi' : i = 4 := by have := of_decide_eq_false h; omega
      subst hi'
      have htk : hd.take 4 = hd := List.take_of_length_le (by omega)
      rw [htk]
      clear h
      have hbl := beN_lt hd
      rw [h4l] at hbl
      dsimp only at hnx
      generalize beN hd = n at hbl hnx
      (repeat (first | ((first | refine qA ?_ | refine qB ?_ | refine xN ?_ | refine xE ?_ | refine xT ?_); try show PW _ _ _ _ _ _) | refine ro1 tabOk rfl rfl ?_ | refine ro2 tabOk rfl rfl ?_ | refine ro3 tabOk rfl rfl ?_ | refine rd1 tabOk rfl rfl ?_ | refine rd2 tabOk rfl rfl ?_ | refine rd3 tabOk rfl rfl ?_ | ((first | apply oR rfl rfl | (apply dF rfl rfl rfl; intro _) | (apply dP rfl rfl rfl; intro _) | (apply dL rfl rfl rfl; intro _) | apply dC rfl rfl rfl rfl); (focus (first | exact cJ | exact mG | exact bT | exact nD)); try exact kQ) | refine xS ?_ | refine xR ?_ | refine qxa rfl rfl mixed ?_ | refine qxb rfl rfl mixed ?_ | refine qxc rfl rfl mixed ?_ | refine qxd rfl rfl mixed ?_ | refine xB ?_ | refine xt rfl ?_ | refine xf rfl ?_))
      (first | refine POps_split rfl rfl (fun h => ?_) (fun h => ?_) | refine POpsD_split rfl rfl (fun h => ?_) (fun h => ?_) | refine PW_cond rfl (fun h => ?_) (fun h => ?_))
      · have h5 : file.length < at_ + 4 + n := by have := of_decide_eq_true h; rw [hfl, wrap64 (n := (file.length : Int) - at_) (by omega), wrap64 (by omega)] at this; omega
        rw [if_pos h5] at hnx
        rw [hnx]
        (repeat (first | ((first | refine qA ?_ | refine qB ?_ | refine xN ?_ | refine xE ?_ | refine xT ?_); try show PW _ _ _ _ _ _) | refine ro1 tabOk rfl rfl ?_ | refine ro2 tabOk rfl rfl ?_ | refine ro3 tabOk rfl rfl ?_ | refine rd1 tabOk rfl rfl ?_ | refine rd2 tabOk rfl rfl ?_ | refine rd3 tabOk rfl rfl ?_ | ((first | apply oR rfl rfl | (apply dF rfl rfl rfl; intro _) | (apply dP rfl rfl rfl; intro _) | (apply dL rfl rfl rfl; intro _) | apply dC rfl rfl rfl rfl); (focus (first | exact cJ | exact mG | exact bT | exact nD)); try exact kQ) | refine xS ?_ | refine xR ?_ | refine qxa rfl rfl mixed ?_ | refine qxb rfl rfl mixed ?_ | refine qxc rfl rfl mixed ?_ | refine qxd rfl rfl mixed ?_ | refine xB ?_ | refine xt rfl ?_ | refine xf rfl ?_))
        exact Ret_three (vC (vA (AG rfl) (SZ rfl) rfl rfl (lB rfl)) (vC vT (vC vT vN))) rfl rfl rfl rfl
      · have h5 : at_ + 4 + n ≤ file.length := by have := of_decide_eq_false h; rw [hfl, wrap64 (n := (file.length : Int) - at_) (by omega), wrap64 (by omega)] at this; omega
        clear h
        rw [if_neg (by omega)] at hnx
        have hw2 : IntKind.i64.wrap (IntKind.i64.wrap ((at_ : Int) + 4) + (n : Int)) = ((at_ + 4 + n : Nat) : Int) := by rw [hw, wrap64 (by omega)]; omega
        have hpl : ((file.drop (at_ + 4)).take n).length ≤ 1000000 := by simp; omega
        generalize hpt : (file.drop (at_ + 4)).take n = pt at hnx hpl
        have hP := parse_all pt (by omega)
        have hU : (parseT pt).2 = 0 → PC Try.prog 15 [.g (parseT pt).1.g] ⟨[], [], []⟩ (.tuple [.g (unCmd (parseT pt).1).1.g, .g (.int .i64 (unCmd (parseT pt).1).2)]) ⟨[], [], []⟩ := fun h0 => by
          refine unpack_pc _ ?_
          have h6 := (parse_bytes (u := (parseT pt).1) (Prod.ext rfl h0)).1
          have h7 := (bytes_enc h6).1
          have h8 := bulk_enc (parseT pt).1
          omega
        generalize hpr : parseT pt = pr at hP hU hnx
        obtain ⟨⟨t0, t1, t2, t3⟩, e⟩ := pr
        dsimp only at hP hU hnx
        have hsl : List.take (at_ + 4 + n - (at_ + 4)) (List.drop (at_ + 4) file) = pt := by rw [← hpt]; congr 1; omega
        by_cases he : e = 0
        · subst he
          have hU := hU rfl
          rw [if_pos rfl] at hnx
          generalize unCmd (.mk t0 t1 t2 t3) = uc at hU hnx
          obtain ⟨⟨c0, c1, c2, ⟨d0, d1, d2, d3, d4⟩, c4, c5⟩, ue⟩ := uc
          dsimp only at hU hnx
          rw [hnx]
          (repeat (first | ((first | refine qA ?_ | refine qB ?_ | refine xN ?_ | refine xE ?_ | refine xT ?_); try show PW _ _ _ _ _ _) | refine ro1 tabOk rfl rfl ?_ | refine ro2 tabOk rfl rfl ?_ | refine ro3 tabOk rfl rfl ?_ | refine rd1 tabOk rfl rfl ?_ | refine rd2 tabOk rfl rfl ?_ | refine rd3 tabOk rfl rfl ?_ | ((first | apply oR rfl rfl | (apply dF rfl rfl rfl; intro _) | (apply dP rfl rfl rfl; intro _) | (apply dL rfl rfl rfl; intro _) | apply dC rfl rfl rfl rfl); (focus (first | exact cqP hP | exact cqP hU | exact PO_slice_bys pt (at_ + 4) (at_ + 4 + n) rfl (EL rfl) (SZ rfl) rfl rfl rfl hw hw2 (by omega) h5 hsl | exact cJ | exact mG | exact bT | exact nD)); try exact kQ) | refine xS ?_ | refine xR ?_ | refine qxa rfl rfl mixed ?_ | refine qxb rfl rfl mixed ?_ | refine qxc rfl rfl mixed ?_ | refine qxd rfl rfl mixed ?_ | refine xB ?_ | refine xt rfl ?_ | refine xf rfl ?_))
          exact Ret_three (vC (vA (AG rfl) (SZ rfl) rfl rfl (lB rfl)) (vC vT (vC vT vN))) rfl rfl (congrArg (GV.int .i64) hw2) rfl
        · rw [if_neg he] at hnx
          rw [hnx]
          (repeat (first | ((first | refine qA ?_ | refine qB ?_ | refine xN ?_ | refine xE ?_ | refine xT ?_); try show PW _ _ _ _ _ _) | refine ro1 tabOk rfl rfl ?_ | refine ro2 tabOk rfl rfl ?_ | refine ro3 tabOk rfl rfl ?_ | refine rd1 tabOk rfl rfl ?_ | refine rd2 tabOk rfl rfl ?_ | refine rd3 tabOk rfl rfl ?_ | ((first | apply oR rfl rfl | (apply dF rfl rfl rfl; intro _) | (apply dP rfl rfl rfl; intro _) | (apply dL rfl rfl rfl; intro _) | apply dC rfl rfl rfl rfl); (focus (first | exact cqP hP | exact PO_slice_bys pt (at_ + 4) (at_ + 4 + n) rfl (EL rfl) (SZ rfl) rfl rfl rfl hw hw2 (by omega) h5 hsl | exact cJ | exact mG | exact bT | exact nD)); try exact kQ) | refine xS ?_ | refine xR ?_ | refine qxa rfl rfl mixed ?_ | refine qxb rfl rfl mixed ?_ | refine qxc rfl rfl mixed ?_ | refine qxd rfl rfl mixed ?_ | refine xB ?_ | refine xt rfl ?_ | refine xf rfl ?_))
          (first | refine POps_split rfl rfl (fun h => ?_) (fun h => ?_) | refine POpsD_split rfl rfl (fun h => ?_) (fun h => ?_) | refine PW_cond rfl (fun h => ?_) (fun h => ?_))
          · (repeat (first | ((first | refine qA ?_ | refine qB ?_ | refine xN ?_ | refine xE ?_ | refine xT ?_); try show PW _ _ _ _ _ _) | refine ro1 tabOk rfl rfl ?_ | refine ro2 tabOk rfl rfl ?_ | refine ro3 tabOk rfl rfl ?_ | refine rd1 tabOk rfl rfl ?_ | refine rd2 tabOk rfl rfl ?_ | refine rd3 tabOk rfl rfl ?_ | ((first | apply oR rfl rfl | (apply dF rfl rfl rfl; intro _) | (apply dP rfl rfl rfl; intro _) | (apply dL rfl rfl rfl; intro _) | apply dC rfl rfl rfl rfl); (focus (first | exact cJ | exact mG | exact bT | exact nD)); try exact kQ) | refine xS ?_ | refine xR ?_ | refine qxa rfl rfl mixed ?_ | refine qxb rfl rfl mixed ?_ | refine qxc rfl rfl mixed ?_ | refine qxd rfl rfl mixed ?_ | refine xB ?_ | refine xt rfl ?_ | refine xf rfl ?_))
            exact Ret_three (vC (vA (AG rfl) (SZ rfl) rfl rfl (lB rfl)) (vC vT (vC vT vN))) rfl rfl rfl rfl
          · exact absurd (by simpa [bne] using h) he
end Go.Proofs.Ytffpepmfdjjjaaa


namespace Go.Proofs.Ytffpepmfdjjjaaa
open Go.Pure
attribute [local irreducible] PW POps POpsD PO PC Cond

def writeJ : List VCmd → List UInt8 → List UInt8 × Int
  | [], f => (f, 0)
  | c :: r, f => if (appendJ f c).2 = 0 then writeJ r (appendJ f c).1 else ([], (appendJ f c).2)
theorem append_len {file : List UInt8} {c : VCmd} (h : (appendJ file c).2 = 0) : (appendJ file c).1.length ≤ 1000000 := by
  unfold appendJ at h ⊢
  split at h
  · split at h
    · cases h
    · rename_i h1 h2
      rw [if_pos h1, if_neg h2]
      simp [be4]
      omega
  · rename_i h1
    exact absurd h h1

set_option maxRecDepth 100000 in
set_option maxHeartbeats 8000000 in
theorem write_pc (l : List VCmd) (hb : gbulks (l.map VCmd.g) ≤ 1048576) : PC Try.prog 32 [.g (.sl (VCmd.gs l))] ⟨[], [], []⟩ (.tuple [.g (.sl (bys (writeJ l []).1)), .g (.int .i64 (writeJ l []).2)]) ⟨[], [], []⟩ := by
  have hln : l.length ≤ 1048576 := by have := map_len VCmd.one l; omega
  have hgl : (VCmd.gs l).length = l.length := by simp [VCmd.gs]
  refine PC_of_PW Try.func32 rfl rfl (rs := _) rfl (Nat.le_of_ble_eq_true (by kernel_rfl)) ?_
  (repeat (first | ((first | refine qA ?_ | refine qB ?_ | refine xN ?_ | refine xE ?_ | refine xT ?_); try show PW _ _ _ _ _ _) | refine ro1 tabOk rfl rfl ?_ | refine ro2 tabOk rfl rfl ?_ | refine ro3 tabOk rfl rfl ?_ | refine rd1 tabOk rfl rfl ?_ | refine rd2 tabOk rfl rfl ?_ | refine rd3 tabOk rfl rfl ?_ | ((first | apply oR rfl rfl | (apply dF rfl rfl rfl; intro _) | (apply dP rfl rfl rfl; intro _) | (apply dL rfl rfl rfl; intro _) | apply dC rfl rfl rfl rfl); (focus (first | exact cJ | exact mG | exact bT | exact nD)); try exact kQ) | refine xS ?_ | refine xR ?_ | refine qxa rfl rfl mixed ?_ | refine qxb rfl rfl mixed ?_ | refine qxc rfl rfl mixed ?_ | refine qxd rfl rfl mixed ?_ | refine xB ?_ | refine xt rfl ?_ | refine xf rfl ?_))
  refine PW_loop_cut (S := Nat × List UInt8) (fun s => [(4, .g (.sl (bys s.2))), (8, .g (.sl (VCmd.gs l))), (9, .g (.int .i64 l.length)), (10, .g (.int .i64 s.1))])
    (fun _ => ⟨[], [], []⟩) (fun s => s.1 ≤ l.length ∧ s.2.length ≤ 1000000 ∧ writeJ (l.drop s.1) s.2 = writeJ l []) (fun s => l.length - s.1) (0, []) ⟨Nat.zero_le _, by simp, rfl⟩
    (SlotsOk.le ⟨.inr rfl, .inl rfl, .inl (congrArg (fun k : Nat => PV.g (.int .i64 k)) hgl), .inl rfl, trivial⟩) (HLe.of_eq rfl) (fun _ => rfl) (fun s hs => ?_)
  obtain ⟨i, f⟩ := s
  obtain ⟨hi, hfl, hgo⟩ := hs
  dsimp only at hi hfl hgo
  (repeat (first | ((first | refine qA ?_ | refine qB ?_ | refine xN ?_ | refine xE ?_ | refine xT ?_); try show PW _ _ _ _ _ _) | refine ro1 tabOk rfl rfl ?_ | refine ro2 tabOk rfl rfl ?_ | refine ro3 tabOk rfl rfl ?_ | refine rd1 tabOk rfl rfl ?_ | refine rd2 tabOk rfl rfl ?_ | refine rd3 tabOk rfl rfl ?_ | ((first | apply oR rfl rfl | (apply dF rfl rfl rfl; intro _) | (apply dP rfl rfl rfl; intro _) | (apply dL rfl rfl rfl; intro _) | apply dC rfl rfl rfl rfl); (focus (first | exact cJ | exact mG | exact bT | exact nD)); try exact kQ) | refine xS ?_ | refine xR ?_ | refine qxa rfl rfl mixed ?_ | refine qxb rfl rfl mixed ?_ | refine qxc rfl rfl mixed ?_ | refine qxd rfl rfl mixed ?_ | refine xB ?_ | refine xt rfl ?_ | refine xf rfl ?_))
  (first | refine POps_split rfl rfl (fun h => ?_) (fun h => ?_) | refine POpsD_split rfl rfl (fun h => ?_) (fun h => ?_) | refine PW_cond rfl (fun h => ?_) (fun h => ?_))
  · have hlt : i < l.length := by have := of_decide_eq_true h; dsimp only at this; omega
    have hg : (VCmd.gs l)[((i : Int)).toNat]? = some l[i].g := map_get hlt
    have hdr : l.drop i = l[i] :: l.drop (i + 1) := List.drop_eq_getElem_cons hlt
    have hA := append_pc f l[i] (by have := map_bulk (f := VCmd.g) hlt; omega) (by omega)
    have hAl := append_len (file := f) (c := l[i])
    rw [hdr, writeJ] at hgo
    generalize l[i] = c at hg hA hAl hgo
    generalize appendJ f c = r at hA hAl hgo
    obtain ⟨f', e⟩ := r
    obtain ⟨session, seq, kind, ⟨tname, policy, ins, outs, rules⟩, name, to⟩ := c
    dsimp only at hA hAl hgo
    clear h
    (repeat (first | ((first | refine qA ?_ | refine qB ?_ | refine xN ?_ | refine xE ?_ | refine xT ?_); try show PW _ _ _ _ _ _) | refine ro1 tabOk rfl rfl ?_ | refine ro2 tabOk rfl rfl ?_ | refine ro3 tabOk rfl rfl ?_ | refine rd1 tabOk rfl rfl ?_ | refine rd2 tabOk rfl rfl ?_ | refine rd3 tabOk rfl rfl ?_ | ((first | apply oR rfl rfl | (apply dF rfl rfl rfl; intro _) | (apply dP rfl rfl rfl; intro _) | (apply dL rfl rfl rfl; intro _) | apply dC rfl rfl rfl rfl); (focus (first | exact iA rfl (EL rfl) (SZ rfl) rfl rfl (Int.natCast_nonneg _) hg rfl | exact cqP hA | exact cJ | exact mG | exact bT | exact nD)); try exact kQ) | refine xS ?_ | refine xR ?_ | refine qxa rfl rfl mixed ?_ | refine qxb rfl rfl mixed ?_ | refine qxc rfl rfl mixed ?_ | refine qxd rfl rfl mixed ?_ | refine xB ?_ | refine xt rfl ?_ | refine xf rfl ?_))
    (first | refine POps_split rfl rfl (fun h => ?_) (fun h => ?_) | refine POpsD_split rfl rfl (fun h => ?_) (fun h => ?_) | refine PW_cond rfl (fun h => ?_) (fun h => ?_))
    · have he : ¬ e = 0 := by simpa [bne] using h
      rw [if_neg he] at hgo
      (repeat (first | ((first | refine qA ?_ | refine qB ?_ | refine xN ?_ | refine xE ?_ | refine xT ?_); try show PW _ _ _ _ _ _) | refine ro1 tabOk rfl rfl ?_ | refine ro2 tabOk rfl rfl ?_ | refine ro3 tabOk rfl rfl ?_ | refine rd1 tabOk rfl rfl ?_ | refine rd2 tabOk rfl rfl ?_ | refine rd3 tabOk rfl rfl ?_ | ((first | apply oR rfl rfl | (apply dF rfl rfl rfl; intro _) | (apply dP rfl rfl rfl; intro _) | (apply dL rfl rfl rfl; intro _) | apply dC rfl rfl rfl rfl); (focus (first | exact cJ | exact mG | exact bT | exact nD)); try exact kQ) | refine xS ?_ | refine xR ?_ | refine qxa rfl rfl mixed ?_ | refine qxb rfl rfl mixed ?_ | refine qxc rfl rfl mixed ?_ | refine qxd rfl rfl mixed ?_ | refine xB ?_ | refine xt rfl ?_ | refine xf rfl ?_))
      exact Ret_two (vC vT (vC vT vN)) rfl (by rw [← hgo]; rfl) (by rw [← hgo])
    · have he : e = 0 := by simpa [bne] using h
      rw [if_pos he] at hgo
      (repeat (first | ((first | refine qA ?_ | refine qB ?_ | refine xN ?_ | refine xE ?_ | refine xT ?_); try show PW _ _ _ _ _ _) | refine ro1 tabOk rfl rfl ?_ | refine ro2 tabOk rfl rfl ?_ | refine ro3 tabOk rfl rfl ?_ | refine rd1 tabOk rfl rfl ?_ | refine rd2 tabOk rfl rfl ?_ | refine rd3 tabOk rfl rfl ?_ | ((first | apply oR rfl rfl | (apply dF rfl rfl rfl; intro _) | (apply dP rfl rfl rfl; intro _) | (apply dL rfl rfl rfl; intro _) | apply dC rfl rfl rfl rfl); (focus (first | exact cJ | exact mG | exact bT | exact nD)); try exact kQ) | refine xS ?_ | refine xR ?_ | refine qxa rfl rfl mixed ?_ | refine qxb rfl rfl mixed ?_ | refine qxc rfl rfl mixed ?_ | refine qxd rfl rfl mixed ?_ | refine xB ?_ | refine xt rfl ?_ | refine xf rfl ?_))
      refine ⟨(i + 1, f'), ⟨hlt, hAl he, hgo⟩, by dsimp only; omega, SlotsOk.le ⟨.inl rfl, .inl rfl, .inl rfl, .inl (congrArg (fun k => PV.g (.int .i64 k)) (wrap64 (by dsimp only; omega))), trivial⟩, Drops.mk [(VCmd.mk session seq kind ⟨tname, policy, ins, outs, rules⟩ name to).g.cells.map PV.g] [] [] rfl⟩
  · have hi' : i = l.length := by have := of_decide_eq_false h; dsimp only at this; omega
    subst hi'
    rw [List.drop_length, writeJ] at hgo
    (repeat (first | ((first | refine qA ?_ | refine qB ?_ | refine xN ?_ | refine xE ?_ | refine xT ?_); try show PW _ _ _ _ _ _) | refine ro1 tabOk rfl rfl ?_ | refine ro2 tabOk rfl rfl ?_ | refine ro3 tabOk rfl rfl ?_ | refine rd1 tabOk rfl rfl ?_ | refine rd2 tabOk rfl rfl ?_ | refine rd3 tabOk rfl rfl ?_ | ((first | apply oR rfl rfl | (apply dF rfl rfl rfl; intro _) | (apply dP rfl rfl rfl; intro _) | (apply dL rfl rfl rfl; intro _) | apply dC rfl rfl rfl rfl); (focus (first | exact cJ | exact mG | exact bT | exact nD)); try exact kQ) | refine xS ?_ | refine xR ?_ | refine qxa rfl rfl mixed ?_ | refine qxb rfl rfl mixed ?_ | refine qxc rfl rfl mixed ?_ | refine qxd rfl rfl mixed ?_ | refine xB ?_ | refine xt rfl ?_ | refine xf rfl ?_))
    exact Ret_two (vC vT (vC vT vN)) rfl (by rw [← hgo]) (by rw [← hgo]; rfl)

/-- The commands of the records from a place on, and where they end: so many at most. -/
def recX : Nat → List UInt8 → Nat → List VCmd × Nat
  | 0, _, at_ => ([], at_)
  | k + 1, file, at_ => if (nextX file at_).2.2 = true then ((nextX file at_).1 :: (recX k file (nextX file at_).2.1.toNat).1, (recX k file (nextX file at_).2.1.toNat).2) else ([], at_)
def recoverJ (file : List UInt8) : List VCmd × Nat × Int := if 1000000 < file.length then ([], 0, 4) else ((recX (file.length + 1) file 0).1, (recX (file.length + 1) file 0).2, 0)
theorem next_end {file : List UInt8} {at_ : Nat} (h : (nextX file at_).2.2 = true) : ∃ e : Nat, (nextX file at_).2.1 = e ∧ at_ + 4 ≤ e ∧ e ≤ file.length := by
  unfold nextX at h ⊢
  split at h
  · cases h
  · rename_i h1
    rw [if_neg h1]
    dsimp only at h ⊢
    split at h
    · cases h
    · rename_i h2
      rw [if_neg h2]
      split at h
      · rename_i h3
        rw [if_pos h3]
        exact ⟨_, rfl, by omega, by omega⟩
      · cases h

set_option maxRecDepth 100000 in
set_option maxHeartbeats 8000000 in
theorem recover_pc (file : List UInt8) : PC Try.prog 29 [.g (.sl (bys file))] ⟨[], [], []⟩ (.tuple [.g (.sl (VCmd.gs (recoverJ file).1)), .g (.int .i64 (recoverJ file).2.1), .g (.int .i64 (recoverJ file).2.2)]) ⟨[], [], []⟩ := by
  have hfl : (bys file).length = file.length := bys_len file
  unfold recoverJ
  refine PC_of_PW Try.func29 rfl rfl (rs := _) rfl (Nat.le_of_ble_eq_true (by kernel_rfl)) ?_
  (repeat (first | ((first | refine qA ?_ | refine qB ?_ | refine xN ?_ | refine xE ?_ | refine xT ?_); try show PW _ _ _ _ _ _) | refine ro1 tabOk rfl rfl ?_ | refine ro2 tabOk rfl rfl ?_ | refine ro3 tabOk rfl rfl ?_ | refine rd1 tabOk rfl rfl ?_ | refine rd2 tabOk rfl rfl ?_ | refine rd3 tabOk rfl rfl ?_ | ((first | apply oR rfl rfl | (apply dF rfl rfl rfl; intro _) | (apply dP rfl rfl rfl; intro _) | (apply dL rfl rfl rfl; intro _) | apply dC rfl rfl rfl rfl); (focus (first | exact cJ | exact mG | exact bT | exact nD)); try exact kQ) | refine xS ?_ | refine xR ?_ | refine qxa rfl rfl mixed ?_ | refine qxb rfl rfl mixed ?_ | refine qxc rfl rfl mixed ?_ | refine qxd rfl rfl mixed ?_ | refine xB ?_ | refine xt rfl ?_ | refine xf rfl ?_))
  (first | refine POps_split rfl rfl (fun h => ?_) (fun h => ?_) | refine POpsD_split rfl rfl (fun h => ?_) (fun h => ?_) | refine PW_cond rfl (fun h => ?_) (fun h => ?_))
  · have h1 : 1000000 < file.length := by have := of_decide_eq_true h; rw [hfl] at this; omega
    rw [if_pos h1]
    (repeat (first | ((first | refine qA ?_ | refine qB ?_ | refine xN ?_ | refine xE ?_ | refine xT ?_); try show PW _ _ _ _ _ _) | refine ro1 tabOk rfl rfl ?_ | refine ro2 tabOk rfl rfl ?_ | refine ro3 tabOk rfl rfl ?_ | refine rd1 tabOk rfl rfl ?_ | refine rd2 tabOk rfl rfl ?_ | refine rd3 tabOk rfl rfl ?_ | ((first | apply oR rfl rfl | (apply dF rfl rfl rfl; intro _) | (apply dP rfl rfl rfl; intro _) | (apply dL rfl rfl rfl; intro _) | apply dC rfl rfl rfl rfl); (focus (first | exact cJ | exact mG | exact bT | exact nD)); try exact kQ) | refine xS ?_ | refine xR ?_ | refine qxa rfl rfl mixed ?_ | refine qxb rfl rfl mixed ?_ | refine qxc rfl rfl mixed ?_ | refine qxd rfl rfl mixed ?_ | refine xB ?_ | refine xt rfl ?_ | refine xf rfl ?_))
    exact Ret_three (vC vT (vC vT (vC vT vN))) rfl rfl rfl rfl
  · have h1 : ¬ 1000000 < file.length := by have := of_decide_eq_false h; rw [hfl] at this; omega
    clear h
    rw [if_neg h1]
    generalize hR : recX (file.length + 1) file 0 = R
    dsimp only
    (repeat (first | ((first | refine qA ?_ | refine qB ?_ | refine xN ?_ | refine xE ?_ | refine xT ?_); try show PW _ _ _ _ _ _) | refine ro1 tabOk rfl rfl ?_ | refine ro2 tabOk rfl rfl ?_ | refine ro3 tabOk rfl rfl ?_ | refine rd1 tabOk rfl rfl ?_ | refine rd2 tabOk rfl rfl ?_ | refine rd3 tabOk rfl rfl ?_ | ((first | apply oR rfl rfl | (apply dF rfl rfl rfl; intro _) | (apply dP rfl rfl rfl; intro _) | (apply dL rfl rfl rfl; intro _) | apply dC rfl rfl rfl rfl); (focus (first | exact cJ | exact mG | exact bT | exact nD)); try exact kQ) | refine xS ?_ | refine xR ?_ | refine qxa rfl rfl mixed ?_ | refine qxb rfl rfl mixed ?_ | refine qxc rfl rfl mixed ?_ | refine qxd rfl rfl mixed ?_ | refine xB ?_ | refine xt rfl ?_ | refine xf rfl ?_))
    refine PW_buf 5 27 (SZ rfl) rfl ?_
    refine PW_loop_cut (S := Nat × Nat × List VCmd) (fun s => [(0, .g (.sl (bys file))), (5, .own (VCmd.gs s.2.2) 0), (6, .g (.int .i64 s.2.1))])
      (fun s => ⟨[], [(27, s.2.2.length)], []⟩) (fun s => s.2.1 ≤ file.length ∧ file.length - s.2.1 < s.1 ∧ s.2.2.length ≤ s.2.1 ∧ (s.2.2 ++ (recX s.1 file s.2.1).1, (recX s.1 file s.2.1).2) = R) (fun s => file.length - s.2.1) (file.length + 1, 0, []) ⟨Nat.zero_le _, by dsimp only; omega, by simp, by rw [← hR]; simp⟩
      (SlotsOk.le ⟨.inl rfl, .inl rfl, .inl rfl, trivial⟩) (HLe.of_eq rfl) (fun _ => rfl) (fun s hs => ?_)
    obtain ⟨k, at_, acc⟩ := s
    obtain ⟨ha, hk, hacc, hgo⟩ := hs
    dsimp only at ha hk hacc hgo
    cases k with
    | zero => omega
    | succ k =>
      have hN := next_pc file at_ (by omega) ha
      have hE := next_end (file := file) (at_ := at_)
      rw [recX] at hgo
      generalize nextX file at_ = nx at hN hE hgo
      obtain ⟨c, e, ok⟩ := nx
      obtain ⟨session, seq, kind, ⟨tname, policy, ins, outs, rules⟩, name, to⟩ := c
      dsimp only at hN hE hgo
      cases ok with
      | false =>
        rw [if_neg (by decide)] at hgo
        (repeat (first | ((first | refine qA ?_ | refine qB ?_ | refine xN ?_ | refine xE ?_ | refine xT ?_); try show PW _ _ _ _ _ _) | refine ro1 tabOk rfl rfl ?_ | refine ro2 tabOk rfl rfl ?_ | refine ro3 tabOk rfl rfl ?_ | refine rd1 tabOk rfl rfl ?_ | refine rd2 tabOk rfl rfl ?_ | refine rd3 tabOk rfl rfl ?_ | ((first | apply oR rfl rfl | (apply dF rfl rfl rfl; intro _) | (apply dP rfl rfl rfl; intro _) | (apply dL rfl rfl rfl; intro _) | apply dC rfl rfl rfl rfl); (focus (first | exact cqP hN | exact cJ | exact mG | exact bT | exact nD)); try exact kQ) | refine xS ?_ | refine xR ?_ | refine qxa rfl rfl mixed ?_ | refine qxb rfl rfl mixed ?_ | refine qxc rfl rfl mixed ?_ | refine qxd rfl rfl mixed ?_ | refine xB ?_ | refine xt rfl ?_ | refine xf rfl ?_))
        refine Ret_three (vC vT (vC vT (vC vT vN))) rfl ?_ ?_ rfl
        · rw [← hgo]; simp
        · rw [← hgo]
      | true =>
        obtain ⟨e', rfl, he1, he2⟩ := hE rfl
        rw [if_pos rfl] at hgo
        have hxs : ∀ x ∈ [(VCmd.mk session seq kind ⟨tname, policy, ins, outs, rules⟩ name to).g], x.cells.length = 10 := by
          intro x hx; rw [List.mem_singleton.1 hx]; exact VCmd.cells _
        (repeat (first | ((first | refine qA ?_ | refine qB ?_ | refine xN ?_ | refine xE ?_ | refine xT ?_); try show PW _ _ _ _ _ _) | refine ro1 tabOk rfl rfl ?_ | refine ro2 tabOk rfl rfl ?_ | refine ro3 tabOk rfl rfl ?_ | refine rd1 tabOk rfl rfl ?_ | refine rd2 tabOk rfl rfl ?_ | refine rd3 tabOk rfl rfl ?_ | ((first | apply oR rfl rfl | (apply dF rfl rfl rfl; intro _) | (apply dP rfl rfl rfl; intro _) | (apply dL rfl rfl rfl; intro _) | apply dC rfl rfl rfl rfl); (focus (first | exact cqP hN | exact aP (xs := [(VCmd.mk session seq kind ⟨tname, policy, ins, outs, rules⟩ name to).g]) rfl (EL rfl) (SZ rfl) (BY rfl) (ZR rfl) rfl rfl rfl rfl (by simp [VCmd.gs]) hxs (by simp; omega) (by simp [maxLen]; omega) | exact cJ | exact mG | exact bT | exact nD)); try exact kQ) | refine xS ?_ | refine xR ?_ | refine qxa rfl rfl mixed ?_ | refine qxb rfl rfl mixed ?_ | refine qxc rfl rfl mixed ?_ | refine qxd rfl rfl mixed ?_ | refine xB ?_ | refine xt rfl ?_ | refine xf rfl ?_))
        refine ⟨(k, e', acc ++ [.mk session seq kind ⟨tname, policy, ins, outs, rules⟩ name to]), ⟨he2, by dsimp only; omega, by simp; omega, ?_⟩, by dsimp only; omega, SlotsOk.le ⟨.inl rfl, .inl ?_, .inl rfl, trivial⟩, Drops.mk [(VCmd.mk session seq kind ⟨tname, policy, ins, outs, rules⟩ name to).g.cells.map PV.g] [] [] ?_⟩
        · rw [← hgo]
          simp
        · simp only [VCmd.gs, List.map_append]; rfl
        · simp only [List.length_append]; rfl

set_option maxRecDepth 100000 in
set_option maxHeartbeats 4000000 in
theorem samecmds_pc (l : List VCmd) (hb : gbulks (l.map VCmd.g) ≤ 1000000000) : PC Try.prog 31 [.g (.sl (VCmd.gs l)), .g (.sl (VCmd.gs l))] ⟨[], [], []⟩ (.g (.bool true)) ⟨[], [], []⟩ := by
  have hln := map_len VCmd.one l
  have hgl : (VCmd.gs l).length = l.length := by simp [VCmd.gs]
  refine PC_of_PW Try.func31 rfl rfl (rs := _) rfl (Nat.le_of_ble_eq_true (by kernel_rfl)) ?_
  (repeat' (first | (first | ((first | refine qA ?_ | refine qB ?_ | refine xN ?_ | refine xE ?_ | refine xT ?_); try show PW _ _ _ _ _ _) | refine ro1 tabOk rfl rfl ?_ | refine ro2 tabOk rfl rfl ?_ | refine ro3 tabOk rfl rfl ?_ | refine rd1 tabOk rfl rfl ?_ | refine rd2 tabOk rfl rfl ?_ | refine rd3 tabOk rfl rfl ?_ | ((first | apply oR rfl rfl | (apply dF rfl rfl rfl; intro _) | (apply dP rfl rfl rfl; intro _) | (apply dL rfl rfl rfl; intro _) | apply dC rfl rfl rfl rfl); (focus (first | exact cJ | exact mG | exact bT | exact nD)); try exact kQ) | refine xU [3] rfl ?_ | refine xR ?_ | refine qxa rfl rfl mixed ?_ | refine qxb rfl rfl mixed ?_ | refine qxc rfl rfl mixed ?_ | refine qxd rfl rfl mixed ?_ | refine xB ?_ | refine xt rfl ?_ | refine xf rfl ?_) | (refine POps_split rfl rfl (fun h => ?_) (fun h => ?_) <;> fail_if_success (first | (have : true = true := h) | (have : false = false := h))) | (refine POpsD_split rfl rfl (fun h => ?_) (fun h => ?_) <;> fail_if_success (first | (have : true = true := h) | (have : false = false := h))) | refine PW_cond rfl (fun h => ?_) (fun h => ?_)))
  all_goals (try (exfalso; simp at h; done))
  clear h
  (repeat (first | ((first | refine qA ?_ | refine qB ?_ | refine xN ?_ | refine xE ?_ | refine xT ?_); try show PW _ _ _ _ _ _) | refine ro1 tabOk rfl rfl ?_ | refine ro2 tabOk rfl rfl ?_ | refine ro3 tabOk rfl rfl ?_ | refine rd1 tabOk rfl rfl ?_ | refine rd2 tabOk rfl rfl ?_ | refine rd3 tabOk rfl rfl ?_ | ((first | apply oR rfl rfl | (apply dF rfl rfl rfl; intro _) | (apply dP rfl rfl rfl; intro _) | (apply dL rfl rfl rfl; intro _) | apply dC rfl rfl rfl rfl); (focus (first | exact cJ | exact mG | exact bT | exact nD)); try exact kQ) | refine xS ?_ | refine xR ?_ | refine qxa rfl rfl mixed ?_ | refine qxb rfl rfl mixed ?_ | refine qxc rfl rfl mixed ?_ | refine qxd rfl rfl mixed ?_ | refine xB ?_ | refine xt rfl ?_ | refine xf rfl ?_))
  refine PW_loop (S := Nat) (fun i => slots [(0, .g (.sl (VCmd.gs l))), (1, .g (.sl (VCmd.gs l))), (12, .g (.int .i64 l.length)), (13, .g (.int .i64 i))])
    (fun _ => ⟨[], [], []⟩) (fun i => i ≤ l.length) (fun i => l.length - i) 0 (Nat.zero_le _)
    (SlotsOk.le ⟨.inl rfl, .inl rfl, .inl (congrArg (fun k : Nat => PV.g (.int .i64 k)) hgl), .inl rfl, trivial⟩) (HLe.of_eq rfl) (fun i hi => ?_)
  (repeat (first | ((first | refine qA ?_ | refine qB ?_ | refine xN ?_ | refine xE ?_ | refine xT ?_); try show PW _ _ _ _ _ _) | refine ro1 tabOk rfl rfl ?_ | refine ro2 tabOk rfl rfl ?_ | refine ro3 tabOk rfl rfl ?_ | refine rd1 tabOk rfl rfl ?_ | refine rd2 tabOk rfl rfl ?_ | refine rd3 tabOk rfl rfl ?_ | ((first | apply oR rfl rfl | (apply dF rfl rfl rfl; intro _) | (apply dP rfl rfl rfl; intro _) | (apply dL rfl rfl rfl; intro _) | apply dC rfl rfl rfl rfl); (focus (first | exact cJ | exact mG | exact bT | exact nD)); try exact kQ) | refine xS ?_ | refine xR ?_ | refine qxa rfl rfl mixed ?_ | refine qxb rfl rfl mixed ?_ | refine qxc rfl rfl mixed ?_ | refine qxd rfl rfl mixed ?_ | refine xB ?_ | refine xt rfl ?_ | refine xf rfl ?_))
  (first | refine POps_split rfl rfl (fun h => ?_) (fun h => ?_) | refine POpsD_split rfl rfl (fun h => ?_) (fun h => ?_) | refine PW_cond rfl (fun h => ?_) (fun h => ?_))
  · have hlt : i < l.length := by have := of_decide_eq_true h; omega
    have hg : (VCmd.gs l)[((i : Int)).toNat]? = some l[i].g := map_get hlt
    have hC := samecmd_pc l[i] (by have := map_bulk (f := VCmd.g) hlt; omega)
    generalize l[i] = x at hg hC
    obtain ⟨session, seq, kind, ⟨tname, policy, ins, outs, rules⟩, name, to⟩ := x
    (repeat (first | ((first | refine qA ?_ | refine qB ?_ | refine xN ?_ | refine xE ?_ | refine xT ?_); try show PW _ _ _ _ _ _) | refine ro1 tabOk rfl rfl ?_ | refine ro2 tabOk rfl rfl ?_ | refine ro3 tabOk rfl rfl ?_ | refine rd1 tabOk rfl rfl ?_ | refine rd2 tabOk rfl rfl ?_ | refine rd3 tabOk rfl rfl ?_ | ((first | apply oR rfl rfl | (apply dF rfl rfl rfl; intro _) | (apply dP rfl rfl rfl; intro _) | (apply dL rfl rfl rfl; intro _) | apply dC rfl rfl rfl rfl); (focus (first | exact cqP hC | exact iA rfl (EL rfl) (SZ rfl) rfl rfl (Int.natCast_nonneg _) hg rfl | exact cJ | exact mG | exact bT | exact nD)); try exact kQ) | refine xS ?_ | refine xR ?_ | refine qxa rfl rfl mixed ?_ | refine qxb rfl rfl mixed ?_ | refine qxc rfl rfl mixed ?_ | refine qxd rfl rfl mixed ?_ | refine xB ?_ | refine xt rfl ?_ | refine xf rfl ?_))
    refine ⟨i + 1, hlt, by omega, SlotsOk.le ⟨.inl rfl, .inl rfl, .inl rfl, .inl (congrArg (fun x => PV.g (.int .i64 x)) (wrap64 (by omega))), trivial⟩, HLe.refl _⟩
  · (repeat (first | ((first | refine qA ?_ | refine qB ?_ | refine xN ?_ | refine xE ?_ | refine xT ?_); try show PW _ _ _ _ _ _) | refine ro1 tabOk rfl rfl ?_ | refine ro2 tabOk rfl rfl ?_ | refine ro3 tabOk rfl rfl ?_ | refine rd1 tabOk rfl rfl ?_ | refine rd2 tabOk rfl rfl ?_ | refine rd3 tabOk rfl rfl ?_ | ((first | apply oR rfl rfl | (apply dF rfl rfl rfl; intro _) | (apply dP rfl rfl rfl; intro _) | (apply dL rfl rfl rfl; intro _) | apply dC rfl rfl rfl rfl); (focus (first | exact cJ | exact mG | exact bT | exact nD)); try exact kQ) | refine xS ?_ | refine xR ?_ | refine qxa rfl rfl mixed ?_ | refine qxb rfl rfl mixed ?_ | refine qxc rfl rfl mixed ?_ | refine qxd rfl rfl mixed ?_ | refine xB ?_ | refine xt rfl ?_ | refine xf rfl ?_))
    (first | refine Ret_int (vC vT vN) rfl ?_ | refine Ret_bool (vC vT vN) rfl ?_ | refine Ret_g (vC vT vN) rfl ?_ | refine Ret_int (vC (vA (AG rfl) (SZ rfl) rfl rfl (lB rfl)) vN) rfl ?_ | refine Ret_bool (vC (vA (AG rfl) (SZ rfl) rfl rfl (lB rfl)) vN) rfl ?_ | refine Ret_g (vC (vA (AG rfl) (SZ rfl) rfl rfl (lB rfl)) vN) rfl ?_)
    rfl
end Go.Proofs.Ytffpepmfdjjjaaa


namespace Go.Proofs.Ytffpepmfdjjjaaa
open Go.Pure

/-! ### Records, in plain lists -/
theorem be4_beN (l : List UInt8) (h : l.length = 4) : be4 (beN l) = l := by
  match l, h with
  | [a, b, c, d], _ =>
    have ha := a.toNat_lt; have hb := b.toNat_lt; have hc := c.toNat_lt; have hd := d.toNat_lt
    simp only [beN, be4, List.foldl_cons, List.foldl_nil]
    have e1 : (((0 * 256 + a.toNat) * 256 + b.toNat) * 256 + c.toNat) * 256 + d.toNat = 16777216 * a.toNat + 65536 * b.toNat + 256 * c.toNat + d.toNat := by omega
    rw [e1]
    have q1 : (16777216 * a.toNat + 65536 * b.toNat + 256 * c.toNat + d.toNat) / 16777216 % 256 = a.toNat := by omega
    have q2 : (16777216 * a.toNat + 65536 * b.toNat + 256 * c.toNat + d.toNat) / 65536 % 256 = b.toNat := by omega
    have q3 : (16777216 * a.toNat + 65536 * b.toNat + 256 * c.toNat + d.toNat) / 256 % 256 = c.toNat := by omega
    have q4 : (16777216 * a.toNat + 65536 * b.toNat + 256 * c.toNat + d.toNat) % 256 = d.toNat := by omega
    rw [q1, q2, q3, q4]
    simp
/-- A command's record. -/
def recB (c : VCmd) : List UInt8 := be4 (body c).1.length ++ (body c).1
def allB (l : List VCmd) : List UInt8 := l.flatMap recB
theorem recB_len (c : VCmd) : (recB c).length = 4 + (body c).1.length := by simp [recB, be4]; omega
theorem allB_append (a b : List VCmd) : allB (a ++ b) = allB a ++ allB b := by simp [allB]
theorem allB_one (c : VCmd) : allB [c] = recB c := by simp [allB]
/-- A command whose bytes are read again. -/
def sound (c : VCmd) : Prop := (body c).2 = 0 ∧ parseT (body c).1 = (packCmd c, 0)
theorem next_back {file : List UInt8} {at_ e : Nat} {c : VCmd} (h : nextX file at_ = (c, (e : Int), true)) : sound c ∧ e = at_ + (recB c).length ∧ file.take e = file.take at_ ++ recB c ∧ gbulk c.g ≤ (recB c).length := by
  unfold nextX at h
  split at h
  · simp at h
  · rename_i h1
    dsimp only at h
    split at h
    · simp at h
    · rename_i h2
      have hd4 : ((file.drop at_).take 4).length = 4 := by simp; omega
      generalize hhd : (file.drop at_).take 4 = hd at h h2 hd4
      generalize hpt : (file.drop (at_ + 4)).take (beN hd) = pt at h
      have hptl : pt.length = beN hd := by rw [← hpt]; simp; omega
      split at h
      · rename_i h3
        simp only [Prod.mk.injEq, decide_eq_true_eq] at h
        obtain ⟨hc, he, hu⟩ := h
        have hu2 : (unCmd0 (parseT pt).1).2 = false := by
          cases hq : (unCmd0 (parseT pt).1).2 with
          | false => rfl
          | true =>
            unfold unCmd at hu
            rw [if_pos hq] at hu
            cases hu
        have hc2 : (unCmd0 (parseT pt).1).1 = c := by
          rw [← hc]
          unfold unCmd
          rw [hu2]
          rfl
        have hp := unCmd_back _ hu2
        rw [hc2] at hp
        have hB := (parse_bytes (u := (parseT pt).1) (Prod.ext rfl h3)).1
        rw [← hp] at hB
        have hbody : body c = (pt, 0) := hB
        have hs : sound c := ⟨by rw [hbody], by rw [hbody, hp]; exact Prod.ext rfl h3⟩
        have hrl : (recB c).length = 4 + beN hd := by rw [recB_len, hbody]; dsimp only; omega
        have hr : recB c = hd ++ pt := by
          rw [recB, hbody]
          dsimp only
          rw [hptl, be4_beN hd hd4]
        refine ⟨hs, by omega, ?_, ?_⟩
        · have : e = at_ + (4 + beN hd) := by omega
          rw [this, List.take_add, hr, ← hhd, ← hpt]
          congr 1
          rw [List.take_add, hhd, List.drop_drop]
        · have h8 := (cmd_bulks c).1
          have h9 := bulk_enc (packCmd c)
          have h10 := (bytes_enc hB).1
          have h11 : (enc (packCmd c)).length ≤ pt.length := by
            have : bytesT (packCmd c) = (pt, 0) := hB
            unfold bytesT at this
            split at this
            · split at this
              · simp at this
              · have := congrArg (fun x => x.1.length) this
                simp [four] at this
                omega
            · rename_i h0; exact absurd (congrArg Prod.snd this) h0
          rw [hrl]
          omega
      · simp at h

theorem recX_back : ∀ (k : Nat) (file : List UInt8) (at_ : Nat) (l : List VCmd) (n : Nat), at_ ≤ file.length → recX k file at_ = (l, n) → (∀ c ∈ l, sound c) ∧ file.take n = file.take at_ ++ allB l ∧ n = at_ + (allB l).length ∧ n ≤ file.length ∧ gbulks (l.map VCmd.g) ≤ (allB l).length
  | 0, file, at_, l, n, ha, h => by
    simp only [recX, Prod.mk.injEq] at h
    obtain ⟨rfl, rfl⟩ := h
    simp [allB, ha, gbulks]
  | k + 1, file, at_, l, n, ha, h => by
    rw [recX] at h
    split at h
    · rename_i hok
      obtain ⟨e, he, he1, he2⟩ := next_end hok
      rw [he] at h
      simp only [Int.toNat_natCast, Prod.mk.injEq] at h
      obtain ⟨hl, rfl⟩ := h
      have hb := next_back (c := (nextX file at_).1) (e := e) (Prod.ext rfl (Prod.ext he hok))
      generalize (nextX file at_).1 = c at hb hl
      obtain ⟨b1, b2, b3, b4⟩ := hb
      obtain ⟨r1, r2, r3, r4, r5⟩ := recX_back k file e _ _ he2 rfl
      generalize (recX k file e).1 = l' at hl r1 r2 r3 r5
      subst hl
      have hal : allB (c :: l') = recB c ++ allB l' := by simp [allB]
      refine ⟨fun x hx => ?_, ?_, ?_, r4, ?_⟩
      · rcases List.mem_cons.1 hx with rfl | hx
        · exact b1
        · exact r1 x hx
      · rw [r2, b3, hal, List.append_assoc]
      · rw [hal, List.length_append]; omega
      · rw [hal, List.length_append, List.map_cons, gbulks]; omega
    · simp only [Prod.mk.injEq] at h
      obtain ⟨rfl, rfl⟩ := h
      simp [allB, ha, gbulks]
end Go.Proofs.Ytffpepmfdjjjaaa


namespace Go.Proofs.Ytffpepmfdjjjaaa
open Go.Pure

/-! ### A tree read as a command, whatever it is -/
def kidP (t : Tr) (i : Nat) : Tr := t.kids.getD i (.mk 0 0 ⟨#[]⟩ [])
mutual
def lenV : Tr → VVal
  | .mk _ n text (k0 :: k1 :: k2 :: rest) => .mk k2.num (k1.num == 1) n k0.num text (lenVs rest)
  | .mk _ n text [k0, k1] => .mk 0 (k1.num == 1) n k0.num text []
  | .mk _ n text [k0] => .mk 0 false n k0.num text []
  | .mk _ n text [] => .mk 0 false n 0 text []
def lenVs : List Tr → List VVal
  | [] => []
  | t :: r => lenV t :: lenVs r
end
mutual
def lenE : Tr → VExpr
  | .mk _ n text (k0 :: .mk _ _ _ ks :: _) => .mk n (lenV k0) text (lenEs ks)
  | .mk _ n text [k0] => .mk n (lenV k0) text []
  | .mk _ n text [] => .mk n noVal text []
def lenEs : List Tr → List VExpr
  | [] => []
  | t :: r => lenE t :: lenEs r
end
mutual
def lenT : Tr → VTest
  | .mk _ n _ (k0 :: k1 :: k2 :: k3 :: .mk _ _ _ ks :: _) => .mk n (lenV k0) (lenV k1) (k2.num == 1) (k3.num == 1) (lenTs ks)
  | .mk _ n _ [k0, k1, k2, k3] => .mk n (lenV k0) (lenV k1) (k2.num == 1) (k3.num == 1) []
  | .mk _ n _ [k0, k1, k2] => .mk n (lenV k0) (lenV k1) (k2.num == 1) false []
  | .mk _ n _ [k0, k1] => .mk n (lenV k0) (lenV k1) false false []
  | .mk _ n _ [k0] => .mk n (lenV k0) noVal false false []
  | .mk _ n _ [] => .mk n noVal noVal false false []
def lenTs : List Tr → List VTest
  | [] => []
  | t :: r => lenT t :: lenTs r
end
theorem lenVs_eq : ∀ l, lenVs l = l.map lenV
  | [] => rfl
  | t :: r => by rw [lenVs, lenVs_eq r]; rfl
theorem lenEs_eq : ∀ l, lenEs l = l.map lenE
  | [] => rfl
  | t :: r => by rw [lenEs, lenEs_eq r]; rfl
theorem lenTs_eq : ∀ l, lenTs l = l.map lenT
  | [] => rfl
  | t :: r => by rw [lenTs, lenTs_eq r]; rfl
theorem lenV_kids (t : Tr) : lenV t = .mk (kidP t 2).num ((kidP t 1).num == 1) t.num (kidP t 0).num t.text ((t.kids.drop 3).map lenV) := by
  match t with
  | .mk _ n text [] => rfl
  | .mk _ n text [k0] => rfl
  | .mk _ n text [k0, k1] => rfl
  | .mk _ n text (k0 :: k1 :: k2 :: rest) => rw [lenV, lenVs_eq]; rfl
theorem lenE_kids (t : Tr) : lenE t = .mk t.num (lenV (kidP t 0)) t.text ((kidP t 1).kids.map lenE) := by
  match t with
  | .mk _ n text [] => rfl
  | .mk _ n text [k0] => rfl
  | .mk _ n text (k0 :: .mk _ _ _ ks :: r) => rw [lenE, lenEs_eq]; rfl
theorem lenT_kids (t : Tr) : lenT t = .mk t.num (lenV (kidP t 0)) (lenV (kidP t 1)) ((kidP t 2).num == 1) ((kidP t 3).num == 1) ((kidP t 4).kids.map lenT) := by
  match t with
  | .mk _ n text [] => rfl
  | .mk _ n text [_] => rfl
  | .mk _ n text [_, _] => rfl
  | .mk _ n text [_, _, _] => rfl
  | .mk _ n text [_, _, _, _] => rfl
  | .mk _ n text (k0 :: k1 :: k2 :: k3 :: .mk _ _ _ ks :: r) => rw [lenT, lenTs_eq]; rfl
def lenC (t : Tr) : VCol := .mk t.text t.num ((kidP t 0).kids.map lenV)
def lenR (t : Tr) : VRule := .mk ((kidP t 0).kids.map lenT) ((kidP t 1).kids.map lenE)
def lenCmd (t : Tr) : VCmd := .mk (kidP t 0).num (kidP t 1).num t.num (.mk (kidP t 3).text (kidP t 3).num ((kidP (kidP t 3) 0).kids.map lenC) ((kidP (kidP t 3) 1).kids.map lenC) ((kidP (kidP t 3) 2).kids.map lenR)) t.text (kidP t 2).num

/-! What is packed is read back so. -/
theorem flag_one (b : Bool) : ((numT (flagN b)).num == 1) = b := by cases b <;> rfl
theorem map_back {α : Type} {f : Tr → α} {pk : α → Tr} : ∀ {l : List α}, (∀ x ∈ l, f (pk x) = x) → (l.map pk).map f = l
  | [], _ => rfl
  | x :: l, h => by rw [List.map_cons, List.map_cons, h x (by simp), map_back fun y hy => h y (List.mem_cons_of_mem _ hy)]
theorem lenV_pack : ∀ (m : Nat) (v : VVal), SizeOf.sizeOf v ≤ m → lenV (packV v) = v
  | 0, v, hm => by cases v; simp at hm
  | m + 1, .mk kind yes coef exp text list, hm => by
    have ih := fun (x : VVal) (hx : x ∈ list) => lenV_pack m x (by have := List.sizeOf_lt_of_mem hx; simp at hm; omega)
    rw [packV, lenV, lenVs_eq, packVs_eq, map_back ih, flag_one]
    rfl
theorem lenE_pack : ∀ (m : Nat) (v : VExpr), SizeOf.sizeOf v ≤ m → lenE (packE v) = v
  | 0, v, hm => by cases v; simp at hm
  | m + 1, .mk kind val name kids, hm => by
    have ih := fun (x : VExpr) (hx : x ∈ kids) => lenE_pack m x (by have := List.sizeOf_lt_of_mem hx; simp at hm; omega)
    rw [packE, packEs_eq, listT, lenE, lenEs_eq, map_back ih, lenV_pack _ val (Nat.le_refl _)]
theorem lenT_pack : ∀ (m : Nat) (v : VTest), SizeOf.sizeOf v ≤ m → lenT (packT v) = v
  | 0, v, hm => by cases v; simp at hm
  | m + 1, .mk kind a b oa ob kids, hm => by
    have ih := fun (x : VTest) (hx : x ∈ kids) => lenT_pack m x (by have := List.sizeOf_lt_of_mem hx; simp at hm; omega)
    rw [packT, packTs_eq, listT, lenT, lenTs_eq, map_back ih, lenV_pack _ a (Nat.le_refl _), lenV_pack _ b (Nat.le_refl _), flag_one, flag_one]
theorem lenC_pack (v : VCol) : lenC (packC v) = v := by
  obtain ⟨name, kind, order⟩ := v
  have h := map_back (l := order) fun x _ => lenV_pack _ x (Nat.le_refl _)
  rw [packC, packVs_eq]
  exact congrArg (VCol.mk name kind) h
theorem lenR_pack (v : VRule) : lenR (packR v) = v := by
  obtain ⟨t, o⟩ := v
  have h1 := map_back (l := t) fun x _ => lenT_pack _ x (Nat.le_refl _)
  have h2 := map_back (l := o) fun x _ => lenE_pack _ x (Nat.le_refl _)
  rw [packR, packTs_eq, packEs_eq]
  show VRule.mk ((t.map packT).map lenT) ((o.map packE).map lenE) = _
  rw [h1, h2]
theorem lenCmd_pack (v : VCmd) : lenCmd (packCmd v) = v := by
  obtain ⟨session, seq, kind, ⟨tname, policy, ins, outs, rules⟩, name, to⟩ := v
  have h1 := map_back (l := ins) fun x _ => lenC_pack x
  have h2 := map_back (l := outs) fun x _ => lenC_pack x
  have h3 := map_back (l := rules) fun x _ => lenR_pack x
  rw [packCmd]
  show VCmd.mk session seq kind (.mk tname policy ((ins.map packC).map lenC) ((outs.map packC).map lenC) ((rules.map packR).map lenR)) name to = _
  rw [h1, h2, h3]
/-- Read whatever it is, and held against it: just when it can be taken apart. -/
theorem len_iff (t : Tr) : (unCmd t).2 = 0 ↔ packCmd (lenCmd t) = t := by
  constructor
  · intro h
    have h2 : (unCmd0 t).2 = false := by
      cases hq : (unCmd0 t).2 with
      | false => rfl
      | true => unfold unCmd at h; rw [if_pos hq] at h; cases h
    have h3 := unCmd_back t h2
    rw [← h3, lenCmd_pack]
  · intro h
    rw [← h, unCmd_pack]
theorem len_un (t : Tr) (h : packCmd (lenCmd t) = t) : unCmd t = (lenCmd t, 0) := by
  have := unCmd_pack (lenCmd t)
  rw [h] at this
  exact this

/-! How much it holds. -/
theorem map_hi {α : Type} {f : Tr → α} {g : α → GV} : ∀ {l : List Tr}, (∀ x ∈ l, gbulk (g (f x)) ≤ 6 * gbulk x.g) → gbulks ((l.map f).map g) ≤ 6 * gbulks (Tr.gs l)
  | [], _ => by simp [gbulks]
  | x :: l, h => by
    have h1 := h x (by simp)
    have h2 := map_hi (l := l) fun y hy => h y (List.mem_cons_of_mem _ hy)
    simp only [List.map_cons, gbulks, Tr.gs]; omega
theorem noVal_bulk : gbulk noVal.g = 6 := by rw [noVal, val_bulk]; simp [gbulks]; rfl
theorem lenV_bulk : ∀ (m : Nat) (t : Tr), SizeOf.sizeOf t ≤ m → gbulk (lenV t).g ≤ 6 * gbulk t.g
  | 0, t, hm => by cases t; simp at hm
  | m + 1, .mk _ n text [], hm => by rw [lenV, val_bulk, tr_bulk]; simp [gbulks]; omega
  | m + 1, .mk _ n text [_], hm => by rw [lenV, val_bulk, tr_bulk]; simp [gbulks]; omega
  | m + 1, .mk _ n text [_, _], hm => by rw [lenV, val_bulk, tr_bulk]; simp [gbulks]; omega
  | m + 1, .mk _ n text (k0 :: k1 :: k2 :: rest), hm => by
    have ih := map_hi (l := rest) (f := lenV) (g := VVal.g) fun x hx => lenV_bulk m x (by have := List.sizeOf_lt_of_mem hx; simp at hm; omega)
    rw [lenV, lenVs_eq, val_bulk, tr_bulk]
    simp only [Tr.gs, gbulks]
    omega
theorem lenE_bulk : ∀ (m : Nat) (t : Tr), SizeOf.sizeOf t ≤ m → gbulk (lenE t).g ≤ 6 * gbulk t.g
  | 0, t, hm => by cases t; simp at hm
  | m + 1, .mk _ n text [], hm => by rw [lenE, expr_bulk, tr_bulk, noVal_bulk]; simp [gbulks]; omega
  | m + 1, .mk _ n text [k0], hm => by
    have h0 := lenV_bulk _ k0 (Nat.le_refl _)
    rw [lenE, expr_bulk, tr_bulk]; simp only [Tr.gs, List.map_nil, gbulks]; omega
  | m + 1, .mk _ n text (k0 :: .mk a1 a2 a3 ks :: r), hm => by
    have h0 := lenV_bulk _ k0 (Nat.le_refl _)
    have ih := map_hi (l := ks) (f := lenE) (g := VExpr.g) fun x hx => lenE_bulk m x (by have := List.sizeOf_lt_of_mem hx; simp at hm; omega)
    rw [lenE, lenEs_eq, expr_bulk, tr_bulk]
    simp only [Tr.gs, gbulks, tr_bulk]
    omega
theorem lenT_bulk : ∀ (m : Nat) (t : Tr), SizeOf.sizeOf t ≤ m → gbulk (lenT t).g ≤ 6 * gbulk t.g
  | 0, t, hm => by cases t; simp at hm
  | m + 1, .mk _ n text [], hm => by rw [lenT, test_bulk, tr_bulk, noVal_bulk]; simp [gbulks]; omega
  | m + 1, .mk _ n text [k0], hm => by
    have h0 := lenV_bulk _ k0 (Nat.le_refl _)
    rw [lenT, test_bulk, tr_bulk, noVal_bulk]; simp only [Tr.gs, List.map_nil, gbulks]; omega
  | m + 1, .mk _ n text [k0, k1], hm => by
    have h0 := lenV_bulk _ k0 (Nat.le_refl _)
    have h1 := lenV_bulk _ k1 (Nat.le_refl _)
    rw [lenT, test_bulk, tr_bulk]; simp only [Tr.gs, List.map_nil, gbulks]; omega
  | m + 1, .mk _ n text [k0, k1, k2], hm => by
    have h0 := lenV_bulk _ k0 (Nat.le_refl _)
    have h1 := lenV_bulk _ k1 (Nat.le_refl _)
    rw [lenT, test_bulk, tr_bulk]; simp only [Tr.gs, List.map_nil, gbulks]; omega
  | m + 1, .mk _ n text [k0, k1, k2, k3], hm => by
    have h0 := lenV_bulk _ k0 (Nat.le_refl _)
    have h1 := lenV_bulk _ k1 (Nat.le_refl _)
    rw [lenT, test_bulk, tr_bulk]; simp only [Tr.gs, List.map_nil, gbulks]; omega
  | m + 1, .mk _ n text (k0 :: k1 :: k2 :: k3 :: .mk a1 a2 a3 ks :: r), hm => by
    have h0 := lenV_bulk _ k0 (Nat.le_refl _)
    have h1 := lenV_bulk _ k1 (Nat.le_refl _)
    have ih := map_hi (l := ks) (f := lenT) (g := VTest.g) fun x hx => lenT_bulk m x (by have := List.sizeOf_lt_of_mem hx; simp at hm; omega)
    rw [lenT, lenTs_eq, test_bulk, tr_bulk]
    simp only [Tr.gs, gbulks, tr_bulk]
    omega
end Go.Proofs.Ytffpepmfdjjjaaa


namespace Go.Proofs.Ytffpepmfdjjjaaa
open Go.Pure

theorem tr_bulk' (t : Tr) : gbulk t.g = t.text.size + gbulks (Tr.gs t.kids) + 4 := by
  obtain ⟨a, b, c, d⟩ := t; exact tr_bulk a b c d
/-- The kids of the first kids. -/
theorem three_kids (t : Tr) : gbulks (Tr.gs (kidP t 0).kids) + gbulks (Tr.gs (kidP t 1).kids) + gbulks (Tr.gs (kidP t 2).kids) ≤ gbulks (Tr.gs t.kids) := by
  unfold kidP
  match t.kids with
  | [] => simp [Tr.kids, Tr.gs, gbulks]
  | [a] => have := tr_bulk' a; simp only [List.getD_cons_zero, List.getD_cons_succ, List.getD_nil, Tr.kids, Tr.gs, gbulks] at *; omega
  | [a, b] => have := tr_bulk' a; have := tr_bulk' b; simp only [List.getD_cons_zero, List.getD_cons_succ, List.getD_nil, Tr.kids, Tr.gs, gbulks] at *; omega
  | a :: b :: c :: r => have := tr_bulk' a; have := tr_bulk' b; have := tr_bulk' c; simp only [List.getD_cons_zero, List.getD_cons_succ, Tr.gs, gbulks] at *; omega
theorem kid_le (t : Tr) (i : Nat) : gbulk (kidP t i).g ≤ gbulks (Tr.gs t.kids) + 4 := by
  unfold kidP
  by_cases h : i < t.kids.length
  · rw [List.getD_eq_getElem?_getD, List.getElem?_eq_getElem h]
    have := tr_mem (List.getElem_mem h)
    rw [gs_eq]
    simp only [Option.getD_some]
    omega
  · rw [List.getD_eq_getElem?_getD, List.getElem?_eq_none (by omega)]
    have : gbulk (Tr.mk 0 0 ⟨#[]⟩ []).g = 4 := noTr_bulk
    simp only [Option.getD_none]
    omega
theorem lenC_bulk (t : Tr) : gbulk (lenC t).g ≤ 6 * gbulk t.g := by
  have h1 := map_hi (l := (kidP t 0).kids) (f := lenV) (g := VVal.g) fun x _ => lenV_bulk _ x (Nat.le_refl _)
  have h2 := three_kids t
  rw [lenC, col_bulk, tr_bulk']
  omega
theorem lenR_bulk (t : Tr) : gbulk (lenR t).g ≤ 6 * gbulk t.g := by
  have h1 := map_hi (l := (kidP t 0).kids) (f := lenT) (g := VTest.g) fun x _ => lenT_bulk _ x (Nat.le_refl _)
  have h3 := map_hi (l := (kidP t 1).kids) (f := lenE) (g := VExpr.g) fun x _ => lenE_bulk _ x (Nat.le_refl _)
  have h2 := three_kids t
  rw [lenR, rule_bulk, tr_bulk']
  omega
theorem lenCmd_bulk (t : Tr) : gbulk (lenCmd t).g ≤ 6 * gbulk t.g + 24 := by
  have h1 := map_hi (l := (kidP (kidP t 3) 0).kids) (f := lenC) (g := VCol.g) fun x _ => lenC_bulk x
  have h2 := map_hi (l := (kidP (kidP t 3) 1).kids) (f := lenC) (g := VCol.g) fun x _ => lenC_bulk x
  have h3 := map_hi (l := (kidP (kidP t 3) 2).kids) (f := lenR) (g := VRule.g) fun x _ => lenR_bulk x
  have h4 := three_kids (kidP t 3)
  have h5 := tr_bulk' (kidP t 3)
  have h6 := kid_le t 3
  rw [lenCmd, cmd_bulk, tr_bulk']
  omega

/-! ### Are two trees the same? -/
mutual
def sameT : Tr → Tr → Bool
  | .mk t n s k, .mk t' n' s' k' => decide (t = t') && (decide (n = n') && (decide (s = s') && (decide (k.length = k'.length) && sameTs k k')))
def sameTs : List Tr → List Tr → Bool
  | [], [] => true
  | a :: r, b :: r' => sameT a b && sameTs r r'
  | _, _ => false
end
mutual
theorem sameT_iff : ∀ (a b : Tr), sameT a b = true ↔ a = b
  | .mk t n s k, .mk t' n' s' k' => by
    have h := sameTs_iff k k'
    simp only [sameT, Bool.and_eq_true, decide_eq_true_eq, h, Tr.mk.injEq]
    constructor
    · rintro ⟨h1, h2, h3, _, h5⟩; exact ⟨h1, h2, h3, h5⟩
    · rintro ⟨h1, h2, h3, h4⟩; exact ⟨h1, h2, h3, by rw [h4], h4⟩
theorem sameTs_iff : ∀ (a b : List Tr), sameTs a b = true ↔ a = b
  | [], [] => by simp [sameTs]
  | [], _ :: _ => by simp [sameTs]
  | _ :: _, [] => by simp [sameTs]
  | a :: r, b :: r' => by
    have h1 := sameT_iff a b
    have h2 := sameTs_iff r r'
    simp [sameTs, h1, h2]
end
end Go.Proofs.Ytffpepmfdjjjaaa


namespace Go.Proofs.Ytffpepmfdjjjaaa
open Go.Pure
attribute [local irreducible] PW POps POpsD PO PC Cond

set_option maxRecDepth 100000 in
set_option maxHeartbeats 4000000 in
theorem samet_any : ∀ (m : Nat) (a b : Tr), SizeOf.sizeOf a ≤ m → a.ok → b.ok → PC Try.prog 13 [.g a.g, .g b.g] ⟨[], [], []⟩ (.g (.bool (sameT a b))) ⟨[], [], []⟩
  | 0, a, b, hm, _, _ => by cases a; simp at hm
  | m + 1, .mk tag tn text kids, .mk tag' tn' text' kids', hm, hk, hk' => by
    simp only [Tr.ok, maxLen] at hk hk'
    have hs : sameT (.mk tag tn text kids) (.mk tag' tn' text' kids') = (decide (tag = tag') && (decide (tn = tn') && (decide (text = text') && (decide (kids.length = kids'.length) && sameTs kids kids')))) := rfl
    have g1 := gs_len kids
    have g2 := gs_len kids'
    refine PC_of_PW Try.func13 rfl rfl (rs := _) rfl (Nat.le_of_ble_eq_true (by kernel_rfl)) ?_
    (repeat' (first | (first | ((first | refine qA ?_ | refine qB ?_ | refine xN ?_ | refine xE ?_ | refine xT ?_); try show PW _ _ _ _ _ _) | refine ro1 tabOk rfl rfl ?_ | refine ro2 tabOk rfl rfl ?_ | refine ro3 tabOk rfl rfl ?_ | refine rd1 tabOk rfl rfl ?_ | refine rd2 tabOk rfl rfl ?_ | refine rd3 tabOk rfl rfl ?_ | ((first | apply oR rfl rfl | (apply dF rfl rfl rfl; intro _) | (apply dP rfl rfl rfl; intro _) | (apply dL rfl rfl rfl; intro _) | apply dC rfl rfl rfl rfl); (focus (first | exact cJ | exact mG | exact bT | exact nD)); try exact kQ) | refine xU [3] rfl ?_ | refine xR ?_ | refine qxa rfl rfl mixed ?_ | refine qxb rfl rfl mixed ?_ | refine qxc rfl rfl mixed ?_ | refine qxd rfl rfl mixed ?_ | refine xB ?_ | refine xt rfl ?_ | refine xf rfl ?_) | (refine POps_split rfl rfl (fun h => ?_) (fun h => ?_) <;> fail_if_success (first | (have : true = true := h) | (have : false = false := h))) | (refine POpsD_split rfl rfl (fun h => ?_) (fun h => ?_) <;> fail_if_success (first | (have : true = true := h) | (have : false = false := h))) | refine PW_cond rfl (fun h => ?_) (fun h => ?_)))
    · have h1 : ¬ tag = tag' := by simpa [bne] using h
      rw [decide_eq_false h1] at hs
      rw [hs]
      (first | refine Ret_int (vC vT vN) rfl ?_ | refine Ret_bool (vC vT vN) rfl ?_ | refine Ret_g (vC vT vN) rfl ?_ | refine Ret_int (vC (vA (AG rfl) (SZ rfl) rfl rfl (lB rfl)) vN) rfl ?_ | refine Ret_bool (vC (vA (AG rfl) (SZ rfl) rfl rfl (lB rfl)) vN) rfl ?_ | refine Ret_g (vC (vA (AG rfl) (SZ rfl) rfl rfl (lB rfl)) vN) rfl ?_)
      rfl
    · have h1 : ¬ tn = tn' := by simpa [bne] using h
      rw [decide_eq_false h1] at hs
      rw [hs]
      (first | refine Ret_int (vC vT vN) rfl ?_ | refine Ret_bool (vC vT vN) rfl ?_ | refine Ret_g (vC vT vN) rfl ?_ | refine Ret_int (vC (vA (AG rfl) (SZ rfl) rfl rfl (lB rfl)) vN) rfl ?_ | refine Ret_bool (vC (vA (AG rfl) (SZ rfl) rfl rfl (lB rfl)) vN) rfl ?_ | refine Ret_g (vC (vA (AG rfl) (SZ rfl) rfl rfl (lB rfl)) vN) rfl ?_)
      simp
    · have h1 : ¬ text = text' := neStr h
      rw [decide_eq_false h1] at hs
      rw [hs]
      (first | refine Ret_int (vC vT vN) rfl ?_ | refine Ret_bool (vC vT vN) rfl ?_ | refine Ret_g (vC vT vN) rfl ?_ | refine Ret_int (vC (vA (AG rfl) (SZ rfl) rfl rfl (lB rfl)) vN) rfl ?_ | refine Ret_bool (vC (vA (AG rfl) (SZ rfl) rfl rfl (lB rfl)) vN) rfl ?_ | refine Ret_g (vC (vA (AG rfl) (SZ rfl) rfl rfl (lB rfl)) vN) rfl ?_)
      simp
    · have h1 : ¬ kids.length = kids'.length := fun e => by rw [g1, g2, e] at h; simp at h
      rw [decide_eq_false h1] at hs
      rw [hs]
      (first | refine Ret_int (vC vT vN) rfl ?_ | refine Ret_bool (vC vT vN) rfl ?_ | refine Ret_g (vC vT vN) rfl ?_ | refine Ret_int (vC (vA (AG rfl) (SZ rfl) rfl rfl (lB rfl)) vN) rfl ?_ | refine Ret_bool (vC (vA (AG rfl) (SZ rfl) rfl rfl (lB rfl)) vN) rfl ?_ | refine Ret_g (vC (vA (AG rfl) (SZ rfl) rfl rfl (lB rfl)) vN) rfl ?_)
      simp
    · rename_i q1 q2 q3
      have e1 : tag = tag' := by simpa [bne] using q1
      have e2 : tn = tn' := by simpa [bne] using q2
      have e3 : text = text' := eqStr q3
      have e4 : kids.length = kids'.length := by
        rw [g1, g2] at h
        have : (kids.length : Int) = kids'.length := by simpa [bne] using h
        omega
      rw [decide_eq_true e1, decide_eq_true e2, decide_eq_true e3, decide_eq_true e4] at hs
      simp only [Bool.true_and] at hs
      rw [hs]
      clear hs h q1 q2 q3 e1 e2 e3
      (repeat (first | ((first | refine qA ?_ | refine qB ?_ | refine xN ?_ | refine xE ?_ | refine xT ?_); try show PW _ _ _ _ _ _) | refine ro1 tabOk rfl rfl ?_ | refine ro2 tabOk rfl rfl ?_ | refine ro3 tabOk rfl rfl ?_ | refine rd1 tabOk rfl rfl ?_ | refine rd2 tabOk rfl rfl ?_ | refine rd3 tabOk rfl rfl ?_ | ((first | apply oR rfl rfl | (apply dF rfl rfl rfl; intro _) | (apply dP rfl rfl rfl; intro _) | (apply dL rfl rfl rfl; intro _) | apply dC rfl rfl rfl rfl); (focus (first | exact cJ | exact mG | exact bT | exact nD)); try exact kQ) | refine xS ?_ | refine xR ?_ | refine qxa rfl rfl mixed ?_ | refine qxb rfl rfl mixed ?_ | refine qxc rfl rfl mixed ?_ | refine qxd rfl rfl mixed ?_ | refine xB ?_ | refine xt rfl ?_ | refine xf rfl ?_))
      refine PW_loop_cut (S := Nat) (fun i => [(2, .ptr 0 0), (3, .ptr 1 0), (36, .g (.int .i64 kids.length)), (37, .g (.int .i64 i))])
        (fun _ => ⟨[[.g (.int .i64 tag), .g (.int .i64 tn), .g (.str text), .g (.sl (Tr.gs kids))], [.g (.int .i64 tag'), .g (.int .i64 tn'), .g (.str text'), .g (.sl (Tr.gs kids'))]], [], []⟩) (fun i => i ≤ kids.length ∧ sameTs kids kids' = sameTs (kids.drop i) (kids'.drop i)) (fun i => kids.length - i) 0 ⟨Nat.zero_le _, rfl⟩
        (SlotsOk.le ⟨.inl rfl, .inl rfl, .inl (congrArg (fun k : Nat => PV.g (.int .i64 k)) (gs_len kids)), .inl rfl, trivial⟩) (HLe.of_eq rfl) (fun _ => rfl) (fun i hi => ?_)
      obtain ⟨hi, hgo⟩ := hi
      (repeat (first | ((first | refine qA ?_ | refine qB ?_ | refine xN ?_ | refine xE ?_ | refine xT ?_); try show PW _ _ _ _ _ _) | refine ro1 tabOk rfl rfl ?_ | refine ro2 tabOk rfl rfl ?_ | refine ro3 tabOk rfl rfl ?_ | refine rd1 tabOk rfl rfl ?_ | refine rd2 tabOk rfl rfl ?_ | refine rd3 tabOk rfl rfl ?_ | ((first | apply oR rfl rfl | (apply dF rfl rfl rfl; intro _) | (apply dP rfl rfl rfl; intro _) | (apply dL rfl rfl rfl; intro _) | apply dC rfl rfl rfl rfl); (focus (first | exact cJ | exact mG | exact bT | exact nD)); try exact kQ) | refine xS ?_ | refine xR ?_ | refine qxa rfl rfl mixed ?_ | refine qxb rfl rfl mixed ?_ | refine qxc rfl rfl mixed ?_ | refine qxd rfl rfl mixed ?_ | refine xB ?_ | refine xt rfl ?_ | refine xf rfl ?_))
      (first | refine POps_split rfl rfl (fun h => ?_) (fun h => ?_) | refine POpsD_split rfl rfl (fun h => ?_) (fun h => ?_) | refine PW_cond rfl (fun h => ?_) (fun h => ?_))
      · have hlt : i < kids.length := by have := of_decide_eq_true h; omega
        have hlt' : i < kids'.length := by omega
        have hg := gs_get hlt
        have hg' := gs_get hlt'
        have hsz := kid_size hlt tag tn text
        rw [List.drop_eq_getElem_cons hlt, List.drop_eq_getElem_cons hlt', sameTs] at hgo
        have hI := samet_any m kids[i] kids'[i] (by omega) (oks_get hlt hk.2) (oks_get hlt' hk'.2)
        generalize kids[i] = kid at hg hI hgo
        generalize kids'[i] = kid' at hg' hI hgo
        generalize sameT kid kid' = q at hI hgo
        obtain ⟨ta, tb, tc, td⟩ := kid
        obtain ⟨ua, ub, uc, ud⟩ := kid'
        clear h
        cases q with
        | true =>
          (repeat (first | ((first | refine qA ?_ | refine qB ?_ | refine xN ?_ | refine xE ?_ | refine xT ?_); try show PW _ _ _ _ _ _) | refine ro1 tabOk rfl rfl ?_ | refine ro2 tabOk rfl rfl ?_ | refine ro3 tabOk rfl rfl ?_ | refine rd1 tabOk rfl rfl ?_ | refine rd2 tabOk rfl rfl ?_ | refine rd3 tabOk rfl rfl ?_ | ((first | apply oR rfl rfl | (apply dF rfl rfl rfl; intro _) | (apply dP rfl rfl rfl; intro _) | (apply dL rfl rfl rfl; intro _) | apply dC rfl rfl rfl rfl); (focus (first | exact cqP hI | exact iA rfl (EL rfl) (SZ rfl) rfl rfl (Int.natCast_nonneg _) hg rfl | exact iA rfl (EL rfl) (SZ rfl) rfl rfl (Int.natCast_nonneg _) hg' rfl | exact cJ | exact mG | exact bT | exact nD)); try exact kQ) | refine xS ?_ | refine xR ?_ | refine xK false false [0, 1] rfl mixed (by decide +kernel) ?_ | refine xK false true [0, 1] rfl mixed (by decide +kernel) ?_ | refine xK true false [0, 1] rfl mixed (by decide +kernel) ?_ | refine xK true true [0, 1] rfl mixed (by decide +kernel) ?_ | refine xB ?_ | refine xt rfl ?_ | refine xf rfl ?_))
          refine ⟨i + 1, ⟨hlt, by rw [hgo]; rfl⟩, by omega, SlotsOk.le ⟨.inl rfl, .inl rfl, .inl rfl, .inl (congrArg (fun x => PV.g (.int .i64 x)) (wrap64 (by omega))), trivial⟩, Drops.mk [] [] [] rfl⟩
        | false =>
          (repeat (first | ((first | refine qA ?_ | refine qB ?_ | refine xN ?_ | refine xE ?_ | refine xT ?_); try show PW _ _ _ _ _ _) | refine ro1 tabOk rfl rfl ?_ | refine ro2 tabOk rfl rfl ?_ | refine ro3 tabOk rfl rfl ?_ | refine rd1 tabOk rfl rfl ?_ | refine rd2 tabOk rfl rfl ?_ | refine rd3 tabOk rfl rfl ?_ | ((first | apply oR rfl rfl | (apply dF rfl rfl rfl; intro _) | (apply dP rfl rfl rfl; intro _) | (apply dL rfl rfl rfl; intro _) | apply dC rfl rfl rfl rfl); (focus (first | exact cqP hI | exact iA rfl (EL rfl) (SZ rfl) rfl rfl (Int.natCast_nonneg _) hg rfl | exact iA rfl (EL rfl) (SZ rfl) rfl rfl (Int.natCast_nonneg _) hg' rfl | exact cJ | exact mG | exact bT | exact nD)); try exact kQ) | refine xS ?_ | refine xR ?_ | refine xK false false [0, 1] rfl mixed (by decide +kernel) ?_ | refine xK false true [0, 1] rfl mixed (by decide +kernel) ?_ | refine xK true false [0, 1] rfl mixed (by decide +kernel) ?_ | refine xK true true [0, 1] rfl mixed (by decide +kernel) ?_ | refine xB ?_ | refine xt rfl ?_ | refine xf rfl ?_))
          (first | refine Ret_int (vC vT vN) rfl ?_ | refine Ret_bool (vC vT vN) rfl ?_ | refine Ret_g (vC vT vN) rfl ?_ | refine Ret_int (vC (vA (AG rfl) (SZ rfl) rfl rfl (lB rfl)) vN) rfl ?_ | refine Ret_bool (vC (vA (AG rfl) (SZ rfl) rfl rfl (lB rfl)) vN) rfl ?_ | refine Ret_g (vC (vA (AG rfl) (SZ rfl) rfl rfl (lB rfl)) vN) rfl ?_)
          rw [hgo]; rfl
      · have hi' : i = kids.length := by have := of_decide_eq_false h; omega
        subst hi'
        rw [List.drop_length, e4, List.drop_length] at hgo
        (repeat (first | ((first | refine qA ?_ | refine qB ?_ | refine xN ?_ | refine xE ?_ | refine xT ?_); try show PW _ _ _ _ _ _) | refine ro1 tabOk rfl rfl ?_ | refine ro2 tabOk rfl rfl ?_ | refine ro3 tabOk rfl rfl ?_ | refine rd1 tabOk rfl rfl ?_ | refine rd2 tabOk rfl rfl ?_ | refine rd3 tabOk rfl rfl ?_ | ((first | apply oR rfl rfl | (apply dF rfl rfl rfl; intro _) | (apply dP rfl rfl rfl; intro _) | (apply dL rfl rfl rfl; intro _) | apply dC rfl rfl rfl rfl); (focus (first | exact cJ | exact mG | exact bT | exact nD)); try exact kQ) | refine xS ?_ | refine xR ?_ | refine qxa rfl rfl mixed ?_ | refine qxb rfl rfl mixed ?_ | refine qxc rfl rfl mixed ?_ | refine qxd rfl rfl mixed ?_ | refine xB ?_ | refine xt rfl ?_ | refine xf rfl ?_))
        (first | refine Ret_int (vC vT vN) rfl ?_ | refine Ret_bool (vC vT vN) rfl ?_ | refine Ret_g (vC vT vN) rfl ?_ | refine Ret_int (vC (vA (AG rfl) (SZ rfl) rfl rfl (lB rfl)) vN) rfl ?_ | refine Ret_bool (vC (vA (AG rfl) (SZ rfl) rfl rfl (lB rfl)) vN) rfl ?_ | refine Ret_g (vC (vA (AG rfl) (SZ rfl) rfl rfl (lB rfl)) vN) rfl ?_)
        rw [hgo]; rfl

set_option maxRecDepth 100000 in
set_option maxHeartbeats 4000000 in
theorem kid_pc (t : Tr) (i : Nat) (hk : t.kids.length ≤ 1000000000) : PC Try.prog 91 [.g t.g, .g (.int .i64 i)] ⟨[], [], []⟩ (.g (kidP t i).g) ⟨[], [], []⟩ := by
  obtain ⟨tag, n, text, kids⟩ := t
  have g1 := gs_len kids
  have hkp : kidP (.mk tag n text kids) i = kids.getD i (.mk 0 0 ⟨#[]⟩ []) := rfl
  rw [hkp]
  refine PC_of_PW Try.func91 rfl rfl (rs := _) rfl (Nat.le_of_ble_eq_true (by kernel_rfl)) ?_
  (repeat (first | ((first | refine qA ?_ | refine qB ?_ | refine xN ?_ | refine xE ?_ | refine xT ?_); try show PW _ _ _ _ _ _) | refine ro1 tabOk rfl rfl ?_ | refine ro2 tabOk rfl rfl ?_ | refine ro3 tabOk rfl rfl ?_ | refine rd1 tabOk rfl rfl ?_ | refine rd2 tabOk rfl rfl ?_ | refine rd3 tabOk rfl rfl ?_ | ((first | apply oR rfl rfl | (apply dF rfl rfl rfl; intro _) | (apply dP rfl rfl rfl; intro _) | (apply dL rfl rfl rfl; intro _) | apply dC rfl rfl rfl rfl); (focus (first | exact cJ | exact mG | exact bT | exact nD)); try exact kQ) | refine xS ?_ | refine xR ?_ | refine qxa rfl rfl mixed ?_ | refine qxb rfl rfl mixed ?_ | refine qxc rfl rfl mixed ?_ | refine qxd rfl rfl mixed ?_ | refine xB ?_ | refine xt rfl ?_ | refine xf rfl ?_))
  (first | refine POps_split rfl rfl (fun h => ?_) (fun h => ?_) | refine POpsD_split rfl rfl (fun h => ?_) (fun h => ?_) | refine PW_cond rfl (fun h => ?_) (fun h => ?_))
  · have hlt : i < kids.length := by have := of_decide_eq_true h; rw [g1] at this; omega
    have hg := gs_get hlt
    rw [List.getD_eq_getElem?_getD, List.getElem?_eq_getElem hlt, Option.getD_some]
    generalize kids[i] = kid at hg
    obtain ⟨ta, tb, tc, td⟩ := kid
    (repeat (first | ((first | refine qA ?_ | refine qB ?_ | refine xN ?_ | refine xE ?_ | refine xT ?_); try show PW _ _ _ _ _ _) | refine ro1 tabOk rfl rfl ?_ | refine ro2 tabOk rfl rfl ?_ | refine ro3 tabOk rfl rfl ?_ | refine rd1 tabOk rfl rfl ?_ | refine rd2 tabOk rfl rfl ?_ | refine rd3 tabOk rfl rfl ?_ | ((first | apply oR rfl rfl | (apply dF rfl rfl rfl; intro _) | (apply dP rfl rfl rfl; intro _) | (apply dL rfl rfl rfl; intro _) | apply dC rfl rfl rfl rfl); (focus (first | exact iA rfl (EL rfl) (SZ rfl) rfl rfl (Int.natCast_nonneg _) hg rfl | exact cJ | exact mG | exact bT | exact nD)); try exact kQ) | refine xS ?_ | refine xR ?_ | refine qxa rfl rfl mixed ?_ | refine qxb rfl rfl mixed ?_ | refine qxc rfl rfl mixed ?_ | refine qxd rfl rfl mixed ?_ | refine xB ?_ | refine xt rfl ?_ | refine xf rfl ?_))
    (first | refine Ret_int (vC vT vN) rfl ?_ | refine Ret_bool (vC vT vN) rfl ?_ | refine Ret_g (vC vT vN) rfl ?_ | refine Ret_int (vC (vA (AG rfl) (SZ rfl) rfl rfl (lB rfl)) vN) rfl ?_ | refine Ret_bool (vC (vA (AG rfl) (SZ rfl) rfl rfl (lB rfl)) vN) rfl ?_ | refine Ret_g (vC (vA (AG rfl) (SZ rfl) rfl rfl (lB rfl)) vN) rfl ?_)
    rfl
  · have hlt : ¬ i < kids.length := by have := of_decide_eq_false h; rw [g1] at this; omega
    rw [List.getD_eq_getElem?_getD, List.getElem?_eq_none (by omega), Option.getD_none]
    (repeat (first | ((first | refine qA ?_ | refine qB ?_ | refine xN ?_ | refine xE ?_ | refine xT ?_); try show PW _ _ _ _ _ _) | refine ro1 tabOk rfl rfl ?_ | refine ro2 tabOk rfl rfl ?_ | refine ro3 tabOk rfl rfl ?_ | refine rd1 tabOk rfl rfl ?_ | refine rd2 tabOk rfl rfl ?_ | refine rd3 tabOk rfl rfl ?_ | ((first | apply oR rfl rfl | (apply dF rfl rfl rfl; intro _) | (apply dP rfl rfl rfl; intro _) | (apply dL rfl rfl rfl; intro _) | apply dC rfl rfl rfl rfl); (focus (first | exact cJ | exact mG | exact bT | exact nD)); try exact kQ) | refine xS ?_ | refine xR ?_ | refine qxa rfl rfl mixed ?_ | refine qxb rfl rfl mixed ?_ | refine qxc rfl rfl mixed ?_ | refine qxd rfl rfl mixed ?_ | refine xB ?_ | refine xt rfl ?_ | refine xf rfl ?_))
    (first | refine Ret_int (vC vT vN) rfl ?_ | refine Ret_bool (vC vT vN) rfl ?_ | refine Ret_g (vC vT vN) rfl ?_ | refine Ret_int (vC (vA (AG rfl) (SZ rfl) rfl rfl (lB rfl)) vN) rfl ?_ | refine Ret_bool (vC (vA (AG rfl) (SZ rfl) rfl rfl (lB rfl)) vN) rfl ?_ | refine Ret_g (vC (vA (AG rfl) (SZ rfl) rfl rfl (lB rfl)) vN) rfl ?_)
    rfl
end Go.Proofs.Ytffpepmfdjjjaaa


namespace Go.Proofs.Ytffpepmfdjjjaaa
open Go.Pure
attribute [local irreducible] PW POps POpsD PO PC Cond

theorem size_drop : ∀ (l : List Tr) (n : Nat), SizeOf.sizeOf (l.drop n) ≤ SizeOf.sizeOf l
  | [], n => by simp
  | x :: l, 0 => by simp
  | x :: l, n + 1 => by have := size_drop l n; simp; omega
theorem gs_drop (l : List Tr) (n : Nat) : Tr.gs (l.drop n) = (Tr.gs l).drop n := by rw [gs_eq, gs_eq, List.map_drop]
theorem gs_bulk_drop (l : List Tr) (n : Nat) : gbulks (Tr.gs (l.drop n)) ≤ gbulks (Tr.gs l) := by rw [gs_drop]; exact gbulks_drop _ _
theorem gs_bulk_at {l : List Tr} {i : Nat} (h : i < l.length) : gbulk l[i].g ≤ gbulks (Tr.gs l) := by
  have := tr_mem (List.getElem_mem h)
  rwa [← gs_eq] at this
theorem gs_count (l : List Tr) : l.length ≤ gbulks (Tr.gs l) := by rw [gs_eq]; exact tr_len l
theorem gs_cells (l : List Tr) : ∀ x ∈ Tr.gs l, x.cells.length = 4 := by
  intro x hx; rw [gs_eq] at hx; obtain ⟨t, _, rfl⟩ := List.mem_map.1 hx; exact g_cells _

theorem kid_size' (t : Tr) (i : Nat) : SizeOf.sizeOf (kidP t i).kids < SizeOf.sizeOf t := by
  unfold kidP
  obtain ⟨a, b, c, d⟩ := t
  by_cases h : i < d.length
  · simp only [Tr.kids]
    rw [List.getD_eq_getElem?_getD, List.getElem?_eq_getElem h, Option.getD_some]
    have h1 := List.sizeOf_lt_of_mem (List.getElem_mem h)
    generalize d[i] = x at h1
    obtain ⟨e, f, g, k⟩ := x
    simp only [Tr.mk.sizeOf_spec] at *
    omega
  · simp only [Tr.kids]
    rw [List.getD_eq_getElem?_getD, List.getElem?_eq_none (by omega), Option.getD_none]
    have h1 : 1 ≤ SizeOf.sizeOf d := by cases d <;> simp <;> omega
    simp
    omega

set_option maxRecDepth 100000 in
set_option maxHeartbeats 8000000 in
theorem lenvalues_pc : ∀ (m : Nat) (l : List Tr), SizeOf.sizeOf l ≤ m → gbulks (Tr.gs l) ≤ 40000100 → PC Try.prog 95 [.g (.sl (Tr.gs l))] ⟨[], [], []⟩ (.g (.sl ((l.map lenV).map VVal.g))) ⟨[], [], []⟩
  | 0, l, hm, _ => by cases l <;> simp at hm
  | m + 1, l, hm, hb => by
    have hln : l.length ≤ 40000100 := by have := gs_count l; omega
    have hgl := gs_len l
    refine PC_of_PW Try.func95 rfl rfl (rs := _) rfl (Nat.le_of_ble_eq_true (by kernel_rfl)) ?_
    (repeat (first | ((first | refine qA ?_ | refine qB ?_ | refine xN ?_ | refine xE ?_ | refine xT ?_); try show PW _ _ _ _ _ _) | refine ro1 tabOk rfl rfl ?_ | refine ro2 tabOk rfl rfl ?_ | refine ro3 tabOk rfl rfl ?_ | refine rd1 tabOk rfl rfl ?_ | refine rd2 tabOk rfl rfl ?_ | refine rd3 tabOk rfl rfl ?_ | ((first | apply oR rfl rfl | (apply dF rfl rfl rfl; intro _) | (apply dP rfl rfl rfl; intro _) | (apply dL rfl rfl rfl; intro _) | apply dC rfl rfl rfl rfl); (focus (first | exact cJ | exact mG | exact bT | exact nD)); try exact kQ) | refine xS ?_ | refine xR ?_ | refine qxa rfl rfl mixed ?_ | refine qxb rfl rfl mixed ?_ | refine qxc rfl rfl mixed ?_ | refine qxd rfl rfl mixed ?_ | refine xB ?_ | refine xt rfl ?_ | refine xf rfl ?_))
    refine PW_buf 3 113 (SZ rfl) rfl ?_
    refine PW_loop_cut (S := Nat) (fun i => [(3, .own (((l.take i).map lenV).map VVal.g) 0), (7, .g (.sl (Tr.gs l))), (8, .g (.int .i64 l.length)), (9, .g (.int .i64 i))])
      (fun i => ⟨[], [(113, i)], []⟩) (fun i => i ≤ l.length) (fun i => l.length - i) 0 (Nat.zero_le _) (SlotsOk.le ⟨.inl rfl, .inl rfl, .inl (congrArg (fun k : Nat => PV.g (.int .i64 k)) hgl), .inl rfl, trivial⟩) (HLe.of_eq rfl) (fun _ => rfl) (fun i hi => ?_)
    (repeat (first | ((first | refine qA ?_ | refine qB ?_ | refine xN ?_ | refine xE ?_ | refine xT ?_); try show PW _ _ _ _ _ _) | refine ro1 tabOk rfl rfl ?_ | refine ro2 tabOk rfl rfl ?_ | refine ro3 tabOk rfl rfl ?_ | refine rd1 tabOk rfl rfl ?_ | refine rd2 tabOk rfl rfl ?_ | refine rd3 tabOk rfl rfl ?_ | ((first | apply oR rfl rfl | (apply dF rfl rfl rfl; intro _) | (apply dP rfl rfl rfl; intro _) | (apply dL rfl rfl rfl; intro _) | apply dC rfl rfl rfl rfl); (focus (first | exact cJ | exact mG | exact bT | exact nD)); try exact kQ) | refine xS ?_ | refine xR ?_ | refine qxa rfl rfl mixed ?_ | refine qxb rfl rfl mixed ?_ | refine qxc rfl rfl mixed ?_ | refine qxd rfl rfl mixed ?_ | refine xB ?_ | refine xt rfl ?_ | refine xf rfl ?_))
    (first | refine POps_split rfl rfl (fun h => ?_) (fun h => ?_) | refine POpsD_split rfl rfl (fun h => ?_) (fun h => ?_) | refine PW_cond rfl (fun h => ?_) (fun h => ?_))
    · have hlt : i < l.length := by have := of_decide_eq_true h; omega
      have hg := gs_get hlt
      have hT := map_take (f := fun x => (lenV x).g) hlt
      have hT2 : ((l.take (i + 1)).map lenV).map VVal.g = ((l.take i).map lenV).map VVal.g ++ [(lenV l[i]).g] := by rw [List.map_map, List.map_map]; exact hT
      have hbi := gs_bulk_at hlt
      have hsz := List.sizeOf_lt_of_mem (List.getElem_mem hlt)
      generalize l[i] = x at hg hT2 hbi hsz
      have hbx := tr_bulk' x
      have hct := gs_count x.kids
      have hk0 := kid_pc x 0 (by omega)
      have hk1 := kid_pc x 1 (by omega)
      have hk2 := kid_pc x 2 (by omega)
      have hR := lenvalues_pc m (x.kids.drop 3) (by
        have := size_drop x.kids 3
        obtain ⟨a, b, c, d⟩ := x
        simp only [Tr.kids] at *
        simp at hsz
        omega) (by have := gs_bulk_drop x.kids 3; omega)
      have hv := lenV_kids x
      generalize kidP x 0 = k0 at hk0 hv
      generalize kidP x 1 = k1 at hk1 hv
      generalize kidP x 2 = k2 at hk2 hv
      generalize hvv : lenV x = v at hT2 hv
      obtain ⟨ta, tb, tc, td⟩ := x
      obtain ⟨a0, a1, a2, a3⟩ := k0
      obtain ⟨b0, b1, b2, b3⟩ := k1
      obtain ⟨c0, c1, c2, c3⟩ := k2
      dsimp only [Tr.num, Tr.text, Tr.kids] at hv hR hct
      subst hv
      have hxs : ∀ y ∈ [(VVal.mk c1 (b1 == 1) tb a1 tc ((td.drop 3).map lenV)).g], y.cells.length = 6 := by
        intro y hy; rw [List.mem_singleton.1 hy]; exact VVal.cells _
      clear hsz hbi hm hb hbx h
      have hlo : 3 < td.length → loOf (some (IntKind.i64, 3)) ≤ hiOf (Tr.gs td).length none := fun h => by simp only [loOf, hiOf]; rw [gs_len]; omega
      have hsl : ((Tr.gs td).drop (loOf (some (IntKind.i64, 3))).toNat).take ((hiOf (Tr.gs td).length none).toNat - (loOf (some (IntKind.i64, 3))).toNat) = Tr.gs (td.drop 3) := by
        simp only [loOf, hiOf]
        rw [List.take_of_length_le (by simp), gs_drop]
        rfl
      (repeat (first | ((first | refine qA ?_ | refine qB ?_ | refine xN ?_ | refine xE ?_ | refine xT ?_); try show PW _ _ _ _ _ _) | refine ro1 tabOk rfl rfl ?_ | refine ro2 tabOk rfl rfl ?_ | refine ro3 tabOk rfl rfl ?_ | refine rd1 tabOk rfl rfl ?_ | refine rd2 tabOk rfl rfl ?_ | refine rd3 tabOk rfl rfl ?_ | ((first | apply oR rfl rfl | (apply dF rfl rfl rfl; intro _) | (apply dP rfl rfl rfl; intro _) | (apply dL rfl rfl rfl; intro _) | apply dC rfl rfl rfl rfl); (focus (first | exact iA rfl (EL rfl) (SZ rfl) rfl rfl (Int.natCast_nonneg _) hg rfl | exact cqP hk0 | exact cqP hk1 | exact cqP hk2 | exact cJ | exact mG | exact bT | exact nD)); try exact kQ) | refine xS ?_ | refine xR ?_ | refine qxa rfl rfl mixed ?_ | refine qxb rfl rfl mixed ?_ | refine qxc rfl rfl mixed ?_ | refine qxd rfl rfl mixed ?_ | refine xB ?_ | refine xt rfl ?_ | refine xf rfl ?_))
      (first | refine POps_split rfl rfl (fun h => ?_) (fun h => ?_) | refine POpsD_split rfl rfl (fun h => ?_) (fun h => ?_) | refine PW_cond rfl (fun h => ?_) (fun h => ?_))
      · have h3 : 3 < td.length := by have := of_decide_eq_true h; rw [gs_len] at this; omega
        have hlo := hlo h3
        (repeat (first | ((first | refine qA ?_ | refine qB ?_ | refine xN ?_ | refine xE ?_ | refine xT ?_); try show PW _ _ _ _ _ _) | refine ro1 tabOk rfl rfl ?_ | refine ro2 tabOk rfl rfl ?_ | refine ro3 tabOk rfl rfl ?_ | refine rd1 tabOk rfl rfl ?_ | refine rd2 tabOk rfl rfl ?_ | refine rd3 tabOk rfl rfl ?_ | ((first | apply oR rfl rfl | (apply dF rfl rfl rfl; intro _) | (apply dP rfl rfl rfl; intro _) | (apply dL rfl rfl rfl; intro _) | apply dC rfl rfl rfl rfl); (focus (first | exact cqP hR | exact PO_as (PO_slice_sl rfl (EL rfl) (SZ rfl) rfl rfl rfl (by decide) hlo (Int.le_refl _) (gs_cells td)) (congrArg (fun z => PV.g (.sl z)) hsl) | exact aP (xs := [.agg [.int .i64 c1, .bool (b1 == 1), .int .i64 tb, .int .i64 a1, .str tc, .sl (((td.drop 3).map lenV).map VVal.g)]]) rfl (EL rfl) (SZ rfl) (BY rfl) (ZR rfl) rfl rfl rfl rfl (by simp; omega) (by intro y hy; rw [List.mem_singleton.1 hy]; rfl) (by simp; omega) (by simp [maxLen]; omega) | exact cJ | exact mG | exact bT | exact nD)); try exact kQ) | refine xS ?_ | refine xR ?_ | refine qxa rfl rfl mixed ?_ | refine qxb rfl rfl mixed ?_ | refine qxc rfl rfl mixed ?_ | refine qxd rfl rfl mixed ?_ | refine xB ?_ | refine xt rfl ?_ | refine xf rfl ?_))
        refine ⟨i + 1, hlt, by omega, SlotsOk.le ⟨.inl ?_, .inl rfl, .inl rfl, .inl (congrArg (fun k => PV.g (.int .i64 k)) (wrap64 (by omega))), trivial⟩, Drops.mk [_, _] [] [] rfl⟩
        show PV.own _ 0 = PV.own _ 0
        rw [hT2]
        simp [VVal.g, VVal.gs_eq]
      · have h3 : td.drop 3 = [] := List.drop_eq_nil_of_le (by have := of_decide_eq_false h; rw [gs_len] at this; omega)
        rw [h3] at hT2
        (repeat (first | ((first | refine qA ?_ | refine qB ?_ | refine xN ?_ | refine xE ?_ | refine xT ?_); try show PW _ _ _ _ _ _) | refine ro1 tabOk rfl rfl ?_ | refine ro2 tabOk rfl rfl ?_ | refine ro3 tabOk rfl rfl ?_ | refine rd1 tabOk rfl rfl ?_ | refine rd2 tabOk rfl rfl ?_ | refine rd3 tabOk rfl rfl ?_ | ((first | apply oR rfl rfl | (apply dF rfl rfl rfl; intro _) | (apply dP rfl rfl rfl; intro _) | (apply dL rfl rfl rfl; intro _) | apply dC rfl rfl rfl rfl); (focus (first | exact aP (xs := [.agg [.int .i64 c1, .bool (b1 == 1), .int .i64 tb, .int .i64 a1, .str tc, .sl []]]) rfl (EL rfl) (SZ rfl) (BY rfl) (ZR rfl) rfl rfl rfl rfl (by simp; omega) (by intro y hy; rw [List.mem_singleton.1 hy]; rfl) (by simp; omega) (by simp [maxLen]; omega) | exact cJ | exact mG | exact bT | exact nD)); try exact kQ) | refine xS ?_ | refine xR ?_ | refine qxa rfl rfl mixed ?_ | refine qxb rfl rfl mixed ?_ | refine qxc rfl rfl mixed ?_ | refine qxd rfl rfl mixed ?_ | refine xB ?_ | refine xt rfl ?_ | refine xf rfl ?_))
        refine ⟨i + 1, hlt, by omega, SlotsOk.le ⟨.inl ?_, .inl rfl, .inl rfl, .inl (congrArg (fun k => PV.g (.int .i64 k)) (wrap64 (by omega))), trivial⟩, Drops.mk [_, _] [] [] rfl⟩
        show PV.own _ 0 = PV.own _ 0
        rw [hT2]
        simp [VVal.g, VVal.gs_eq]
    · have hi' : i = l.length := by have := of_decide_eq_false h; omega
      subst hi'
      (repeat (first | ((first | refine qA ?_ | refine qB ?_ | refine xN ?_ | refine xE ?_ | refine xT ?_); try show PW _ _ _ _ _ _) | refine ro1 tabOk rfl rfl ?_ | refine ro2 tabOk rfl rfl ?_ | refine ro3 tabOk rfl rfl ?_ | refine rd1 tabOk rfl rfl ?_ | refine rd2 tabOk rfl rfl ?_ | refine rd3 tabOk rfl rfl ?_ | ((first | apply oR rfl rfl | (apply dF rfl rfl rfl; intro _) | (apply dP rfl rfl rfl; intro _) | (apply dL rfl rfl rfl; intro _) | apply dC rfl rfl rfl rfl); (focus (first | exact cJ | exact mG | exact bT | exact nD)); try exact kQ) | refine xS ?_ | refine xR ?_ | refine qxa rfl rfl mixed ?_ | refine qxb rfl rfl mixed ?_ | refine qxc rfl rfl mixed ?_ | refine qxd rfl rfl mixed ?_ | refine xB ?_ | refine xt rfl ?_ | refine xf rfl ?_))
      (first | refine Ret_int (vC vT vN) rfl ?_ | refine Ret_bool (vC vT vN) rfl ?_ | refine Ret_g (vC vT vN) rfl ?_ | refine Ret_int (vC (vA (AG rfl) (SZ rfl) rfl rfl (lB rfl)) vN) rfl ?_ | refine Ret_bool (vC (vA (AG rfl) (SZ rfl) rfl rfl (lB rfl)) vN) rfl ?_ | refine Ret_g (vC (vA (AG rfl) (SZ rfl) rfl rfl (lB rfl)) vN) rfl ?_)
      simp

set_option maxRecDepth 100000 in
set_option maxHeartbeats 8000000 in
theorem lenvalue_pc (t : Tr) (hb : gbulk t.g ≤ 40000100) : PC Try.prog 96 [.g t.g] ⟨[], [], []⟩ (.g (lenV t).g) ⟨[], [], []⟩ := by
  have h1 := lenvalues_pc _ [t] (Nat.le_refl _) (by simp [Tr.gs, gbulks]; omega)
  simp only [List.map_cons, List.map_nil] at h1
  generalize lenV t = v at h1
  obtain ⟨ta, tb, tc, td⟩ := t
  obtain ⟨k, y, c, e, s, vs⟩ := v
  refine PC_of_PW Try.func96 rfl rfl (rs := _) rfl (Nat.le_of_ble_eq_true (by kernel_rfl)) ?_
  (repeat (first | ((first | refine qA ?_ | refine qB ?_ | refine xN ?_ | refine xE ?_ | refine xT ?_); try show PW _ _ _ _ _ _) | refine ro1 tabOk rfl rfl ?_ | refine ro2 tabOk rfl rfl ?_ | refine ro3 tabOk rfl rfl ?_ | refine rd1 tabOk rfl rfl ?_ | refine rd2 tabOk rfl rfl ?_ | refine rd3 tabOk rfl rfl ?_ | ((first | apply oR rfl rfl | (apply dF rfl rfl rfl; intro _) | (apply dP rfl rfl rfl; intro _) | (apply dL rfl rfl rfl; intro _) | apply dC rfl rfl rfl rfl); (focus (first | exact cqP h1 | exact iA (g := (VVal.mk k y c e s vs).g) rfl (EL rfl) (SZ rfl) rfl rfl (by decide) rfl rfl | exact cJ | exact mG | exact bT | exact nD)); try exact kQ) | refine xS ?_ | refine xR ?_ | refine qxa rfl rfl mixed ?_ | refine qxb rfl rfl mixed ?_ | refine qxc rfl rfl mixed ?_ | refine qxd rfl rfl mixed ?_ | refine xB ?_ | refine xt rfl ?_ | refine xf rfl ?_))
  (first | refine Ret_int (vC vT vN) rfl ?_ | refine Ret_bool (vC vT vN) rfl ?_ | refine Ret_g (vC vT vN) rfl ?_ | refine Ret_int (vC (vA (AG rfl) (SZ rfl) rfl rfl (lB rfl)) vN) rfl ?_ | refine Ret_bool (vC (vA (AG rfl) (SZ rfl) rfl rfl (lB rfl)) vN) rfl ?_ | refine Ret_g (vC (vA (AG rfl) (SZ rfl) rfl rfl (lB rfl)) vN) rfl ?_)
  rfl

set_option maxRecDepth 100000 in
set_option maxHeartbeats 8000000 in
theorem lenexprs_pc : ∀ (m : Nat) (l : List Tr), SizeOf.sizeOf l ≤ m → gbulks (Tr.gs l) ≤ 40000000 → PC Try.prog 94 [.g (.sl (Tr.gs l))] ⟨[], [], []⟩ (.g (.sl ((l.map lenE).map VExpr.g))) ⟨[], [], []⟩
  | 0, l, hm, _ => by cases l <;> simp at hm
  | m + 1, l, hm, hb => by
    have hln : l.length ≤ 40000100 := by have := gs_count l; omega
    have hgl := gs_len l
    refine PC_of_PW Try.func94 rfl rfl (rs := _) rfl (Nat.le_of_ble_eq_true (by kernel_rfl)) ?_
    (repeat (first | ((first | refine qA ?_ | refine qB ?_ | refine xN ?_ | refine xE ?_ | refine xT ?_); try show PW _ _ _ _ _ _) | refine ro1 tabOk rfl rfl ?_ | refine ro2 tabOk rfl rfl ?_ | refine ro3 tabOk rfl rfl ?_ | refine rd1 tabOk rfl rfl ?_ | refine rd2 tabOk rfl rfl ?_ | refine rd3 tabOk rfl rfl ?_ | ((first | apply oR rfl rfl | (apply dF rfl rfl rfl; intro _) | (apply dP rfl rfl rfl; intro _) | (apply dL rfl rfl rfl; intro _) | apply dC rfl rfl rfl rfl); (focus (first | exact cJ | exact mG | exact bT | exact nD)); try exact kQ) | refine xS ?_ | refine xR ?_ | refine qxa rfl rfl mixed ?_ | refine qxb rfl rfl mixed ?_ | refine qxc rfl rfl mixed ?_ | refine qxd rfl rfl mixed ?_ | refine xB ?_ | refine xt rfl ?_ | refine xf rfl ?_))
    refine PW_buf 3 121 (SZ rfl) rfl ?_
    refine PW_loop_cut (S := Nat) (fun i => [(3, .own (((l.take i).map lenE).map VExpr.g) 0), (6, .g (.sl (Tr.gs l))), (7, .g (.int .i64 l.length)), (8, .g (.int .i64 i))])
      (fun i => ⟨[], [(121, i)], []⟩) (fun i => i ≤ l.length) (fun i => l.length - i) 0 (Nat.zero_le _) (SlotsOk.le ⟨.inl rfl, .inl rfl, .inl (congrArg (fun k : Nat => PV.g (.int .i64 k)) hgl), .inl rfl, trivial⟩) (HLe.of_eq rfl) (fun _ => rfl) (fun i hi => ?_)
    (repeat (first | ((first | refine qA ?_ | refine qB ?_ | refine xN ?_ | refine xE ?_ | refine xT ?_); try show PW _ _ _ _ _ _) | refine ro1 tabOk rfl rfl ?_ | refine ro2 tabOk rfl rfl ?_ | refine ro3 tabOk rfl rfl ?_ | refine rd1 tabOk rfl rfl ?_ | refine rd2 tabOk rfl rfl ?_ | refine rd3 tabOk rfl rfl ?_ | ((first | apply oR rfl rfl | (apply dF rfl rfl rfl; intro _) | (apply dP rfl rfl rfl; intro _) | (apply dL rfl rfl rfl; intro _) | apply dC rfl rfl rfl rfl); (focus (first | exact cJ | exact mG | exact bT | exact nD)); try exact kQ) | refine xS ?_ | refine xR ?_ | refine qxa rfl rfl mixed ?_ | refine qxb rfl rfl mixed ?_ | refine qxc rfl rfl mixed ?_ | refine qxd rfl rfl mixed ?_ | refine xB ?_ | refine xt rfl ?_ | refine xf rfl ?_))
    (first | refine POps_split rfl rfl (fun h => ?_) (fun h => ?_) | refine POpsD_split rfl rfl (fun h => ?_) (fun h => ?_) | refine PW_cond rfl (fun h => ?_) (fun h => ?_))
    · have hlt : i < l.length := by have := of_decide_eq_true h; omega
      have hg := gs_get hlt
      have hT := map_take (f := fun x => (lenE x).g) hlt
      have hT2 : ((l.take (i + 1)).map lenE).map VExpr.g = ((l.take i).map lenE).map VExpr.g ++ [(lenE l[i]).g] := by rw [List.map_map, List.map_map]; exact hT
      have hbi := gs_bulk_at hlt
      have hsz := List.sizeOf_lt_of_mem (List.getElem_mem hlt)
      generalize l[i] = x at hg hT2 hbi hsz
      have hbx := tr_bulk' x
      have hct := gs_count x.kids
      have hk0 := kid_pc x 0 (by omega)
      have hk1 := kid_pc x 1 (by omega)
      have hl0 := kid_le x 0
      have hl1 := kid_le x 1
      have hl1' := tr_bulk' (kidP x 1)
      have hV := lenvalue_pc (kidP x 0) (by omega)
      have hks : SizeOf.sizeOf (kidP x 1).kids < SizeOf.sizeOf x := kid_size' x 1
      have hR := lenexprs_pc m (kidP x 1).kids (by omega) (by have := three_kids x; omega)
      have hv := lenE_kids x
      generalize kidP x 0 = k0 at hk0 hv hV
      generalize kidP x 1 = k1 at hk1 hv hR
      generalize hvv : lenE x = v at hT2 hv
      generalize lenV k0 = u at hV hv
      obtain ⟨ta, tb, tc, td⟩ := x
      obtain ⟨a0, a1, a2, a3⟩ := k0
      obtain ⟨b0, b1, b2, b3⟩ := k1
      obtain ⟨uk, uy, uc, ue, us, ul⟩ := u
      dsimp only [Tr.num, Tr.text, Tr.kids] at hv hR
      subst hv
      have hxs : ∀ y ∈ [GV.agg [.int .i64 tb, .int .i64 uk, .bool uy, .int .i64 uc, .int .i64 ue, .str us, .sl (VVal.gs ul), .str tc, .sl ((b3.map lenE).map VExpr.g)]], y.cells.length = 9 := by
        intro y hy; rw [List.mem_singleton.1 hy]; rfl
      clear hsz hbi hm hb hbx h hl0 hl1 hl1' hks
      (repeat (first | ((first | refine qA ?_ | refine qB ?_ | refine xN ?_ | refine xE ?_ | refine xT ?_); try show PW _ _ _ _ _ _) | refine ro1 tabOk rfl rfl ?_ | refine ro2 tabOk rfl rfl ?_ | refine ro3 tabOk rfl rfl ?_ | refine rd1 tabOk rfl rfl ?_ | refine rd2 tabOk rfl rfl ?_ | refine rd3 tabOk rfl rfl ?_ | ((first | apply oR rfl rfl | (apply dF rfl rfl rfl; intro _) | (apply dP rfl rfl rfl; intro _) | (apply dL rfl rfl rfl; intro _) | apply dC rfl rfl rfl rfl); (focus (first | exact iA rfl (EL rfl) (SZ rfl) rfl rfl (Int.natCast_nonneg _) hg rfl | exact cqP hk0 | exact cqP hk1 | exact cqP hV | exact cqP hR | exact aP (xs := [.agg [.int .i64 tb, .int .i64 uk, .bool uy, .int .i64 uc, .int .i64 ue, .str us, .sl (VVal.gs ul), .str tc, .sl ((b3.map lenE).map VExpr.g)]]) rfl (EL rfl) (SZ rfl) (BY rfl) (ZR rfl) rfl rfl rfl rfl (by simp; omega) hxs (by simp; omega) (by simp [maxLen]; omega) | exact cJ | exact mG | exact bT | exact nD)); try exact kQ) | refine xS ?_ | refine xR ?_ | refine qxa rfl rfl mixed ?_ | refine qxb rfl rfl mixed ?_ | refine qxc rfl rfl mixed ?_ | refine qxd rfl rfl mixed ?_ | refine xB ?_ | refine xt rfl ?_ | refine xf rfl ?_))
      refine ⟨i + 1, hlt, by omega, SlotsOk.le ⟨.inl ?_, .inl rfl, .inl rfl, .inl (congrArg (fun k => PV.g (.int .i64 k)) (wrap64 (by omega))), trivial⟩, Drops.mk [_] [] [] rfl⟩
      show PV.own _ 0 = PV.own _ 0
      rw [hT2]
      simp [VExpr.g, VVal.g, GV.cells, VExpr.gs_eq]
    · have hi' : i = l.length := by have := of_decide_eq_false h; omega
      subst hi'
      (repeat (first | ((first | refine qA ?_ | refine qB ?_ | refine xN ?_ | refine xE ?_ | refine xT ?_); try show PW _ _ _ _ _ _) | refine ro1 tabOk rfl rfl ?_ | refine ro2 tabOk rfl rfl ?_ | refine ro3 tabOk rfl rfl ?_ | refine rd1 tabOk rfl rfl ?_ | refine rd2 tabOk rfl rfl ?_ | refine rd3 tabOk rfl rfl ?_ | ((first | apply oR rfl rfl | (apply dF rfl rfl rfl; intro _) | (apply dP rfl rfl rfl; intro _) | (apply dL rfl rfl rfl; intro _) | apply dC rfl rfl rfl rfl); (focus (first | exact cJ | exact mG | exact bT | exact nD)); try exact kQ) | refine xS ?_ | refine xR ?_ | refine qxa rfl rfl mixed ?_ | refine qxb rfl rfl mixed ?_ | refine qxc rfl rfl mixed ?_ | refine qxd rfl rfl mixed ?_ | refine xB ?_ | refine xt rfl ?_ | refine xf rfl ?_))
      (first | refine Ret_int (vC vT vN) rfl ?_ | refine Ret_bool (vC vT vN) rfl ?_ | refine Ret_g (vC vT vN) rfl ?_ | refine Ret_int (vC (vA (AG rfl) (SZ rfl) rfl rfl (lB rfl)) vN) rfl ?_ | refine Ret_bool (vC (vA (AG rfl) (SZ rfl) rfl rfl (lB rfl)) vN) rfl ?_ | refine Ret_g (vC (vA (AG rfl) (SZ rfl) rfl rfl (lB rfl)) vN) rfl ?_)
      simp
end Go.Proofs.Ytffpepmfdjjjaaa


namespace Go.Proofs.Ytffpepmfdjjjaaa
open Go.Pure
attribute [local irreducible] PW POps POpsD PO PC Cond

theorem kid_kids (t : Tr) (i : Nat) : gbulks (Tr.gs (kidP t i).kids) ≤ gbulks (Tr.gs t.kids) := by
  unfold kidP
  by_cases h : i < t.kids.length
  · rw [List.getD_eq_getElem?_getD, List.getElem?_eq_getElem h, Option.getD_some]
    have h1 := gs_bulk_at h
    have h2 := tr_bulk' t.kids[i]
    omega
  · rw [List.getD_eq_getElem?_getD, List.getElem?_eq_none (by omega), Option.getD_none]
    simp [Tr.kids, Tr.gs, gbulks]

set_option maxRecDepth 100000 in
set_option maxHeartbeats 8000000 in
theorem lentests_pc : ∀ (m : Nat) (l : List Tr), SizeOf.sizeOf l ≤ m → gbulks (Tr.gs l) ≤ 40000000 → PC Try.prog 93 [.g (.sl (Tr.gs l))] ⟨[], [], []⟩ (.g (.sl ((l.map lenT).map VTest.g))) ⟨[], [], []⟩
  | 0, l, hm, _ => by cases l <;> simp at hm
  | m + 1, l, hm, hb => by
    have hln : l.length ≤ 40000100 := by have := gs_count l; omega
    have hgl := gs_len l
    refine PC_of_PW Try.func93 rfl rfl (rs := _) rfl (Nat.le_of_ble_eq_true (by kernel_rfl)) ?_
    (repeat (first | ((first | refine qA ?_ | refine qB ?_ | refine xN ?_ | refine xE ?_ | refine xT ?_); try show PW _ _ _ _ _ _) | refine ro1 tabOk rfl rfl ?_ | refine ro2 tabOk rfl rfl ?_ | refine ro3 tabOk rfl rfl ?_ | refine rd1 tabOk rfl rfl ?_ | refine rd2 tabOk rfl rfl ?_ | refine rd3 tabOk rfl rfl ?_ | ((first | apply oR rfl rfl | (apply dF rfl rfl rfl; intro _) | (apply dP rfl rfl rfl; intro _) | (apply dL rfl rfl rfl; intro _) | apply dC rfl rfl rfl rfl); (focus (first | exact cJ | exact mG | exact bT | exact nD)); try exact kQ) | refine xS ?_ | refine xR ?_ | refine qxa rfl rfl mixed ?_ | refine qxb rfl rfl mixed ?_ | refine qxc rfl rfl mixed ?_ | refine qxd rfl rfl mixed ?_ | refine xB ?_ | refine xt rfl ?_ | refine xf rfl ?_))
    refine PW_buf 3 117 (SZ rfl) rfl ?_
    refine PW_loop_cut (S := Nat) (fun i => [(3, .own (((l.take i).map lenT).map VTest.g) 0), (6, .g (.sl (Tr.gs l))), (7, .g (.int .i64 l.length)), (8, .g (.int .i64 i))])
      (fun i => ⟨[], [(117, i)], []⟩) (fun i => i ≤ l.length) (fun i => l.length - i) 0 (Nat.zero_le _) (SlotsOk.le ⟨.inl rfl, .inl rfl, .inl (congrArg (fun k : Nat => PV.g (.int .i64 k)) hgl), .inl rfl, trivial⟩) (HLe.of_eq rfl) (fun _ => rfl) (fun i hi => ?_)
    (repeat (first | ((first | refine qA ?_ | refine qB ?_ | refine xN ?_ | refine xE ?_ | refine xT ?_); try show PW _ _ _ _ _ _) | refine ro1 tabOk rfl rfl ?_ | refine ro2 tabOk rfl rfl ?_ | refine ro3 tabOk rfl rfl ?_ | refine rd1 tabOk rfl rfl ?_ | refine rd2 tabOk rfl rfl ?_ | refine rd3 tabOk rfl rfl ?_ | ((first | apply oR rfl rfl | (apply dF rfl rfl rfl; intro _) | (apply dP rfl rfl rfl; intro _) | (apply dL rfl rfl rfl; intro _) | apply dC rfl rfl rfl rfl); (focus (first | exact cJ | exact mG | exact bT | exact nD)); try exact kQ) | refine xS ?_ | refine xR ?_ | refine qxa rfl rfl mixed ?_ | refine qxb rfl rfl mixed ?_ | refine qxc rfl rfl mixed ?_ | refine qxd rfl rfl mixed ?_ | refine xB ?_ | refine xt rfl ?_ | refine xf rfl ?_))
    (first | refine POps_split rfl rfl (fun h => ?_) (fun h => ?_) | refine POpsD_split rfl rfl (fun h => ?_) (fun h => ?_) | refine PW_cond rfl (fun h => ?_) (fun h => ?_))
    · have hlt : i < l.length := by have := of_decide_eq_true h; omega
      have hg := gs_get hlt
      have hT := map_take (f := fun x => (lenT x).g) hlt
      have hT2 : ((l.take (i + 1)).map lenT).map VTest.g = ((l.take i).map lenT).map VTest.g ++ [(lenT l[i]).g] := by rw [List.map_map, List.map_map]; exact hT
      have hbi := gs_bulk_at hlt
      have hsz := List.sizeOf_lt_of_mem (List.getElem_mem hlt)
      generalize l[i] = x at hg hT2 hbi hsz
      have hbx := tr_bulk' x
      have hct := gs_count x.kids
      have hk0 := kid_pc x 0 (by omega)
      have hk1 := kid_pc x 1 (by omega)
      have hk2 := kid_pc x 2 (by omega)
      have hk3 := kid_pc x 3 (by omega)
      have hk4 := kid_pc x 4 (by omega)
      have hl0 := kid_le x 0
      have hl1 := kid_le x 1
      have hl4 := tr_bulk' (kidP x 4)
      have hl4' := kid_le x 4
      have hV0 := lenvalue_pc (kidP x 0) (by omega)
      have hV1 := lenvalue_pc (kidP x 1) (by omega)
      have hks : SizeOf.sizeOf (kidP x 4).kids < SizeOf.sizeOf x := kid_size' x 4
      have hR := lentests_pc m (kidP x 4).kids (by omega) (by have := kid_kids x 4; omega)
      have hv := lenT_kids x
      generalize kidP x 0 = k0 at hk0 hv hV0
      generalize kidP x 1 = k1 at hk1 hv hV1
      generalize kidP x 2 = k2 at hk2 hv
      generalize kidP x 3 = k3 at hk3 hv
      generalize kidP x 4 = k4 at hk4 hv hR
      generalize hvv : lenT x = v at hT2 hv
      generalize lenV k0 = u at hV0 hv
      generalize lenV k1 = w at hV1 hv
      obtain ⟨ta, tb, tc, td⟩ := x
      obtain ⟨a0, a1, a2, a3⟩ := k0
      obtain ⟨b0, b1, b2, b3⟩ := k1
      obtain ⟨c0, c1, c2, c3⟩ := k2
      obtain ⟨d0, d1, d2, d3⟩ := k3
      obtain ⟨e0, e1, e2, e3⟩ := k4
      obtain ⟨uk, uy, uc, ue, us, ul⟩ := u
      obtain ⟨wk, wy, wc, we, ws, wl⟩ := w
      dsimp only [Tr.num, Tr.text, Tr.kids] at hv hR
      subst hv
      clear hsz hbi hm hb hbx h hl0 hl1 hl4 hl4' hks
      (repeat (first | ((first | refine qA ?_ | refine qB ?_ | refine xN ?_ | refine xE ?_ | refine xT ?_); try show PW _ _ _ _ _ _) | refine ro1 tabOk rfl rfl ?_ | refine ro2 tabOk rfl rfl ?_ | refine ro3 tabOk rfl rfl ?_ | refine rd1 tabOk rfl rfl ?_ | refine rd2 tabOk rfl rfl ?_ | refine rd3 tabOk rfl rfl ?_ | ((first | apply oR rfl rfl | (apply dF rfl rfl rfl; intro _) | (apply dP rfl rfl rfl; intro _) | (apply dL rfl rfl rfl; intro _) | apply dC rfl rfl rfl rfl); (focus (first | exact iA rfl (EL rfl) (SZ rfl) rfl rfl (Int.natCast_nonneg _) hg rfl | exact cqP hk0 | exact cqP hk1 | exact cqP hk2 | exact cqP hk3 | exact cqP hk4 | exact cqP hV0 | exact cqP hV1 | exact cqP hR | exact aP (xs := [.agg [.int .i64 tb, .int .i64 uk, .bool uy, .int .i64 uc, .int .i64 ue, .str us, .sl (VVal.gs ul), .int .i64 wk, .bool wy, .int .i64 wc, .int .i64 we, .str ws, .sl (VVal.gs wl), .bool (c1 == 1), .bool (d1 == 1), .sl ((e3.map lenT).map VTest.g)]]) rfl (EL rfl) (SZ rfl) (BY rfl) (ZR rfl) rfl rfl rfl rfl (by simp; omega) (by intro y hy; rw [List.mem_singleton.1 hy]; rfl) (by simp; omega) (by simp [maxLen]; omega) | exact cJ | exact mG | exact bT | exact nD)); try exact kQ) | refine xS ?_ | refine xR ?_ | refine qxa rfl rfl mixed ?_ | refine qxb rfl rfl mixed ?_ | refine qxc rfl rfl mixed ?_ | refine qxd rfl rfl mixed ?_ | refine xB ?_ | refine xt rfl ?_ | refine xf rfl ?_))
      refine ⟨i + 1, hlt, by omega, SlotsOk.le ⟨.inl ?_, .inl rfl, .inl rfl, .inl (congrArg (fun k => PV.g (.int .i64 k)) (wrap64 (by omega))), trivial⟩, Drops.mk [_] [] [] rfl⟩
      show PV.own _ 0 = PV.own _ 0
      rw [hT2]
      simp [VTest.g, VVal.g, GV.cells, VTest.gs_eq]
    · have hi' : i = l.length := by have := of_decide_eq_false h; omega
      subst hi'
      (repeat (first | ((first | refine qA ?_ | refine qB ?_ | refine xN ?_ | refine xE ?_ | refine xT ?_); try show PW _ _ _ _ _ _) | refine ro1 tabOk rfl rfl ?_ | refine ro2 tabOk rfl rfl ?_ | refine ro3 tabOk rfl rfl ?_ | refine rd1 tabOk rfl rfl ?_ | refine rd2 tabOk rfl rfl ?_ | refine rd3 tabOk rfl rfl ?_ | ((first | apply oR rfl rfl | (apply dF rfl rfl rfl; intro _) | (apply dP rfl rfl rfl; intro _) | (apply dL rfl rfl rfl; intro _) | apply dC rfl rfl rfl rfl); (focus (first | exact cJ | exact mG | exact bT | exact nD)); try exact kQ) | refine xS ?_ | refine xR ?_ | refine qxa rfl rfl mixed ?_ | refine qxb rfl rfl mixed ?_ | refine qxc rfl rfl mixed ?_ | refine qxd rfl rfl mixed ?_ | refine xB ?_ | refine xt rfl ?_ | refine xf rfl ?_))
      (first | refine Ret_int (vC vT vN) rfl ?_ | refine Ret_bool (vC vT vN) rfl ?_ | refine Ret_g (vC vT vN) rfl ?_ | refine Ret_int (vC (vA (AG rfl) (SZ rfl) rfl rfl (lB rfl)) vN) rfl ?_ | refine Ret_bool (vC (vA (AG rfl) (SZ rfl) rfl rfl (lB rfl)) vN) rfl ?_ | refine Ret_g (vC (vA (AG rfl) (SZ rfl) rfl rfl (lB rfl)) vN) rfl ?_)
      simp

set_option maxRecDepth 100000 in
set_option maxHeartbeats 8000000 in
theorem lencols_pc (l : List Tr) (hb : gbulks (Tr.gs l) ≤ 40000000) : PC Try.prog 92 [.g (.sl (Tr.gs l))] ⟨[], [], []⟩ (.g (.sl ((l.map lenC).map VCol.g))) ⟨[], [], []⟩ := by
  have hln : l.length ≤ 40000100 := by have := gs_count l; omega
  have hgl := gs_len l
  refine PC_of_PW Try.func92 rfl rfl (rs := _) rfl (Nat.le_of_ble_eq_true (by kernel_rfl)) ?_
  (repeat (first | ((first | refine qA ?_ | refine qB ?_ | refine xN ?_ | refine xE ?_ | refine xT ?_); try show PW _ _ _ _ _ _) | refine ro1 tabOk rfl rfl ?_ | refine ro2 tabOk rfl rfl ?_ | refine ro3 tabOk rfl rfl ?_ | refine rd1 tabOk rfl rfl ?_ | refine rd2 tabOk rfl rfl ?_ | refine rd3 tabOk rfl rfl ?_ | ((first | apply oR rfl rfl | (apply dF rfl rfl rfl; intro _) | (apply dP rfl rfl rfl; intro _) | (apply dL rfl rfl rfl; intro _) | apply dC rfl rfl rfl rfl); (focus (first | exact cJ | exact mG | exact bT | exact nD)); try exact kQ) | refine xS ?_ | refine xR ?_ | refine qxa rfl rfl mixed ?_ | refine qxb rfl rfl mixed ?_ | refine qxc rfl rfl mixed ?_ | refine qxd rfl rfl mixed ?_ | refine xB ?_ | refine xt rfl ?_ | refine xf rfl ?_))
  refine PW_buf 3 66 (SZ rfl) rfl ?_
  refine PW_loop_cut (S := Nat) (fun i => [(3, .own (((l.take i).map lenC).map VCol.g) 0), (6, .g (.sl (Tr.gs l))), (7, .g (.int .i64 l.length)), (8, .g (.int .i64 i))])
    (fun i => ⟨[], [(66, i)], []⟩) (fun i => i ≤ l.length) (fun i => l.length - i) 0 (Nat.zero_le _) (SlotsOk.le ⟨.inl rfl, .inl rfl, .inl (congrArg (fun k : Nat => PV.g (.int .i64 k)) hgl), .inl rfl, trivial⟩) (HLe.of_eq rfl) (fun _ => rfl) (fun i hi => ?_)
  (repeat (first | ((first | refine qA ?_ | refine qB ?_ | refine xN ?_ | refine xE ?_ | refine xT ?_); try show PW _ _ _ _ _ _) | refine ro1 tabOk rfl rfl ?_ | refine ro2 tabOk rfl rfl ?_ | refine ro3 tabOk rfl rfl ?_ | refine rd1 tabOk rfl rfl ?_ | refine rd2 tabOk rfl rfl ?_ | refine rd3 tabOk rfl rfl ?_ | ((first | apply oR rfl rfl | (apply dF rfl rfl rfl; intro _) | (apply dP rfl rfl rfl; intro _) | (apply dL rfl rfl rfl; intro _) | apply dC rfl rfl rfl rfl); (focus (first | exact cJ | exact mG | exact bT | exact nD)); try exact kQ) | refine xS ?_ | refine xR ?_ | refine qxa rfl rfl mixed ?_ | refine qxb rfl rfl mixed ?_ | refine qxc rfl rfl mixed ?_ | refine qxd rfl rfl mixed ?_ | refine xB ?_ | refine xt rfl ?_ | refine xf rfl ?_))
  (first | refine POps_split rfl rfl (fun h => ?_) (fun h => ?_) | refine POpsD_split rfl rfl (fun h => ?_) (fun h => ?_) | refine PW_cond rfl (fun h => ?_) (fun h => ?_))
  · have hlt : i < l.length := by have := of_decide_eq_true h; omega
    have hg := gs_get hlt
    have hT := map_take (f := fun x => (lenC x).g) hlt
    have hT2 : ((l.take (i + 1)).map lenC).map VCol.g = ((l.take i).map lenC).map VCol.g ++ [(lenC l[i]).g] := by rw [List.map_map, List.map_map]; exact hT
    clear hT
    have hbi := gs_bulk_at hlt
    generalize l[i] = x at hg hT2 hbi
    have hbx := tr_bulk' x
    have hct := gs_count x.kids
    have hk0 := kid_pc x 0 (by omega)
    have hR := lenvalues_pc _ (kidP x 0).kids (Nat.le_refl _) (by have := three_kids x; omega)
    have hv : lenC x = .mk x.text x.num ((kidP x 0).kids.map lenV) := rfl
    generalize kidP x 0 = k0 at hk0 hv hR
    generalize hvv : lenC x = v at hT2 hv
    obtain ⟨ta, tb, tc, td⟩ := x
    obtain ⟨a0, a1, a2, a3⟩ := k0
    dsimp only [Tr.num, Tr.text, Tr.kids] at hv hR
    subst hv
    clear hbi hb hbx h
    (repeat (first | ((first | refine qA ?_ | refine qB ?_ | refine xN ?_ | refine xE ?_ | refine xT ?_); try show PW _ _ _ _ _ _) | refine ro1 tabOk rfl rfl ?_ | refine ro2 tabOk rfl rfl ?_ | refine ro3 tabOk rfl rfl ?_ | refine rd1 tabOk rfl rfl ?_ | refine rd2 tabOk rfl rfl ?_ | refine rd3 tabOk rfl rfl ?_ | ((first | apply oR rfl rfl | (apply dF rfl rfl rfl; intro _) | (apply dP rfl rfl rfl; intro _) | (apply dL rfl rfl rfl; intro _) | apply dC rfl rfl rfl rfl); (focus (first | exact iA rfl (EL rfl) (SZ rfl) rfl rfl (Int.natCast_nonneg _) hg rfl | exact cqP hk0 | exact cqP hR | exact aP (xs := [.agg [.str tc, .int .i64 tb, .sl ((a3.map lenV).map VVal.g)]]) rfl (EL rfl) (SZ rfl) (BY rfl) (ZR rfl) rfl rfl rfl rfl (by simp; omega) (by intro y hy; rw [List.mem_singleton.1 hy]; rfl) (by simp; omega) (by simp [maxLen]; omega) | exact cJ | exact mG | exact bT | exact nD)); try exact kQ) | refine xS ?_ | refine xR ?_ | refine qxa rfl rfl mixed ?_ | refine qxb rfl rfl mixed ?_ | refine qxc rfl rfl mixed ?_ | refine qxd rfl rfl mixed ?_ | refine xB ?_ | refine xt rfl ?_ | refine xf rfl ?_))
    refine ⟨i + 1, hlt, by omega, SlotsOk.le ⟨.inl ?_, .inl rfl, .inl rfl, .inl (congrArg (fun k => PV.g (.int .i64 k)) (wrap64 (by omega))), trivial⟩, Drops.mk [_] [] [] rfl⟩
    show PV.own _ 0 = PV.own _ 0
    rw [hT2]
    simp [VCol.g, VVal.gs_eq]
  · have hi' : i = l.length := by have := of_decide_eq_false h; omega
    subst hi'
    (repeat (first | ((first | refine qA ?_ | refine qB ?_ | refine xN ?_ | refine xE ?_ | refine xT ?_); try show PW _ _ _ _ _ _) | refine ro1 tabOk rfl rfl ?_ | refine ro2 tabOk rfl rfl ?_ | refine ro3 tabOk rfl rfl ?_ | refine rd1 tabOk rfl rfl ?_ | refine rd2 tabOk rfl rfl ?_ | refine rd3 tabOk rfl rfl ?_ | ((first | apply oR rfl rfl | (apply dF rfl rfl rfl; intro _) | (apply dP rfl rfl rfl; intro _) | (apply dL rfl rfl rfl; intro _) | apply dC rfl rfl rfl rfl); (focus (first | exact cJ | exact mG | exact bT | exact nD)); try exact kQ) | refine xS ?_ | refine xR ?_ | refine qxa rfl rfl mixed ?_ | refine qxb rfl rfl mixed ?_ | refine qxc rfl rfl mixed ?_ | refine qxd rfl rfl mixed ?_ | refine xB ?_ | refine xt rfl ?_ | refine xf rfl ?_))
    (first | refine Ret_int (vC vT vN) rfl ?_ | refine Ret_bool (vC vT vN) rfl ?_ | refine Ret_g (vC vT vN) rfl ?_ | refine Ret_int (vC (vA (AG rfl) (SZ rfl) rfl rfl (lB rfl)) vN) rfl ?_ | refine Ret_bool (vC (vA (AG rfl) (SZ rfl) rfl rfl (lB rfl)) vN) rfl ?_ | refine Ret_g (vC (vA (AG rfl) (SZ rfl) rfl rfl (lB rfl)) vN) rfl ?_)
    simp
end Go.Proofs.Ytffpepmfdjjjaaa


namespace Go.Proofs.Ytffpepmfdjjjaaa
open Go.Pure
attribute [local irreducible] PW POps POpsD PO PC Cond

set_option maxRecDepth 100000 in
set_option maxHeartbeats 8000000 in
theorem command_pc (t : Tr) (hb : gbulk t.g ≤ 170000) (hok : t.ok) (hok' : (packCmd (lenCmd t)).ok) : PC Try.prog 86 [.g t.g] ⟨[], [], []⟩ (.tuple [.g (lenCmd t).g, .g (.bool (sameT (packCmd (lenCmd t)) t))]) ⟨[], [], []⟩ := by
  have hbt := tr_bulk' t
  have hct := gs_count t.kids
  have hkk := kid_kids t 3
  have hku := tr_bulk' (kidP t 3)
  have hcu := gs_count (kidP t 3).kids
  have h3k := three_kids (kidP t 3)
  have hk0 := kid_pc t 0 (by omega)
  have hk1 := kid_pc t 1 (by omega)
  have hk2 := kid_pc t 2 (by omega)
  have hk3 := kid_pc t 3 (by omega)
  have hu0 := kid_pc (kidP t 3) 0 (by omega)
  have hu1 := kid_pc (kidP t 3) 1 (by omega)
  have hu2 := kid_pc (kidP t 3) 2 (by omega)
  have hC0 := lencols_pc (kidP (kidP t 3) 0).kids (by omega)
  have hC1 := lencols_pc (kidP (kidP t 3) 1).kids (by omega)
  have hLen := lenCmd_bulk t
  have hP := refpack_pc (lenCmd t) (by omega)
  have hS := samet_any _ (packCmd (lenCmd t)) t (Nat.le_refl _) hok' hok
  generalize packCmd (lenCmd t) = pk at hP hS
  generalize hsm : sameT pk t = sm at hS
  have hv : lenCmd t = .mk (kidP t 0).num (kidP t 1).num t.num (.mk (kidP t 3).text (kidP t 3).num ((kidP (kidP t 3) 0).kids.map lenC) ((kidP (kidP t 3) 1).kids.map lenC) ((kidP (kidP t 3) 2).kids.map lenR)) t.text (kidP t 2).num := rfl
  generalize lenCmd t = v at hv hP
  have hbr : gbulks (Tr.gs (kidP (kidP t 3) 2).kids) ≤ 40000000 := by omega
  generalize kidP (kidP t 3) 0 = u0 at hu0 hC0 hv
  generalize kidP (kidP t 3) 1 = u1 at hu1 hC1 hv
  generalize kidP (kidP t 3) 2 = u2 at hu2 hv hbr
  generalize kidP t 0 = k0 at hk0 hv
  generalize kidP t 1 = k1 at hk1 hv
  generalize kidP t 2 = k2 at hk2 hv
  generalize kidP t 3 = k3 at hk3 hv hu0 hu1 hu2
  obtain ⟨ta, tb, tc, td⟩ := t
  obtain ⟨a0, a1, a2, a3⟩ := k0
  obtain ⟨b0, b1, b2, b3⟩ := k1
  obtain ⟨c0, c1, c2, c3⟩ := k2
  obtain ⟨d0, d1, d2, d3⟩ := k3
  obtain ⟨e0, e1, e2, e3⟩ := u0
  obtain ⟨f0, f1, f2, f3⟩ := u1
  obtain ⟨g0, g1, g2, l⟩ := u2
  dsimp only [Tr.num, Tr.text, Tr.kids] at hv hC0 hC1 hbr
  obtain ⟨p0, p1, p2, p3⟩ := pk
  have hln : l.length ≤ 40000100 := by have := gs_count l; omega
  have hgl := gs_len l
  clear hbt hct hkk hku hcu h3k hLen hok hok' hb
  refine PC_of_PW Try.func86 rfl rfl (rs := _) rfl (Nat.le_of_ble_eq_true (by kernel_rfl)) ?_
  (repeat (first | ((first | refine qA ?_ | refine qB ?_ | refine xN ?_ | refine xE ?_ | refine xT ?_); try show PW _ _ _ _ _ _) | refine ro1 tabOk rfl rfl ?_ | refine ro2 tabOk rfl rfl ?_ | refine ro3 tabOk rfl rfl ?_ | refine rd1 tabOk rfl rfl ?_ | refine rd2 tabOk rfl rfl ?_ | refine rd3 tabOk rfl rfl ?_ | ((first | apply oR rfl rfl | (apply dF rfl rfl rfl; intro _) | (apply dP rfl rfl rfl; intro _) | (apply dL rfl rfl rfl; intro _) | apply dC rfl rfl rfl rfl); (focus (first | exact cqP hk0 | exact cqP hk1 | exact cqP hk2 | exact cqP hk3 | exact cqP hu0 | exact cqP hu1 | exact cqP hu2 | exact cqP hC0 | exact cqP hC1 | exact cJ | exact mG | exact bT | exact nD)); try exact kQ) | refine xS ?_ | refine xR ?_ | refine qxa rfl rfl mixed ?_ | refine qxb rfl rfl mixed ?_ | refine qxc rfl rfl mixed ?_ | refine qxd rfl rfl mixed ?_ | refine xB ?_ | refine xt rfl ?_ | refine xf rfl ?_))
  refine PW_bufbox 3 7 72 (SZ rfl) rfl rfl ?_
  refine PW_loop_cut (S := Nat) (fun i => [(1, .ptr 0 0), (2, .ptr 1 0), (5, .ptr 3 0), (40, .g (.sl (Tr.gs l))), (41, .g (.int .i64 l.length)), (42, .g (.int .i64 i))])
    (fun i => ⟨[(Tr.mk ta tb tc td).g.cells.map PV.g, [.g (.int .i64 0), .g (.int .i64 0), .g (.int .i64 0), .g (.str ⟨#[]⟩), .g (.int .i64 0), .nils, .nils, .nils, .g (.str ⟨#[]⟩), .g (.int .i64 0)], (Tr.mk d0 d1 d2 d3).g.cells.map PV.g, [.g (.int .i64 a1), .g (.int .i64 b1), .g (.int .i64 tb), .g (.str d2), .g (.int .i64 d1), .g (.sl ((e3.map lenC).map VCol.g)), .g (.sl ((f3.map lenC).map VCol.g)), .own (((l.take i).map lenR).map VRule.g) 0, .g (.str tc), .g (.int .i64 c1)]], [(72, i)], []⟩) (fun i => i ≤ l.length) (fun i => l.length - i) 0 (Nat.zero_le _) (SlotsOk.le ⟨.inl rfl, .inl rfl, .inl rfl, .inl rfl, .inl (congrArg (fun k : Nat => PV.g (.int .i64 k)) hgl), .inl rfl, trivial⟩) (HLe.of_eq rfl) (fun _ => rfl) (fun i hi => ?_)
  (repeat (first | ((first | refine qA ?_ | refine qB ?_ | refine xN ?_ | refine xE ?_ | refine xT ?_); try show PW _ _ _ _ _ _) | refine ro1 tabOk rfl rfl ?_ | refine ro2 tabOk rfl rfl ?_ | refine ro3 tabOk rfl rfl ?_ | refine rd1 tabOk rfl rfl ?_ | refine rd2 tabOk rfl rfl ?_ | refine rd3 tabOk rfl rfl ?_ | ((first | apply oR rfl rfl | (apply dF rfl rfl rfl; intro _) | (apply dP rfl rfl rfl; intro _) | (apply dL rfl rfl rfl; intro _) | apply dC rfl rfl rfl rfl); (focus (first | exact cJ | exact mG | exact bT | exact nD)); try exact kQ) | refine xS ?_ | refine xR ?_ | refine qxa rfl rfl mixed ?_ | refine qxb rfl rfl mixed ?_ | refine qxc rfl rfl mixed ?_ | refine qxd rfl rfl mixed ?_ | refine xB ?_ | refine xt rfl ?_ | refine xf rfl ?_))
  (first | refine POps_split rfl rfl (fun h => ?_) (fun h => ?_) | refine POpsD_split rfl rfl (fun h => ?_) (fun h => ?_) | refine PW_cond rfl (fun h => ?_) (fun h => ?_))
  · have hlt : i < l.length := by have := of_decide_eq_true h; omega
    have hg := gs_get hlt
    have hT := map_take (f := fun x => (lenR x).g) hlt
    have hT2 : ((l.take (i + 1)).map lenR).map VRule.g = ((l.take i).map lenR).map VRule.g ++ [(lenR l[i]).g] := by rw [List.map_map, List.map_map]; exact hT
    clear hT
    have hbi := gs_bulk_at hlt
    generalize l[i] = x at hg hT2 hbi
    have hbx := tr_bulk' x
    have hcx := gs_count x.kids
    have hx0 := kid_pc x 0 (by omega)
    have hx1 := kid_pc x 1 (by omega)
    have h3x := three_kids x
    have hR0 := lentests_pc _ (kidP x 0).kids (Nat.le_refl _) (by omega)
    have hR1 := lenexprs_pc _ (kidP x 1).kids (Nat.le_refl _) (by omega)
    have hvx : lenR x = .mk ((kidP x 0).kids.map lenT) ((kidP x 1).kids.map lenE) := rfl
    generalize kidP x 0 = k0 at hx0 hvx hR0
    generalize kidP x 1 = k1 at hx1 hvx hR1
    generalize hvv : lenR x = v at hT2 hvx
    obtain ⟨xa, xb, xc, xd⟩ := x
    obtain ⟨y0, y1, y2, y3⟩ := k0
    obtain ⟨z0, z1, z2, z3⟩ := k1
    dsimp only [Tr.num, Tr.text, Tr.kids] at hvx hR0 hR1
    subst hvx
    have hT3 : ((l.take (i + 1)).map lenR).map VRule.g = ((l.take i).map lenR).map VRule.g ++ [.agg [.sl ((y3.map lenT).map VTest.g), .sl ((z3.map lenE).map VExpr.g)]] := by
      rw [hT2, VRule.g, VTest.gs_eq, VExpr.gs_eq]
    clear hT2
    clear hbi h hbx hcx h3x
    (repeat (first | ((first | refine qA ?_ | refine qB ?_ | refine xN ?_ | refine xE ?_ | refine xT ?_); try show PW _ _ _ _ _ _) | refine ro1 tabOk rfl rfl ?_ | refine ro2 tabOk rfl rfl ?_ | refine ro3 tabOk rfl rfl ?_ | refine rd1 tabOk rfl rfl ?_ | refine rd2 tabOk rfl rfl ?_ | refine rd3 tabOk rfl rfl ?_ | ((first | apply oR rfl rfl | (apply dF rfl rfl rfl; intro _) | (apply dP rfl rfl rfl; intro _) | (apply dL rfl rfl rfl; intro _) | apply dC rfl rfl rfl rfl); (focus (first | exact iA rfl (EL rfl) (SZ rfl) rfl rfl (Int.natCast_nonneg _) hg rfl | exact cqP hx0 | exact cqP hx1 | exact cqP hR0 | exact cqP hR1 | exact aP (xs := [.agg [.sl ((y3.map lenT).map VTest.g), .sl ((z3.map lenE).map VExpr.g)]]) rfl (EL rfl) (SZ rfl) (BY rfl) (ZR rfl) rfl rfl rfl rfl (by simp; omega) (by intro y hy; rw [List.mem_singleton.1 hy]; rfl) (by simp; omega) (by simp [maxLen]; omega) | exact cJ | exact mG | exact bT | exact nD)); try exact kQ) | refine xS ?_ | refine xR ?_ | refine qxa rfl rfl mixed ?_ | refine qxb rfl rfl mixed ?_ | refine qxc rfl rfl mixed ?_ | refine qxd rfl rfl mixed ?_ | refine xB ?_ | refine xt rfl ?_ | refine xf rfl ?_))
    refine ⟨i + 1, hlt, by omega, SlotsOk.le ⟨.inl rfl, .inl rfl, .inl rfl, .inl rfl, .inl rfl, .inl (congrArg (fun k => PV.g (.int .i64 k)) (wrap64 (by omega))), trivial⟩, Drops.mk [(Tr.mk xa xb xc xd).g.cells.map PV.g] [] [] ?_⟩
    rw [hT3]
    rfl
  · have hi' : i = l.length := by have := of_decide_eq_false h; omega
    subst hi'
    rw [List.take_length]
    subst hv
    clear h
    (repeat (first | ((first | refine qA ?_ | refine qB ?_ | refine xN ?_ | refine xE ?_ | refine xT ?_); try show PW _ _ _ _ _ _) | refine ro1 tabOk rfl rfl ?_ | refine ro2 tabOk rfl rfl ?_ | refine ro3 tabOk rfl rfl ?_ | refine rd1 tabOk rfl rfl ?_ | refine rd2 tabOk rfl rfl ?_ | refine rd3 tabOk rfl rfl ?_ | ((first | apply oR rfl rfl | (apply dF rfl rfl rfl; intro _) | (apply dP rfl rfl rfl; intro _) | (apply dL rfl rfl rfl; intro _) | apply dC rfl rfl rfl rfl); (focus (first | exact cqP hP | exact cqP hS | exact cJ | exact mG | exact bT | exact nD)); try exact kQ) | refine xS ?_ | refine xR ?_ | refine qxa rfl rfl mixed ?_ | refine qxb rfl rfl mixed ?_ | refine qxc rfl rfl mixed ?_ | refine qxd rfl rfl mixed ?_ | refine xB ?_ | refine xt rfl ?_ | refine xf rfl ?_))
    exact Ret_two (resVs_cons (resV_agg (AG rfl) (SZ rfl) rfl rfl (Nat.le_of_ble_eq_true rfl)) (resVs_cons resV_tmp resVs_nil)) rfl rfl rfl
end Go.Proofs.Ytffpepmfdjjjaaa


/- Plain laws: a check sum guards: what is changed in four bytes that stand together is told. -/
namespace Go.Proofs.Ytffpepmfdjjjaaa
open Go.Pure

theorem bit_and (r : BitVec 32) : (r &&& 1#32 = 1#32) ↔ r.getLsbD 0 = true := by
  constructor
  · intro h
    have := congrArg (fun x => x.getLsbD 0) h
    simpa using this
  · intro h
    apply BitVec.eq_of_getLsbD_eq
    intro i hi
    cases i with
    | zero => simp at h ⊢; exact h
    | succ i => simp
theorem crcBit_eq (r : BitVec 32) : crcBit r = (r >>> 1) ^^^ (if r.getLsbD 0 = true then 0xedb88320#32 else 0#32) := by
  unfold crcBit
  by_cases h : r.getLsbD 0 = true
  · rw [if_pos ((bit_and r).2 h), if_pos h]
  · rw [if_neg (fun hh => h ((bit_and r).1 hh)), if_neg h, BitVec.xor_zero]
theorem crcBit_xor (r s : BitVec 32) : crcBit (r ^^^ s) = crcBit r ^^^ crcBit s := by
  rw [crcBit_eq, crcBit_eq, crcBit_eq]
  have h1 : (r ^^^ s) >>> 1 = (r >>> 1) ^^^ (s >>> 1) := by
    apply BitVec.eq_of_getLsbD_eq
    intro i hi
    simp
  have h2 : (r ^^^ s).getLsbD 0 = (r.getLsbD 0 ^^ s.getLsbD 0) := by simp
  rw [h1, h2]
  cases r.getLsbD 0 <;> cases s.getLsbD 0 <;> simp
  · rw [BitVec.xor_assoc]
  · rw [BitVec.xor_assoc, BitVec.xor_assoc, BitVec.xor_comm (s >>> 1)]
  · have : ∀ a b c : BitVec 32, a ^^^ c ^^^ (b ^^^ c) = a ^^^ b := by
      intro a b c
      rw [BitVec.xor_comm b c, ← BitVec.xor_assoc, BitVec.xor_assoc a c c, BitVec.xor_self, BitVec.xor_zero]
    rw [this]
/-- Back, where the top bit is 0. -/
theorem crcBit_inv {y v : BitVec 32} (h : crcBit y = v) (hv : v.toNat < 2147483648) : y.toNat = 2 * v.toNat := by
  rw [crcBit_eq] at h
  by_cases hb : y.getLsbD 0 = true
  · rw [if_pos hb] at h
    have : v.getLsbD 31 = true := by
      rw [← h, BitVec.getLsbD_xor, BitVec.getLsbD_ushiftRight]
      have : y.getLsbD (1 + 31) = false := BitVec.getLsbD_of_ge _ _ (by decide)
      rw [this]
      decide
    have h2 := BitVec.testBit_toNat v (i := 31)
    rw [this] at h2
    have := Nat.ge_two_pow_of_testBit h2
    omega
  · rw [if_neg hb, BitVec.xor_zero] at h
    have h1 : v.toNat = y.toNat / 2 := by rw [← h, BitVec.toNat_ushiftRight, Nat.shiftRight_eq_div_pow]
    have h2 : y.toNat % 2 = 0 := by
      have := BitVec.testBit_toNat y (i := 0)
      rw [Nat.testBit_zero] at this
      rcases Nat.mod_two_eq_zero_or_one y.toNat with h | h
      · exact h
      · rw [h] at this; exact absurd this.symm hb
    omega
theorem iter_xor : ∀ (k : Nat) (r s : BitVec 32), iter k (r ^^^ s) = iter k r ^^^ iter k s
  | 0, r, s => rfl
  | k + 1, r, s => by rw [iter, iter_xor k, crcBit_xor]; rfl
theorem iter_inv : ∀ (k : Nat) {y v : BitVec 32}, iter k y = v → 2 ^ k * v.toNat < 4294967296 → y.toNat = 2 ^ k * v.toNat
  | 0, y, v, h, _ => by subst h; simp [iter]
  | k + 1, y, v, h, hv => by
    rw [iter] at h
    have hp : 2 ^ (k + 1) = 2 * 2 ^ k := by rw [Nat.pow_succ, Nat.mul_comm]
    rw [hp] at hv ⊢
    have hpos : 1 ≤ 2 ^ k := Nat.one_le_two_pow
    have h31 : v.toNat < 2147483648 := by
      have : 2 * v.toNat ≤ 2 * 2 ^ k * v.toNat := Nat.mul_le_mul_right _ (by omega)
      omega
    have h1 := crcBit_inv h h31
    have h2 := iter_inv k (y := y) rfl (by rw [h1]; rw [show 2 ^ k * (2 * v.toNat) = 2 * 2 ^ k * v.toNat by rw [← Nat.mul_assoc, Nat.mul_comm (2 ^ k) 2]]; exact hv)
    rw [h2, h1, ← Nat.mul_assoc, Nat.mul_comm (2 ^ k) 2]
theorem iter_zero {k : Nat} {y : BitVec 32} (h : iter k y = 0#32) : y = 0#32 := by
  have := iter_inv k h (by simp)
  apply BitVec.eq_of_toNat_eq
  simpa using this
theorem iter_inj {k : Nat} {y z : BitVec 32} (h : iter k y = iter k z) : y = z := by
  have h1 : iter k (y ^^^ z) = 0#32 := by rw [iter_xor, h, BitVec.xor_self]
  have h2 := iter_zero h1
  exact BitVec.xor_eq_zero_iff.1 h2
theorem iter_add (j : Nat) : ∀ (k : Nat) (r : BitVec 32), iter k (iter j r) = iter (j + k) r
  | 0, r => rfl
  | k + 1, r => by rw [iter, iter_add j k]; rfl
theorem crcBit_shl (x : BitVec 32) (h : x.toNat < 2147483648) : crcBit (x <<< 1) = x := by
  rw [crcBit_eq]
  have h0 : (x <<< 1).getLsbD 0 = false := by simp
  rw [h0, if_neg (by decide), BitVec.xor_zero]
  apply BitVec.eq_of_toNat_eq
  rw [BitVec.toNat_ushiftRight, BitVec.toNat_shiftLeft, Nat.shiftLeft_eq, Nat.shiftRight_eq_div_pow]
  omega
theorem iter_shl : ∀ (k : Nat) (x : BitVec 32), 2 ^ k * x.toNat < 4294967296 → iter k (x <<< k) = x
  | 0, x, _ => by simp [iter]
  | k + 1, x, h => by
    have hp : 2 ^ (k + 1) = 2 * 2 ^ k := by rw [Nat.pow_succ, Nat.mul_comm]
    rw [hp] at h
    have hpos : 1 ≤ 2 ^ k := Nat.one_le_two_pow
    have h31 : x.toNat < 2147483648 := by
      have : 2 * x.toNat ≤ 2 * 2 ^ k * x.toNat := Nat.mul_le_mul_right _ (by omega)
      omega
    have e : x <<< (k + 1) = (x <<< 1) <<< k := by rw [Nat.add_comm, BitVec.shiftLeft_add]
    have e2 : (x <<< 1).toNat = 2 * x.toNat := by rw [BitVec.toNat_shiftLeft, Nat.shiftLeft_eq]; omega
    rw [iter, e]
    have : iter k ((x <<< 1) <<< k) = x <<< 1 := iter_shl k (x <<< 1) (by rw [e2]; rw [show 2 ^ k * (2 * x.toNat) = 2 * 2 ^ k * x.toNat by rw [← Nat.mul_assoc, Nat.mul_comm (2 ^ k) 2]]; exact h)
    rw [this, crcBit_shl x h31]

theorem crc_append (r : BitVec 32) (a b : List UInt8) : crc r (a ++ b) = crc (crc r a) b := by simp [crc, List.foldl_append]
theorem crc_inj : ∀ (s : List UInt8) {r r' : BitVec 32}, crc r s = crc r' s → r = r'
  | [], r, r', h => h
  | c :: s, r, r', h => by
    have h1 : crc (crcByte r c) s = crc (crcByte r' c) s := h
    have h2 := crc_inj s h1
    unfold crcByte at h2
    have h3 := iter_inj h2
    exact (BitVec.xor_right_inj (BitVec.ofNat 32 c.toNat)).1 (by rw [BitVec.xor_comm _ r, BitVec.xor_comm _ r']; exact h3)

def byB (b : UInt8) : BitVec 32 := BitVec.ofNat 32 b.toNat
theorem byB_nat (b : UInt8) : (byB b).toNat = b.toNat := by have := b.toNat_lt; simp [byB]
/-- Four bytes at once. -/
theorem crc_four (r : BitVec 32) (a b c d : UInt8) : crc r [a, b, c, d] = iter 32 (r ^^^ (byB a ^^^ (byB b <<< 8) ^^^ (byB c <<< 16) ^^^ (byB d <<< 24))) := by
  have ha := byB_nat a; have hb := byB_nat b; have hc := byB_nat c; have hd := byB_nat d
  have la := a.toNat_lt; have lb := b.toNat_lt; have lc := c.toNat_lt; have ld := d.toNat_lt
  have e1 : iter 8 (byB b <<< 8) = byB b := iter_shl 8 _ (by rw [hb]; omega)
  have e2 : iter 16 (byB c <<< 16) = byB c := iter_shl 16 _ (by rw [hc]; omega)
  have e3 : iter 24 (byB d <<< 24) = byB d := iter_shl 24 _ (by rw [hd]; omega)
  show iter 8 (iter 8 (iter 8 (iter 8 (r ^^^ byB a) ^^^ byB b) ^^^ byB c) ^^^ byB d) = _
  have s1 : iter 8 (iter 8 (r ^^^ byB a) ^^^ byB b) = iter 16 (r ^^^ byB a ^^^ (byB b <<< 8)) := by
    conv => lhs; rw [← e1]
    rw [← iter_xor, iter_add]
  have s2 : iter 8 (iter 16 (r ^^^ byB a ^^^ (byB b <<< 8)) ^^^ byB c) = iter 24 (r ^^^ byB a ^^^ (byB b <<< 8) ^^^ (byB c <<< 16)) := by
    conv => lhs; rw [← e2]
    rw [← iter_xor, iter_add]
  have s3 : iter 8 (iter 24 (r ^^^ byB a ^^^ (byB b <<< 8) ^^^ (byB c <<< 16)) ^^^ byB d) = iter 32 (r ^^^ byB a ^^^ (byB b <<< 8) ^^^ (byB c <<< 16) ^^^ (byB d <<< 24)) := by
    conv => lhs; rw [← e3]
    rw [← iter_xor, iter_add]
  rw [s1, s2, s3]
  congr 1
  simp only [BitVec.xor_assoc]
def pack4 (a b c d : UInt8) : BitVec 32 := byB a ^^^ (byB b <<< 8) ^^^ (byB c <<< 16) ^^^ (byB d <<< 24)
theorem pack4_eq (a b c d : UInt8) : pack4 a b c d = le32 a b c d := by
  have ha := byB_nat a; have hb := byB_nat b; have hc := byB_nat c; have hd := byB_nat d
  have la := a.toNat_lt; have lb := b.toNat_lt; have lc := c.toNat_lt; have ld := d.toNat_lt
  apply BitVec.eq_of_toNat_eq
  unfold pack4 le32
  simp only [BitVec.toNat_xor, BitVec.toNat_shiftLeft, ha, hb, hc, hd, BitVec.toNat_ofNat]
  simp only [Nat.shiftLeft_eq]
  rw [Nat.mod_eq_of_lt (by omega : b.toNat * 2 ^ 8 < 2 ^ 32), Nat.mod_eq_of_lt (by omega : c.toNat * 2 ^ 16 < 2 ^ 32), Nat.mod_eq_of_lt (by omega : d.toNat * 2 ^ 24 < 2 ^ 32)]
  have x1 : ∀ (k x y : Nat), x < 2 ^ k → x ^^^ y * 2 ^ k = x + y * 2 ^ k := by
    intro k x y hx
    have h1 : x ^^^ y * 2 ^ k = x ||| y * 2 ^ k := by
      apply Nat.eq_of_testBit_eq
      intro i
      rw [Nat.testBit_xor, Nat.testBit_or]
      by_cases hi : i < k
      · have : (y * 2 ^ k).testBit i = false := by rw [Nat.mul_comm, Nat.testBit_two_pow_mul]; simp; omega
        rw [this]; simp
      · have : x.testBit i = false := Nat.testBit_lt_two_pow (Nat.lt_of_lt_of_le hx (Nat.pow_le_pow_right (by decide) (by omega)))
        rw [this]; simp
    rw [h1, Nat.or_comm, Nat.mul_comm y, ← Nat.two_pow_add_eq_or_of_lt hx, Nat.add_comm]
  rw [x1 8 _ _ (by omega), x1 16 _ _ (by omega), x1 24 _ _ (by omega)]
  omega
/-- A body and its sum, all together. -/
def residue : BitVec 32 := iter 32 0xffffffff#32
theorem crc_whole {u : Tr} {l : List UInt8} (h : bytesT u = (l, 0)) : crc 0xffffffff#32 l = residue := by
  unfold bytesT at h
  split at h
  · split at h
    · simp at h
    · cases h
      rw [crc_append]
      obtain ⟨a, b, c, d, h4, h5⟩ := four_back (sumB (enc u))
      have e := crc_four (crc 0xffffffff#32 (enc u)) a b c d
      rw [h4, e]
      have : byB a ^^^ (byB b <<< 8) ^^^ (byB c <<< 16) ^^^ (byB d <<< 24) = sumB (enc u) := by rw [← h5]; exact pack4_eq a b c d
      rw [this]
      unfold sumB residue
      congr 1
      have : (0xffffffff#32) = BitVec.allOnes 32 := by decide
      rw [this]
      generalize crc (BitVec.allOnes 32) (enc u) = z
      apply BitVec.eq_of_getLsbD_eq
      intro i hi
      rw [BitVec.getLsbD_xor, BitVec.getLsbD_not, BitVec.getLsbD_allOnes]
      simp [hi]
  · rename_i h0
    exact absurd (congrArg (fun x => x.2) h) h0
/-- Four bytes that stand together are as they were. -/
theorem crc_guards {p s : List UInt8} {a b c d a' b' c' d' : UInt8} (h : crc 0xffffffff#32 (p ++ [a, b, c, d] ++ s) = crc 0xffffffff#32 (p ++ [a', b', c', d'] ++ s)) : le32 a b c d = le32 a' b' c' d' := by
  rw [crc_append, crc_append, crc_append _ (p ++ _), crc_append _ p] at h
  have h1 := crc_inj s h
  rw [crc_four, crc_four] at h1
  have h2 := iter_inj h1
  have h3 : pack4 a b c d = pack4 a' b' c' d' := (BitVec.xor_right_inj _).1 h2
  rw [pack4_eq, pack4_eq] at h3
  exact h3
end Go.Proofs.Ytffpepmfdjjjaaa


/- Plain laws: bytes with a change in four that stand together are refused. -/
namespace Go.Proofs.Ytffpepmfdjjjaaa
open Go.Pure

/-- Byte k of a number of 32 bits. -/
def xb (x : BitVec 32) (k : Nat) : UInt8 := UInt8.ofNat (x.toNat / 2 ^ (8 * k) % 256)
/-- So many bytes from a place on are changed. -/
def fl (l : List UInt8) (n : Nat) (x : BitVec 32) : Nat → List UInt8
  | 0 => l
  | k + 1 => (fl l n x k).set (n + k) ((fl l n x k).getD (n + k) 0 ^^^ xb x k)
theorem set_at (p : List UInt8) (y z : UInt8) (s : List UInt8) {n : Nat} (h : n = p.length) : (p ++ y :: s).set n z = p ++ z :: s := by
  subst h
  simp
theorem getD_at (p : List UInt8) (y : UInt8) (s : List UInt8) {n : Nat} (h : n = p.length) : (p ++ y :: s).getD n 0 = y := by
  subst h
  simp
theorem fl_four (p : List UInt8) (a b c d : UInt8) (s : List UInt8) (x : BitVec 32) :
    fl (p ++ [a, b, c, d] ++ s) p.length x 4 = p ++ [a ^^^ xb x 0, b ^^^ xb x 1, c ^^^ xb x 2, d ^^^ xb x 3] ++ s := by
  have e0 : p ++ [a, b, c, d] ++ s = p ++ a :: (b :: c :: d :: s) := by simp
  have f1 : fl (p ++ [a, b, c, d] ++ s) p.length x 1 = (p ++ [a ^^^ xb x 0]) ++ b :: (c :: d :: s) := by
    rw [fl, fl, e0, getD_at _ _ _ (by simp), set_at _ _ _ _ (by simp)]; simp
  have f2 : fl (p ++ [a, b, c, d] ++ s) p.length x 2 = (p ++ [a ^^^ xb x 0, b ^^^ xb x 1]) ++ c :: (d :: s) := by
    rw [fl, f1, getD_at _ _ _ (by simp), set_at _ _ _ _ (by simp)]; simp
  have f3 : fl (p ++ [a, b, c, d] ++ s) p.length x 3 = (p ++ [a ^^^ xb x 0, b ^^^ xb x 1, c ^^^ xb x 2]) ++ d :: s := by
    rw [fl, f2, getD_at _ _ _ (by simp), set_at _ _ _ _ (by simp)]; simp
  rw [fl, f3, getD_at _ _ _ (by simp), set_at _ _ _ _ (by simp)]; simp
theorem window (l : List UInt8) (n : Nat) (h : n + 4 ≤ l.length) : ∃ p a b c d s, l = p ++ [a, b, c, d] ++ s ∧ p.length = n := by
  have h1 : ((l.drop n).take 4).length = 4 := by simp; omega
  match hd : (l.drop n).take 4, h1 with
  | [a, b, c, d], _ =>
    refine ⟨l.take n, a, b, c, d, (l.drop n).drop 4, ?_, by simp; omega⟩
    rw [← hd, List.append_assoc, List.take_append_drop, List.take_append_drop]
theorem xor_self_eq {a y : UInt8} (h : a = a ^^^ y) : y = 0 := by
  have := congrArg (fun z => a ^^^ z) h
  rw [← UInt8.xor_assoc, UInt8.xor_self, UInt8.zero_xor] at this
  exact this.symm
theorem xb_zero {x : BitVec 32} (h0 : xb x 0 = 0) (h1 : xb x 1 = 0) (h2 : xb x 2 = 0) (h3 : xb x 3 = 0) : x = 0#32 := by
  have e : ∀ k, xb x k = 0 → x.toNat / 2 ^ (8 * k) % 256 = 0 := by
    intro k h
    have := congrArg UInt8.toNat h
    unfold xb at this
    rw [u8of _ (Nat.mod_lt _ (by decide))] at this
    exact this
  have g0 := e 0 h0; have g1 := e 1 h1; have g2 := e 2 h2; have g3 := e 3 h3
  have := x.isLt
  apply BitVec.eq_of_toNat_eq
  simp at g0 g1 g2 g3 ⊢
  omega
theorem guards {t : Tr} {l : List UInt8} {n : Nat} {x : BitVec 32} (h : bytesT t = (l, 0)) (hn : n + 4 ≤ l.length) (hx : x ≠ 0#32) : (parseT (fl l n x 4)).2 ≠ 0 := by
  intro h0
  obtain ⟨p, a, b, c, d, s, rfl, rfl⟩ := window l n hn
  obtain ⟨e1, _, _⟩ := parse_bytes (u := (parseT (fl (p ++ [a, b, c, d] ++ s) p.length x 4)).1) (l := fl (p ++ [a, b, c, d] ++ s) p.length x 4) (Prod.ext rfl h0)
  have c1 := crc_whole h
  have c2 := crc_whole e1
  rw [fl_four] at c2
  have hl := crc_guards (c1.trans c2.symm)
  have h4 := congrArg four hl
  rw [four_le32, four_le32] at h4
  simp only [List.cons.injEq, and_true] at h4
  exact hx (xb_zero (xor_self_eq h4.1) (xor_self_eq h4.2.1) (xor_self_eq h4.2.2.1) (xor_self_eq h4.2.2.2))
end Go.Proofs.Ytffpepmfdjjjaaa


/- Plain laws: the check sum by long division, bits turned round. -/
namespace Go.Proofs.Ytffpepmfdjjjaaa
open Go.Pure

def rstep (R : BitVec 32) (bit : Bool) : BitVec 32 := if R.getLsbD 31 != bit then (R <<< 1) ^^^ 0x04c11db7#32 else R <<< 1
def cbit (c : UInt8) (k : Nat) : Bool := (byB c).getLsbD k
/-- What is left, some bits of a byte gone over. -/
def rrun (R : BitVec 32) (c : UInt8) : Nat → BitVec 32
  | 0 => R
  | k + 1 => rstep (rrun R c k) (cbit c k)
def rsum (R : BitVec 32) (l : List UInt8) : BitVec 32 := l.foldl (fun R c => rrun R c 8) R

theorem rev_bit (x : BitVec 32) (i : Nat) (h : i < 32) : x.reverse.getLsbD i = x.getLsbD (31 - i) := by
  rw [BitVec.getLsbD_reverse, BitVec.getMsbD_eq_getLsbD]
  simp [h]
theorem rev_poly : (0xedb88320#32 : BitVec 32).reverse = 0x04c11db7#32 := by decide +kernel
theorem rev_xor (x y : BitVec 32) : (x ^^^ y).reverse = x.reverse ^^^ y.reverse := by
  apply BitVec.eq_of_getLsbD_eq
  intro i hi
  rw [BitVec.getLsbD_xor, rev_bit _ _ hi, rev_bit _ _ hi, rev_bit _ _ hi, BitVec.getLsbD_xor]
theorem rev_shr (x : BitVec 32) : (x >>> 1).reverse = x.reverse <<< 1 := by
  apply BitVec.eq_of_getLsbD_eq
  intro i hi
  rw [rev_bit _ _ hi, BitVec.getLsbD_ushiftRight, BitVec.getLsbD_shiftLeft]
  cases i with
  | zero =>
    have : x.getLsbD (1 + (31 - 0)) = false := BitVec.getLsbD_of_ge _ _ (by decide)
    rw [this]; simp
  | succ i =>
    rw [show i + 1 - 1 = i by omega, rev_bit _ _ (by omega), show 1 + (31 - (i + 1)) = 31 - i by omega]
    simp [hi]
/-- The way of one byte. -/
theorem rrun_eq (r : BitVec 32) (c : UInt8) : ∀ k, rrun r.reverse c k = (iter k (r ^^^ byB c) ^^^ (byB c >>> k)).reverse
  | 0 => by
    simp only [rrun, iter, BitVec.ushiftRight_zero]
    rw [BitVec.xor_assoc, BitVec.xor_self, BitVec.xor_zero]
  | k + 1 => by
    rw [rrun, rrun_eq r c k, iter]
    generalize hy : iter k (r ^^^ byB c) = y
    unfold rstep cbit
    rw [rev_bit _ _ (by decide), show 31 - 31 = 0 by decide, BitVec.getLsbD_xor, BitVec.getLsbD_ushiftRight, Nat.add_zero, crcBit_eq]
    have hs : (byB c >>> (k + 1)) = (byB c >>> k) >>> 1 := by rw [BitVec.shiftRight_add]
    have hx : ((y ^^^ byB c >>> k) >>> 1) = (y >>> 1) ^^^ ((byB c >>> k) >>> 1) := by
      apply BitVec.eq_of_getLsbD_eq
      intro i hi
      simp
    rw [← rev_shr, hx, hs, ← rev_poly]
    have hb : ((y.getLsbD 0 ^^ (byB c).getLsbD k) != (byB c).getLsbD k) = y.getLsbD 0 := by cases y.getLsbD 0 <;> cases (byB c).getLsbD k <;> rfl
    rw [hb]
    cases y.getLsbD 0
    · simp only [Bool.false_eq_true, if_false, BitVec.xor_zero]
    · simp only [if_true]
      rw [← rev_xor]
      congr 1
      rw [BitVec.xor_assoc, BitVec.xor_assoc, BitVec.xor_comm ((byB c >>> k) >>> 1)]
theorem rrun_byte (r : BitVec 32) (c : UInt8) : rrun r.reverse c 8 = (crcByte r c).reverse := by
  rw [rrun_eq]
  have : byB c >>> 8 = 0#32 := by
    apply BitVec.eq_of_toNat_eq
    rw [BitVec.toNat_ushiftRight, byB_nat, Nat.shiftRight_eq_div_pow]
    have := c.toNat_lt
    simp
    omega
  rw [this, BitVec.xor_zero]
  rfl
theorem rsum_eq : ∀ (l : List UInt8) (r : BitVec 32), rsum r.reverse l = (crc r l).reverse
  | [], r => rfl
  | c :: l, r => by
    show rsum (rrun r.reverse c 8) l = _
    rw [rrun_byte, rsum_eq l]
    rfl
theorem rsum_take {l : List UInt8} {i : Nat} (h : i < l.length) {R : BitVec 32} : rsum R (l.take (i + 1)) = rrun (rsum R (l.take i)) l[i] 8 := by
  rw [List.take_succ_eq_append_getElem h, rsum, List.foldl_append]
  rfl

/-- The sum out of what is left: so many bits. -/
def outR (R : BitVec 32) : Nat → BitVec 32
  | 0 => 0#32
  | k + 1 => if R.getLsbD k = false then outR R k ||| (1#32 <<< (31 - k)) else outR R k
theorem outR_bit (R : BitVec 32) : ∀ (k i : Nat), k ≤ 32 → i < 32 → (outR R k).getLsbD i = (decide (31 - i < k) && !R.getLsbD (31 - i))
  | 0, i, _, _ => by simp [outR]
  | k + 1, i, hk, hi => by
    have ih := outR_bit R k i (by omega) hi
    rw [outR]
    by_cases hb : R.getLsbD k = false
    · rw [if_pos hb, BitVec.getLsbD_or, ih]
      have hs : (1#32 <<< (31 - k)).getLsbD i = decide (i = 31 - k) := by
        rw [BitVec.getLsbD_shiftLeft]
        by_cases h1 : i = 31 - k
        · subst h1; simp; omega
        · by_cases h2 : i < 31 - k
          · simp [h2, h1]
          · have : (1#32).getLsbD (i - (31 - k)) = false := by
              rw [BitVec.getLsbD_one]
              simp
              omega
            rw [this]; simp [h1]
      rw [hs]
      by_cases h1 : i = 31 - k
      · have e : 31 - i = k := by omega
        rw [e, hb]; simp [h1]
      · have e : ¬ 31 - i = k := by omega
        have : (decide (31 - i < k + 1)) = decide (31 - i < k) := by
          by_cases h3 : 31 - i < k
          · simp [h3]; omega
          · simp [h3]; omega
        rw [this]; simp [h1]
    · rw [if_neg hb, ih]
      have hb' : R.getLsbD k = true := by cases h : R.getLsbD k with | true => rfl | false => exact absurd h hb
      by_cases e : 31 - i = k
      · rw [e, hb']; simp
      · have : (decide (31 - i < k + 1)) = decide (31 - i < k) := by
          by_cases h3 : 31 - i < k
          · simp [h3]; omega
          · simp [h3]; omega
        rw [this]
theorem outR_all (r : BitVec 32) : outR r.reverse 32 = ~~~ r := by
  apply BitVec.eq_of_getLsbD_eq
  intro i hi
  rw [outR_bit _ 32 i (by decide) hi, rev_bit _ _ (by omega), BitVec.getLsbD_not]
  have e : 31 - (31 - i) = i := by omega
  rw [e]
  simp [hi]
  omega
theorem sum_turned (l : List UInt8) : outR (rsum 0xffffffff#32 l) 32 = sumB l := by
  have : (0xffffffff#32 : BitVec 32) = (0xffffffff#32 : BitVec 32).reverse := by decide +kernel
  conv => lhs; rw [this]
  rw [rsum_eq, outR_all]
  rfl

theorem and_u64 (a b : Nat) (ha : a < 2 ^ 64) (hb : b < 2 ^ 64) : IntKind.u64.wrap ((BitVec.ofInt IntKind.u64.bits (a : Int) &&& BitVec.ofInt IntKind.u64.bits (b : Int)).toNat : Int) = ((a &&& b : Nat) : Int) := by
  show IntKind.u64.wrap ((BitVec.ofInt 64 (a : Int) &&& BitVec.ofInt 64 (b : Int)).toNat : Int) = _
  rw [BitVec.ofInt_natCast, BitVec.ofInt_natCast, BitVec.toNat_and, BitVec.toNat_ofNat, BitVec.toNat_ofNat, Nat.mod_eq_of_lt ha, Nat.mod_eq_of_lt hb]
  have : a &&& b < 2 ^ 64 := Nat.lt_of_le_of_lt Nat.and_le_left ha
  simp [IntKind.wrap, IntKind.bits, IntKind.signed]
  omega
theorem xor_u64 (a b : Nat) (ha : a < 2 ^ 64) (hb : b < 2 ^ 64) : IntKind.u64.wrap ((BitVec.ofInt IntKind.u64.bits (a : Int) ^^^ BitVec.ofInt IntKind.u64.bits (b : Int)).toNat : Int) = ((a ^^^ b : Nat) : Int) := by
  show IntKind.u64.wrap ((BitVec.ofInt 64 (a : Int) ^^^ BitVec.ofInt 64 (b : Int)).toNat : Int) = _
  rw [BitVec.ofInt_natCast, BitVec.ofInt_natCast, BitVec.toNat_xor, BitVec.toNat_ofNat, BitVec.toNat_ofNat, Nat.mod_eq_of_lt ha, Nat.mod_eq_of_lt hb]
  have : a ^^^ b < 2 ^ 64 := Nat.xor_lt_two_pow ha hb
  simp [IntKind.wrap, IntKind.bits, IntKind.signed]
  omega
theorem bit_nat (x : BitVec 32) (k : Nat) : x.toNat / 2 ^ k % 2 = if x.getLsbD k = true then 1 else 0 := by
  have h1 : x.getLsbD k = x.toNat.testBit k := rfl
  rw [h1, Nat.testBit_eq_decide_div_mod_eq]
  rcases Nat.mod_two_eq_zero_or_one (x.toNat / 2 ^ k) with h | h <;> simp [h]
end Go.Proofs.Ytffpepmfdjjjaaa


namespace Go.Proofs.Ytffpepmfdjjjaaa
open Go.Pure
attribute [local irreducible] PW POps POpsD PO PC Cond

end Go.Proofs.Ytffpepmfdjjjaaa


namespace Go.Proofs.Ytffpepmfdjjjaaa
open Go.Pure
attribute [local irreducible] PW POps POpsD PO PC Cond

theorem u64mod (n : Nat) : IntKind.u64.wrap (n : Int) = ((n % 18446744073709551616 : Nat) : Int) := by simp [IntKind.wrap, IntKind.bits, IntKind.signed]
theorem tmodN (x k : Nat) : ((x : Nat) : Int).tmod (k : Int) = ((x % k : Nat) : Int) := by rw [Int.tmod_eq_emod_of_nonneg (by omega)]; rfl
theorem tdivN (x k : Nat) : ((x : Nat) : Int).tdiv (k : Int) = ((x / k : Nat) : Int) := by rw [Int.tdiv_eq_ediv_of_nonneg (by omega)]; rfl

set_option maxRecDepth 100000 in
set_option maxHeartbeats 4000000 in
theorem number_ref : ∀ (m x : Nat), x ≤ m → x < 2 ^ 64 → PC Try.prog 80 [.g (.int .u64 x)] ⟨[], [], []⟩ (.g (.sl (bys (varint x)))) ⟨[], [], []⟩
  | m, x, hm, hx => by
    by_cases h128 : 128 ≤ x
    · cases m with
      | zero => omega
      | succ m =>
        have hI := number_ref m (x / 128) (by omega) (by omega)
        have hq : IntKind.u64.wrap ((x : Int).tdiv 128) = ((x / 128 : Nat) : Int) := by rw [show (128 : Int) = ((128 : Nat) : Int) from rfl, tdivN, u64mod, Nat.mod_eq_of_lt (by omega)]
        rw [← hq] at hI
        have hc : IntKind.u8.wrap (IntKind.u64.wrap (128 + (x : Int).tmod 128)) = ((UInt8.ofNat (x % 128 + 128)).toNat : Int) := by
          rw [show (128 : Int) = ((128 : Nat) : Int) from rfl, tmodN, show ((128 : Nat) : Int) + ((x % 128 : Nat) : Int) = ((x % 128 + 128 : Nat) : Int) by omega, u64mod, Nat.mod_eq_of_lt (by omega), small8]
        have hl := varint_len 9 (x / 128) (by omega)
        refine PC_of_PW Try.func80 rfl rfl (rs := _) rfl (Nat.le_of_ble_eq_true (by kernel_rfl)) ?_
        (repeat (first | ((first | refine qA ?_ | refine qB ?_ | refine xN ?_ | refine xE ?_ | refine xT ?_); try show PW _ _ _ _ _ _) | refine ro1 tabOk rfl rfl ?_ | refine ro2 tabOk rfl rfl ?_ | refine ro3 tabOk rfl rfl ?_ | refine rd1 tabOk rfl rfl ?_ | refine rd2 tabOk rfl rfl ?_ | refine rd3 tabOk rfl rfl ?_ | ((first | apply oR rfl rfl | (apply dF rfl rfl rfl; intro _) | (apply dP rfl rfl rfl; intro _) | (apply dL rfl rfl rfl; intro _) | apply dC rfl rfl rfl rfl); (focus (first | exact cJ | exact mG | exact bT | exact nD)); try exact kQ) | refine xS ?_ | refine xR ?_ | refine qxa rfl rfl mixed ?_ | refine qxb rfl rfl mixed ?_ | refine qxc rfl rfl mixed ?_ | refine qxd rfl rfl mixed ?_ | refine xB ?_ | refine xt rfl ?_ | refine xf rfl ?_))
        (first | refine POps_split rfl rfl (fun h => ?_) (fun h => ?_) | refine POpsD_split rfl rfl (fun h => ?_) (fun h => ?_) | refine PW_cond rfl (fun h => ?_) (fun h => ?_))
        · have := of_decide_eq_true h; omega
        · (repeat (first | ((first | refine qA ?_ | refine qB ?_ | refine xN ?_ | refine xE ?_ | refine xT ?_); try show PW _ _ _ _ _ _) | refine ro1 tabOk rfl rfl ?_ | refine ro2 tabOk rfl rfl ?_ | refine ro3 tabOk rfl rfl ?_ | refine rd1 tabOk rfl rfl ?_ | refine rd2 tabOk rfl rfl ?_ | refine rd3 tabOk rfl rfl ?_ | ((first | apply oR rfl rfl | (apply dF rfl rfl rfl; intro _) | (apply dP rfl rfl rfl; intro _) | (apply dL rfl rfl rfl; intro _) | apply dC rfl rfl rfl rfl); (focus (first | exact PO_rem rfl rfl rfl (by decide) | exact PO_quo rfl rfl rfl (by decide) | exact PO_buildSlice_own rfl (EL rfl) (SZ rfl) (AG rfl) (ZR rfl) rfl rfl rfl rfl rfl rfl rfl | exact cqP hI | exact PO_appb (b := [UInt8.ofNat (x % 128 + 128)]) (varint (x / 128)) rfl (EL rfl) (SZ rfl) (BY rfl) (ZR rfl) rfl (congrArg (fun z => PV.own [GV.int .u8 z] 0) hc) rfl rfl rfl (by simp; omega) (by simp [maxLen]; omega) | exact cJ | exact mG | exact bT | exact nD)); try exact kQ) | refine xS ?_ | refine xR ?_ | refine qxa rfl rfl mixed ?_ | refine qxb rfl rfl mixed ?_ | refine qxc rfl rfl mixed ?_ | refine qxd rfl rfl mixed ?_ | refine xB ?_ | refine xt rfl ?_ | refine xf rfl ?_))
          (first | refine Ret_int (vC vT vN) rfl ?_ | refine Ret_bool (vC vT vN) rfl ?_ | refine Ret_g (vC vT vN) rfl ?_ | refine Ret_int (vC (vA (AG rfl) (SZ rfl) rfl rfl (lB rfl)) vN) rfl ?_ | refine Ret_bool (vC (vA (AG rfl) (SZ rfl) rfl rfl (lB rfl)) vN) rfl ?_ | refine Ret_g (vC (vA (AG rfl) (SZ rfl) rfl rfl (lB rfl)) vN) rfl ?_)
          rw [varint_big h128]
          rfl
    · refine PC_of_PW Try.func80 rfl rfl (rs := _) rfl (Nat.le_of_ble_eq_true (by kernel_rfl)) ?_
      (repeat (first | ((first | refine qA ?_ | refine qB ?_ | refine xN ?_ | refine xE ?_ | refine xT ?_); try show PW _ _ _ _ _ _) | refine ro1 tabOk rfl rfl ?_ | refine ro2 tabOk rfl rfl ?_ | refine ro3 tabOk rfl rfl ?_ | refine rd1 tabOk rfl rfl ?_ | refine rd2 tabOk rfl rfl ?_ | refine rd3 tabOk rfl rfl ?_ | ((first | apply oR rfl rfl | (apply dF rfl rfl rfl; intro _) | (apply dP rfl rfl rfl; intro _) | (apply dL rfl rfl rfl; intro _) | apply dC rfl rfl rfl rfl); (focus (first | exact cJ | exact mG | exact bT | exact nD)); try exact kQ) | refine xS ?_ | refine xR ?_ | refine qxa rfl rfl mixed ?_ | refine qxb rfl rfl mixed ?_ | refine qxc rfl rfl mixed ?_ | refine qxd rfl rfl mixed ?_ | refine xB ?_ | refine xt rfl ?_ | refine xf rfl ?_))
      (first | refine POps_split rfl rfl (fun h => ?_) (fun h => ?_) | refine POpsD_split rfl rfl (fun h => ?_) (fun h => ?_) | refine PW_cond rfl (fun h => ?_) (fun h => ?_))
      · (repeat (first | ((first | refine qA ?_ | refine qB ?_ | refine xN ?_ | refine xE ?_ | refine xT ?_); try show PW _ _ _ _ _ _) | refine ro1 tabOk rfl rfl ?_ | refine ro2 tabOk rfl rfl ?_ | refine ro3 tabOk rfl rfl ?_ | refine rd1 tabOk rfl rfl ?_ | refine rd2 tabOk rfl rfl ?_ | refine rd3 tabOk rfl rfl ?_ | ((first | apply oR rfl rfl | (apply dF rfl rfl rfl; intro _) | (apply dP rfl rfl rfl; intro _) | (apply dL rfl rfl rfl; intro _) | apply dC rfl rfl rfl rfl); (focus (first | exact cJ | exact mG | exact bT | exact nD)); try exact kQ) | refine xS ?_ | refine xR ?_ | refine qxa rfl rfl mixed ?_ | refine qxb rfl rfl mixed ?_ | refine qxc rfl rfl mixed ?_ | refine qxd rfl rfl mixed ?_ | refine xB ?_ | refine xt rfl ?_ | refine xf rfl ?_))
        (first | refine Ret_int (vC vT vN) rfl ?_ | refine Ret_bool (vC vT vN) rfl ?_ | refine Ret_g (vC vT vN) rfl ?_ | refine Ret_int (vC (vA (AG rfl) (SZ rfl) rfl rfl (lB rfl)) vN) rfl ?_ | refine Ret_bool (vC (vA (AG rfl) (SZ rfl) rfl rfl (lB rfl)) vN) rfl ?_ | refine Ret_g (vC (vA (AG rfl) (SZ rfl) rfl rfl (lB rfl)) vN) rfl ?_)
        rw [varint_small h128]
        exact congrArg (fun z => GV.sl [GV.int .u8 z]) (small8 x)
      · have := of_decide_eq_false h; omega

set_option maxRecDepth 100000 in
set_option maxHeartbeats 4000000 in
theorem signed_ref (n : Int) (hn : -9223372036854775808 ≤ n ∧ n < 9223372036854775808) : PC Try.prog 79 [.g (.int .i64 n)] ⟨[], [], []⟩ (.g (.sl (bys (varint (fold64 n))))) ⟨[], [], []⟩ := by
  have hf := fold_eq n hn
  have hN := number_ref (fold64 n) (fold64 n) (Nat.le_refl _) (fold64_lt n)
  refine PC_of_PW Try.func79 rfl rfl (rs := _) rfl (Nat.le_of_ble_eq_true (by kernel_rfl)) ?_
  (repeat (first | ((first | refine qA ?_ | refine qB ?_ | refine xN ?_ | refine xE ?_ | refine xT ?_); try show PW _ _ _ _ _ _) | refine ro1 tabOk rfl rfl ?_ | refine ro2 tabOk rfl rfl ?_ | refine ro3 tabOk rfl rfl ?_ | refine rd1 tabOk rfl rfl ?_ | refine rd2 tabOk rfl rfl ?_ | refine rd3 tabOk rfl rfl ?_ | ((first | apply oR rfl rfl | (apply dF rfl rfl rfl; intro _) | (apply dP rfl rfl rfl; intro _) | (apply dL rfl rfl rfl; intro _) | apply dC rfl rfl rfl rfl); (focus (first | exact cJ | exact mG | exact bT | exact nD)); try exact kQ) | refine xS ?_ | refine xR ?_ | refine qxa rfl rfl mixed ?_ | refine qxb rfl rfl mixed ?_ | refine qxc rfl rfl mixed ?_ | refine qxd rfl rfl mixed ?_ | refine xB ?_ | refine xt rfl ?_ | refine xf rfl ?_))
  (first | refine POps_split rfl rfl (fun h => ?_) (fun h => ?_) | refine POpsD_split rfl rfl (fun h => ?_) (fun h => ?_) | refine PW_cond rfl (fun h => ?_) (fun h => ?_))
  · have h0 := of_decide_eq_true h
    rw [if_pos h0] at hf
    have he : IntKind.u64.wrap (IntKind.u64.wrap (2 * IntKind.u64.wrap (IntKind.i64.wrap (0 - IntKind.i64.wrap (n + 1)))) + 1) = (fold64 n : Int) := by
      rw [wrap64 (n := n + 1) (by omega), wrap64 (n := 0 - (n + 1)) (by omega), hf]
      have u64i : ∀ m : Int, IntKind.u64.wrap m = m % 18446744073709551616 := fun m => by simp [IntKind.wrap, IntKind.bits, IntKind.signed]
      rw [u64i, u64i, u64i]
      omega
    rw [← he] at hN
    (repeat (first | ((first | refine qA ?_ | refine qB ?_ | refine xN ?_ | refine xE ?_ | refine xT ?_); try show PW _ _ _ _ _ _) | refine ro1 tabOk rfl rfl ?_ | refine ro2 tabOk rfl rfl ?_ | refine ro3 tabOk rfl rfl ?_ | refine rd1 tabOk rfl rfl ?_ | refine rd2 tabOk rfl rfl ?_ | refine rd3 tabOk rfl rfl ?_ | ((first | apply oR rfl rfl | (apply dF rfl rfl rfl; intro _) | (apply dP rfl rfl rfl; intro _) | (apply dL rfl rfl rfl; intro _) | apply dC rfl rfl rfl rfl); (focus (first | exact cqP hN | exact cJ | exact mG | exact bT | exact nD)); try exact kQ) | refine xS ?_ | refine xR ?_ | refine qxa rfl rfl mixed ?_ | refine qxb rfl rfl mixed ?_ | refine qxc rfl rfl mixed ?_ | refine qxd rfl rfl mixed ?_ | refine xB ?_ | refine xt rfl ?_ | refine xf rfl ?_))
    (first | refine Ret_int (vC vT vN) rfl ?_ | refine Ret_bool (vC vT vN) rfl ?_ | refine Ret_g (vC vT vN) rfl ?_ | refine Ret_int (vC (vA (AG rfl) (SZ rfl) rfl rfl (lB rfl)) vN) rfl ?_ | refine Ret_bool (vC (vA (AG rfl) (SZ rfl) rfl rfl (lB rfl)) vN) rfl ?_ | refine Ret_g (vC (vA (AG rfl) (SZ rfl) rfl rfl (lB rfl)) vN) rfl ?_)
    rfl
  · have h0 := of_decide_eq_false h
    rw [if_neg h0] at hf
    have he : IntKind.u64.wrap (2 * IntKind.u64.wrap n) = (fold64 n : Int) := by
      rw [hf]
      have u64i : ∀ m : Int, IntKind.u64.wrap m = m % 18446744073709551616 := fun m => by simp [IntKind.wrap, IntKind.bits, IntKind.signed]
      rw [u64i, u64i]
      omega
    rw [← he] at hN
    (repeat (first | ((first | refine qA ?_ | refine qB ?_ | refine xN ?_ | refine xE ?_ | refine xT ?_); try show PW _ _ _ _ _ _) | refine ro1 tabOk rfl rfl ?_ | refine ro2 tabOk rfl rfl ?_ | refine ro3 tabOk rfl rfl ?_ | refine rd1 tabOk rfl rfl ?_ | refine rd2 tabOk rfl rfl ?_ | refine rd3 tabOk rfl rfl ?_ | ((first | apply oR rfl rfl | (apply dF rfl rfl rfl; intro _) | (apply dP rfl rfl rfl; intro _) | (apply dL rfl rfl rfl; intro _) | apply dC rfl rfl rfl rfl); (focus (first | exact cqP hN | exact cJ | exact mG | exact bT | exact nD)); try exact kQ) | refine xS ?_ | refine xR ?_ | refine qxa rfl rfl mixed ?_ | refine qxb rfl rfl mixed ?_ | refine qxc rfl rfl mixed ?_ | refine qxd rfl rfl mixed ?_ | refine xB ?_ | refine xt rfl ?_ | refine xf rfl ?_))
    (first | refine Ret_int (vC vT vN) rfl ?_ | refine Ret_bool (vC vT vN) rfl ?_ | refine Ret_g (vC vT vN) rfl ?_ | refine Ret_int (vC (vA (AG rfl) (SZ rfl) rfl rfl (lB rfl)) vN) rfl ?_ | refine Ret_bool (vC (vA (AG rfl) (SZ rfl) rfl rfl (lB rfl)) vN) rfl ?_ | refine Ret_g (vC (vA (AG rfl) (SZ rfl) rfl rfl (lB rfl)) vN) rfl ?_)
    rfl

theorem four_ref (x : BitVec 32) : PC Try.prog 54 [.g (w32 x)] ⟨[], [], []⟩ (.g (.sl (bys (four x)))) ⟨[], [], []⟩ := by
  have hx := x.isLt
  have e : ∀ n : Nat, n < 4294967296 → IntKind.u8.wrap (n : Int) = ((UInt8.ofNat (n % 256)).toNat : Int) := fun n _ => u8nat n
  have c0 : IntKind.u8.wrap ((x.toNat : Int).tmod 256) = ((UInt8.ofNat (x.toNat % 256)).toNat : Int) := by
    rw [show (256 : Int) = ((256 : Nat) : Int) from rfl, tmodN, u8nat, Nat.mod_mod]
  have c1 : IntKind.u8.wrap ((IntKind.u32.wrap ((x.toNat : Int).tdiv 256)).tmod 256) = ((UInt8.ofNat (x.toNat / 256 % 256)).toNat : Int) := by
    rw [show (256 : Int) = ((256 : Nat) : Int) from rfl, tdivN, u32n _ (by omega), tmodN, u8nat, Nat.mod_mod]
  have c2 : IntKind.u8.wrap ((IntKind.u32.wrap ((x.toNat : Int).tdiv 65536)).tmod 256) = ((UInt8.ofNat (x.toNat / 65536 % 256)).toNat : Int) := by
    rw [show (256 : Int) = ((256 : Nat) : Int) from rfl, show (65536 : Int) = ((65536 : Nat) : Int) from rfl, tdivN, u32n _ (by omega), tmodN, u8nat, Nat.mod_mod]
  have c3 : IntKind.u8.wrap (IntKind.u32.wrap ((x.toNat : Int).tdiv 16777216)) = ((UInt8.ofNat (x.toNat / 16777216 % 256)).toNat : Int) := by
    rw [show (16777216 : Int) = ((16777216 : Nat) : Int) from rfl, tdivN, u32n _ (by omega), u8nat]
  refine PC_of_PW Try.func54 rfl rfl (rs := _) rfl (Nat.le_of_ble_eq_true (by kernel_rfl)) ?_
  (repeat (first | ((first | refine qA ?_ | refine qB ?_ | refine xN ?_ | refine xE ?_ | refine xT ?_); try show PW _ _ _ _ _ _) | refine ro1 tabOk rfl rfl ?_ | refine ro2 tabOk rfl rfl ?_ | refine ro3 tabOk rfl rfl ?_ | refine rd1 tabOk rfl rfl ?_ | refine rd2 tabOk rfl rfl ?_ | refine rd3 tabOk rfl rfl ?_ | ((first | apply oR rfl rfl | (apply dF rfl rfl rfl; intro _) | (apply dP rfl rfl rfl; intro _) | (apply dL rfl rfl rfl; intro _) | apply dC rfl rfl rfl rfl); (focus (first | exact PO_rem rfl rfl rfl (by decide) | exact PO_quo rfl rfl rfl (by decide) | exact cJ | exact mG | exact bT | exact nD)); try exact kQ) | refine xS ?_ | refine xR ?_ | refine qxa rfl rfl mixed ?_ | refine qxb rfl rfl mixed ?_ | refine qxc rfl rfl mixed ?_ | refine qxd rfl rfl mixed ?_ | refine xB ?_ | refine xt rfl ?_ | refine xf rfl ?_))
  (first | refine Ret_int (vC vT vN) rfl ?_ | refine Ret_bool (vC vT vN) rfl ?_ | refine Ret_g (vC vT vN) rfl ?_ | refine Ret_int (vC (vA (AG rfl) (SZ rfl) rfl rfl (lB rfl)) vN) rfl ?_ | refine Ret_bool (vC (vA (AG rfl) (SZ rfl) rfl rfl (lB rfl)) vN) rfl ?_ | refine Ret_g (vC (vA (AG rfl) (SZ rfl) rfl rfl (lB rfl)) vN) rfl ?_)
  have hh : GV.sl [.int .u8 (IntKind.u8.wrap ((x.toNat : Int).tmod 256)), .int .u8 (IntKind.u8.wrap ((IntKind.u32.wrap ((x.toNat : Int).tdiv 256)).tmod 256)), .int .u8 (IntKind.u8.wrap ((IntKind.u32.wrap ((x.toNat : Int).tdiv 65536)).tmod 256)), .int .u8 (IntKind.u8.wrap (IntKind.u32.wrap ((x.toNat : Int).tdiv 16777216)))] = .sl (bys (four x)) := by
    rw [c0, c1, c2, c3]; rfl
  exact hh
end Go.Proofs.Ytffpepmfdjjjaaa


namespace Go.Proofs.Ytffpepmfdjjjaaa
open Go.Pure
attribute [local irreducible] PW POps POpsD PO PC Cond

def w64 (x : BitVec 32) : GV := .int .u64 x.toNat
theorem bit_val (c : UInt8) (k : Nat) (hk : k < 8) : IntKind.u64.wrap ((BitVec.ofInt IntKind.u64.bits (IntKind.u64.wrap ((c.toNat : Int).fdiv (2 ^ min ((k : Int)).toNat IntKind.u8.bits))) &&& BitVec.ofInt IntKind.u64.bits 1).toNat : Int) = (((if cbit c k = true then 1 else 0) : Nat) : Int) := by
  have hc := c.toNat_lt
  have e1 : min ((k : Int)).toNat IntKind.u8.bits = k := by
    have : IntKind.u8.bits = 8 := rfl
    rw [this]; omega
  have e2 : (c.toNat : Int).fdiv (2 ^ k) = ((c.toNat / 2 ^ k : Nat) : Int) := by
    have : (2 : Int) ^ k = ((2 ^ k : Nat) : Int) := by push_cast; rfl
    rw [this, fdivN]
  have e3 : c.toNat / 2 ^ k ≤ c.toNat := Nat.div_le_self _ _
  rw [e1, e2, u64mod (c.toNat / 2 ^ k), Nat.mod_eq_of_lt (a := c.toNat / 2 ^ k) (by omega), show (1 : Int) = ((1 : Nat) : Int) from rfl, and_u64 _ _ (by omega) (by decide), Nat.and_one_is_mod]
  have := bit_nat (byB c) k
  rw [byB_nat] at this
  rw [this]
  rfl
theorem top_val (R : BitVec 32) : (R.toNat : Int).fdiv (2 ^ min (31 : Int).toNat IntKind.u64.bits) = (((if R.getLsbD 31 = true then 1 else 0) : Nat) : Int) := by
  have : (2 : Int) ^ min (31 : Int).toNat IntKind.u64.bits = ((2147483648 : Nat) : Int) := by decide
  rw [this, fdivN]
  have h := bit_nat R 31
  have hl := R.isLt
  have e : R.toNat / 2147483648 = R.toNat / 2 ^ 31 % 2 := by
    rw [show (2 : Nat) ^ 31 = 2147483648 from rfl]
    omega
  rw [e, h]
theorem shl_val (R : BitVec 32) : IntKind.u64.wrap ((BitVec.ofInt IntKind.u64.bits (IntKind.u64.wrap ((R.toNat : Int) * 2 ^ min (1 : Int).toNat IntKind.u64.bits)) &&& BitVec.ofInt IntKind.u64.bits 4294967295).toNat : Int) = ((R <<< 1).toNat : Int) := by
  have hl := R.isLt
  have e1 : (2 : Int) ^ min (1 : Int).toNat IntKind.u64.bits = 2 := by decide
  rw [e1, show (R.toNat : Int) * 2 = ((R.toNat * 2 : Nat) : Int) by push_cast; rfl, u64mod (R.toNat * 2), Nat.mod_eq_of_lt (a := R.toNat * 2) (by omega), show (4294967295 : Int) = ((4294967295 : Nat) : Int) from rfl, and_u64 _ _ (by omega) (by decide)]
  have : R.toNat * 2 &&& 4294967295 = R.toNat * 2 % 2 ^ 32 := Nat.and_two_pow_sub_one_eq_mod _ 32
  rw [this, BitVec.toNat_shiftLeft, Nat.shiftLeft_eq]
theorem xor_val (x : BitVec 32) : IntKind.u64.wrap ((BitVec.ofInt IntKind.u64.bits (x.toNat : Int) ^^^ BitVec.ofInt IntKind.u64.bits 79764919).toNat : Int) = ((x ^^^ 0x04c11db7#32).toNat : Int) := by
  have hl := x.isLt
  rw [show (79764919 : Int) = ((79764919 : Nat) : Int) from rfl, xor_u64 _ _ (by omega) (by decide), BitVec.toNat_xor]
  rfl
theorem nought_val (R : BitVec 32) (k : Nat) (hk : k < 32) : IntKind.u64.wrap ((BitVec.ofInt IntKind.u64.bits ((R.toNat : Int).fdiv (2 ^ min ((k : Int)).toNat IntKind.u64.bits)) &&& BitVec.ofInt IntKind.u64.bits 1).toNat : Int) = (((if R.getLsbD k = true then 1 else 0) : Nat) : Int) := by
  have hl := R.isLt
  have e1 : min ((k : Int)).toNat IntKind.u64.bits = k := by
    have : IntKind.u64.bits = 64 := rfl
    rw [this]; omega
  have e2 : (R.toNat : Int).fdiv (2 ^ k) = ((R.toNat / 2 ^ k : Nat) : Int) := by
    have : (2 : Int) ^ k = ((2 ^ k : Nat) : Int) := by push_cast; rfl
    rw [this, fdivN]
  have e3 : R.toNat / 2 ^ k ≤ R.toNat := Nat.div_le_self _ _
  rw [e1, e2, show (1 : Int) = ((1 : Nat) : Int) from rfl, and_u64 _ _ (by omega) (by decide), Nat.and_one_is_mod, bit_nat]
theorem or_val (o : BitVec 32) (k : Nat) (hk : k < 32) : IntKind.u32.wrap ((BitVec.ofInt IntKind.u32.bits (o.toNat : Int) ||| BitVec.ofInt IntKind.u32.bits (IntKind.u32.wrap (1 * 2 ^ min (IntKind.i64.wrap (31 - (k : Int))).toNat IntKind.u32.bits))).toNat : Int) = ((o ||| (1#32 <<< (31 - k))).toNat : Int) := by
  have e1 : min (IntKind.i64.wrap (31 - (k : Int))).toNat IntKind.u32.bits = 31 - k := by
    rw [wrap64 (by omega)]
    have : IntKind.u32.bits = 32 := rfl
    rw [this]; omega
  have hp : 2 ^ (31 - k) ≤ 2 ^ 31 := Nat.pow_le_pow_right (by decide) (by omega)
  have e2 : (1 : Int) * 2 ^ (31 - k) = ((2 ^ (31 - k) : Nat) : Int) := by push_cast; omega
  rw [e1, e2, u32n (2 ^ (31 - k)) (by omega)]
  show IntKind.u32.wrap ((BitVec.ofInt 32 (o.toNat : Int) ||| BitVec.ofInt 32 ((2 ^ (31 - k) : Nat) : Int)).toNat : Int) = _
  rw [BitVec.ofInt_natCast, BitVec.ofInt_natCast, wrapU32]
  congr 2
  have : BitVec.ofNat 32 o.toNat = o := by simp
  rw [this]
  congr 1
  apply BitVec.eq_of_toNat_eq
  rw [BitVec.toNat_shiftLeft, BitVec.toNat_ofNat]
  simp [Nat.shiftLeft_eq]

set_option maxRecDepth 100000 in
set_option maxHeartbeats 8000000 in
theorem sum_ref (l : List UInt8) (hl : l.length ≤ 9223372036854775807) : PC Try.prog 20 [.g (.sl (bys l))] ⟨[], [], []⟩ (.g (w32 (sumB l))) ⟨[], [], []⟩ := by
  refine PC_of_PW Try.func20 rfl rfl (rs := _) rfl (Nat.le_of_ble_eq_true (by kernel_rfl)) ?_
  (repeat (first | ((first | refine qA ?_ | refine qB ?_ | refine xN ?_ | refine xE ?_ | refine xT ?_); try show PW _ _ _ _ _ _) | refine ro1 tabOk rfl rfl ?_ | refine ro2 tabOk rfl rfl ?_ | refine ro3 tabOk rfl rfl ?_ | refine rd1 tabOk rfl rfl ?_ | refine rd2 tabOk rfl rfl ?_ | refine rd3 tabOk rfl rfl ?_ | ((first | apply oR rfl rfl | (apply dF rfl rfl rfl; intro _) | (apply dP rfl rfl rfl; intro _) | (apply dL rfl rfl rfl; intro _) | apply dC rfl rfl rfl rfl); (focus (first | exact cJ | exact mG | exact bT | exact nD)); try exact kQ) | refine xS ?_ | refine xR ?_ | refine qxa rfl rfl mixed ?_ | refine qxb rfl rfl mixed ?_ | refine qxc rfl rfl mixed ?_ | refine qxd rfl rfl mixed ?_ | refine xB ?_ | refine xt rfl ?_ | refine xf rfl ?_))
  refine PW_loop (S := Nat) (fun i => slots [(11, .g (.sl (bys l))), (12, .g (.int .i64 l.length)), (13, .g (.int .i64 i)), (3, .g (w64 (rsum 0xffffffff#32 (l.take i))))]) (fun _ => ⟨[], [], []⟩) (fun i => i ≤ l.length) (fun i => l.length - i) 0 (Nat.zero_le _) (SlotsOk.le ⟨.inl rfl, .inl (by simp [bys]; rfl), .inl rfl, .inl rfl, trivial⟩) (HLe.refl _) (fun i hi => ?_)
  (repeat (first | ((first | refine qA ?_ | refine qB ?_ | refine xN ?_ | refine xE ?_ | refine xT ?_); try show PW _ _ _ _ _ _) | refine ro1 tabOk rfl rfl ?_ | refine ro2 tabOk rfl rfl ?_ | refine ro3 tabOk rfl rfl ?_ | refine rd1 tabOk rfl rfl ?_ | refine rd2 tabOk rfl rfl ?_ | refine rd3 tabOk rfl rfl ?_ | ((first | apply oR rfl rfl | (apply dF rfl rfl rfl; intro _) | (apply dP rfl rfl rfl; intro _) | (apply dL rfl rfl rfl; intro _) | apply dC rfl rfl rfl rfl); (focus (first | exact cJ | exact mG | exact bT | exact nD)); try exact kQ) | refine xS ?_ | refine xR ?_ | refine qxa rfl rfl mixed ?_ | refine qxb rfl rfl mixed ?_ | refine qxc rfl rfl mixed ?_ | refine qxd rfl rfl mixed ?_ | refine xB ?_ | refine xt rfl ?_ | refine xf rfl ?_))
  (first | refine POps_split rfl rfl (fun h => ?_) (fun h => ?_) | refine POpsD_split rfl rfl (fun h => ?_) (fun h => ?_) | refine PW_cond rfl (fun h => ?_) (fun h => ?_))
  · have hlt : i < l.length := by have := of_decide_eq_true h; omega
    have hg := bys_get hlt
    (repeat (first | ((first | refine qA ?_ | refine qB ?_ | refine xN ?_ | refine xE ?_ | refine xT ?_); try show PW _ _ _ _ _ _) | refine ro1 tabOk rfl rfl ?_ | refine ro2 tabOk rfl rfl ?_ | refine ro3 tabOk rfl rfl ?_ | refine rd1 tabOk rfl rfl ?_ | refine rd2 tabOk rfl rfl ?_ | refine rd3 tabOk rfl rfl ?_ | ((first | apply oR rfl rfl | (apply dF rfl rfl rfl; intro _) | (apply dP rfl rfl rfl; intro _) | (apply dL rfl rfl rfl; intro _) | apply dC rfl rfl rfl rfl); (focus (first | exact iA rfl (EL rfl) (SZ rfl) rfl rfl (Int.natCast_nonneg _) hg rfl | exact cJ | exact mG | exact bT | exact nD)); try exact kQ) | refine xS ?_ | refine xR ?_ | refine qxa rfl rfl mixed ?_ | refine qxb rfl rfl mixed ?_ | refine qxc rfl rfl mixed ?_ | refine qxd rfl rfl mixed ?_ | refine xB ?_ | refine xt rfl ?_ | refine xf rfl ?_))
    refine PW_loop (S := Nat) (fun k => slots [(11, .g (.sl (bys l))), (12, .g (.int .i64 l.length)), (13, .g (.int .i64 i)), (5, .g (byteG l[i])), (6, .g (.int .i64 k)), (3, .g (w64 (rrun (rsum 0xffffffff#32 (l.take i)) l[i] k)))]) (fun _ => ⟨[], [], []⟩) (fun k => k ≤ 8) (fun k => 8 - k) 0 (Nat.zero_le _) (SlotsOk.le ⟨.inl rfl, .inl rfl, .inl rfl, .inl rfl, .inl rfl, .inl rfl, trivial⟩) (HLe.refl _) (fun k hk => ?_)
    (repeat (first | ((first | refine qA ?_ | refine qB ?_ | refine xN ?_ | refine xE ?_ | refine xT ?_); try show PW _ _ _ _ _ _) | refine ro1 tabOk rfl rfl ?_ | refine ro2 tabOk rfl rfl ?_ | refine ro3 tabOk rfl rfl ?_ | refine rd1 tabOk rfl rfl ?_ | refine rd2 tabOk rfl rfl ?_ | refine rd3 tabOk rfl rfl ?_ | ((first | apply oR rfl rfl | (apply dF rfl rfl rfl; intro _) | (apply dP rfl rfl rfl; intro _) | (apply dL rfl rfl rfl; intro _) | apply dC rfl rfl rfl rfl); (focus (first | exact cJ | exact mG | exact bT | exact nD)); try exact kQ) | refine xS ?_ | refine xR ?_ | refine qxa rfl rfl mixed ?_ | refine qxb rfl rfl mixed ?_ | refine qxc rfl rfl mixed ?_ | refine qxd rfl rfl mixed ?_ | refine xB ?_ | refine xt rfl ?_ | refine xf rfl ?_))
    (first | refine POps_split rfl rfl (fun h => ?_) (fun h => ?_) | refine POpsD_split rfl rfl (fun h => ?_) (fun h => ?_) | refine PW_cond rfl (fun h => ?_) (fun h => ?_))
    · have hk8 : k < 8 := by have := of_decide_eq_true h; omega
      have hst : rrun (rsum 0xffffffff#32 (l.take i)) l[i] (k + 1) = rstep (rrun (rsum 0xffffffff#32 (l.take i)) l[i] k) (cbit l[i] k) := rfl
      have b1 := bit_val l[i] k hk8
      have b2 := top_val (rrun (rsum 0xffffffff#32 (l.take i)) l[i] k)
      have b3 := shl_val (rrun (rsum 0xffffffff#32 (l.take i)) l[i] k)
      (repeat (first | ((first | refine qA ?_ | refine qB ?_ | refine xN ?_ | refine xE ?_ | refine xT ?_); try show PW _ _ _ _ _ _) | refine ro1 tabOk rfl rfl ?_ | refine ro2 tabOk rfl rfl ?_ | refine ro3 tabOk rfl rfl ?_ | refine rd1 tabOk rfl rfl ?_ | refine rd2 tabOk rfl rfl ?_ | refine rd3 tabOk rfl rfl ?_ | ((first | apply oR rfl rfl | (apply dF rfl rfl rfl; intro _) | (apply dP rfl rfl rfl; intro _) | (apply dL rfl rfl rfl; intro _) | apply dC rfl rfl rfl rfl); (focus (first | exact PO_shr rfl rfl rfl (Int.natCast_nonneg _) | exact PO_shr rfl rfl rfl (by decide) | exact PO_shl rfl rfl rfl (by decide) | exact cJ | exact mG | exact bT | exact nD)); try exact kQ) | refine xS ?_ | refine xR ?_ | refine qxa rfl rfl mixed ?_ | refine qxb rfl rfl mixed ?_ | refine qxc rfl rfl mixed ?_ | refine qxd rfl rfl mixed ?_ | refine xB ?_ | refine xt rfl ?_ | refine xf rfl ?_))
      (first | refine POps_split rfl rfl (fun h => ?_) (fun h => ?_) | refine POpsD_split rfl rfl (fun h => ?_) (fun h => ?_) | refine PW_cond rfl (fun h => ?_) (fun h => ?_))
      · have hd : ((rrun (rsum 0xffffffff#32 (l.take i)) l[i] k).getLsbD 31 != cbit l[i] k) = true := by
          have h' := h
          rw [b1, b2] at h'
          revert h'
          cases (rrun (rsum 0xffffffff#32 (l.take i)) l[i] k).getLsbD 31 <;> cases cbit l[i] k <;> simp
        unfold rstep at hst
        rw [if_pos hd] at hst
        have b4 := xor_val ((rrun (rsum 0xffffffff#32 (l.take i)) l[i] k) <<< 1)
        rw [← b3] at b4
        (repeat (first | ((first | refine qA ?_ | refine qB ?_ | refine xN ?_ | refine xE ?_ | refine xT ?_); try show PW _ _ _ _ _ _) | refine ro1 tabOk rfl rfl ?_ | refine ro2 tabOk rfl rfl ?_ | refine ro3 tabOk rfl rfl ?_ | refine rd1 tabOk rfl rfl ?_ | refine rd2 tabOk rfl rfl ?_ | refine rd3 tabOk rfl rfl ?_ | ((first | apply oR rfl rfl | (apply dF rfl rfl rfl; intro _) | (apply dP rfl rfl rfl; intro _) | (apply dL rfl rfl rfl; intro _) | apply dC rfl rfl rfl rfl); (focus (first | exact cJ | exact mG | exact bT | exact nD)); try exact kQ) | refine xS ?_ | refine xR ?_ | refine qxa rfl rfl mixed ?_ | refine qxb rfl rfl mixed ?_ | refine qxc rfl rfl mixed ?_ | refine qxd rfl rfl mixed ?_ | refine xB ?_ | refine xt rfl ?_ | refine xf rfl ?_))
        refine ⟨k + 1, hk8, by omega, SlotsOk.le ⟨.inl rfl, .inl rfl, .inl rfl, .inl rfl, .inl (congrArg (fun x => PV.g (.int .i64 x)) (wrap64 (by omega))), .inl (by rw [hst]; exact congrArg (fun x => PV.g (.int .u64 x)) b4), trivial⟩, HLe.refl _⟩
      · have hd : ¬ ((rrun (rsum 0xffffffff#32 (l.take i)) l[i] k).getLsbD 31 != cbit l[i] k) = true := by
          have h' := h
          rw [b1, b2] at h'
          revert h'
          cases (rrun (rsum 0xffffffff#32 (l.take i)) l[i] k).getLsbD 31 <;> cases cbit l[i] k <;> simp
        unfold rstep at hst
        rw [if_neg hd] at hst
        (repeat (first | ((first | refine qA ?_ | refine qB ?_ | refine xN ?_ | refine xE ?_ | refine xT ?_); try show PW _ _ _ _ _ _) | refine ro1 tabOk rfl rfl ?_ | refine ro2 tabOk rfl rfl ?_ | refine ro3 tabOk rfl rfl ?_ | refine rd1 tabOk rfl rfl ?_ | refine rd2 tabOk rfl rfl ?_ | refine rd3 tabOk rfl rfl ?_ | ((first | apply oR rfl rfl | (apply dF rfl rfl rfl; intro _) | (apply dP rfl rfl rfl; intro _) | (apply dL rfl rfl rfl; intro _) | apply dC rfl rfl rfl rfl); (focus (first | exact cJ | exact mG | exact bT | exact nD)); try exact kQ) | refine xS ?_ | refine xR ?_ | refine qxa rfl rfl mixed ?_ | refine qxb rfl rfl mixed ?_ | refine qxc rfl rfl mixed ?_ | refine qxd rfl rfl mixed ?_ | refine xB ?_ | refine xt rfl ?_ | refine xf rfl ?_))
        refine ⟨k + 1, hk8, by omega, SlotsOk.le ⟨.inl rfl, .inl rfl, .inl rfl, .inl rfl, .inl (congrArg (fun x => PV.g (.int .i64 x)) (wrap64 (by omega))), .inl (by rw [hst]; exact congrArg (fun x => PV.g (.int .u64 x)) b3), trivial⟩, HLe.refl _⟩
    · have hk8 : k = 8 := by have := of_decide_eq_false h; omega
      subst hk8
      (repeat (first | ((first | refine qA ?_ | refine qB ?_ | refine xN ?_ | refine xE ?_ | refine xT ?_); try show PW _ _ _ _ _ _) | refine ro1 tabOk rfl rfl ?_ | refine ro2 tabOk rfl rfl ?_ | refine ro3 tabOk rfl rfl ?_ | refine rd1 tabOk rfl rfl ?_ | refine rd2 tabOk rfl rfl ?_ | refine rd3 tabOk rfl rfl ?_ | ((first | apply oR rfl rfl | (apply dF rfl rfl rfl; intro _) | (apply dP rfl rfl rfl; intro _) | (apply dL rfl rfl rfl; intro _) | apply dC rfl rfl rfl rfl); (focus (first | exact cJ | exact mG | exact bT | exact nD)); try exact kQ) | refine xS ?_ | refine xR ?_ | refine qxa rfl rfl mixed ?_ | refine qxb rfl rfl mixed ?_ | refine qxc rfl rfl mixed ?_ | refine qxd rfl rfl mixed ?_ | refine xB ?_ | refine xt rfl ?_ | refine xf rfl ?_))
      refine ⟨i + 1, hlt, by omega, SlotsOk.le ⟨.inl rfl, .inl rfl, .inl (congrArg (fun x => PV.g (.int .i64 x)) (wrap64 (by omega))), .inl (congrArg (fun x => PV.g (w64 x)) (rsum_take hlt).symm), trivial⟩, HLe.refl _⟩
  · have hi' : i = l.length := by have := of_decide_eq_false h; omega
    subst hi'
    rw [List.take_length]
    have hout := sum_turned l
    generalize rsum 0xffffffff#32 l = R at hout
    (repeat (first | ((first | refine qA ?_ | refine qB ?_ | refine xN ?_ | refine xE ?_ | refine xT ?_); try show PW _ _ _ _ _ _) | refine ro1 tabOk rfl rfl ?_ | refine ro2 tabOk rfl rfl ?_ | refine ro3 tabOk rfl rfl ?_ | refine rd1 tabOk rfl rfl ?_ | refine rd2 tabOk rfl rfl ?_ | refine rd3 tabOk rfl rfl ?_ | ((first | apply oR rfl rfl | (apply dF rfl rfl rfl; intro _) | (apply dP rfl rfl rfl; intro _) | (apply dL rfl rfl rfl; intro _) | apply dC rfl rfl rfl rfl); (focus (first | exact cJ | exact mG | exact bT | exact nD)); try exact kQ) | refine xS ?_ | refine xR ?_ | refine qxa rfl rfl mixed ?_ | refine qxb rfl rfl mixed ?_ | refine qxc rfl rfl mixed ?_ | refine qxd rfl rfl mixed ?_ | refine xB ?_ | refine xt rfl ?_ | refine xf rfl ?_))
    refine PW_loop (S := Nat) (fun k => slots [(3, .g (w64 R)), (9, .g (w32 (outR R k))), (10, .g (.int .i64 k))]) (fun _ => ⟨[], [], []⟩) (fun k => k ≤ 32) (fun k => 32 - k) 0 (Nat.zero_le _) (SlotsOk.le ⟨.inl rfl, .inl rfl, .inl rfl, trivial⟩) (HLe.refl _) (fun k hk => ?_)
    (repeat (first | ((first | refine qA ?_ | refine qB ?_ | refine xN ?_ | refine xE ?_ | refine xT ?_); try show PW _ _ _ _ _ _) | refine ro1 tabOk rfl rfl ?_ | refine ro2 tabOk rfl rfl ?_ | refine ro3 tabOk rfl rfl ?_ | refine rd1 tabOk rfl rfl ?_ | refine rd2 tabOk rfl rfl ?_ | refine rd3 tabOk rfl rfl ?_ | ((first | apply oR rfl rfl | (apply dF rfl rfl rfl; intro _) | (apply dP rfl rfl rfl; intro _) | (apply dL rfl rfl rfl; intro _) | apply dC rfl rfl rfl rfl); (focus (first | exact cJ | exact mG | exact bT | exact nD)); try exact kQ) | refine xS ?_ | refine xR ?_ | refine qxa rfl rfl mixed ?_ | refine qxb rfl rfl mixed ?_ | refine qxc rfl rfl mixed ?_ | refine qxd rfl rfl mixed ?_ | refine xB ?_ | refine xt rfl ?_ | refine xf rfl ?_))
    (first | refine POps_split rfl rfl (fun h => ?_) (fun h => ?_) | refine POpsD_split rfl rfl (fun h => ?_) (fun h => ?_) | refine PW_cond rfl (fun h => ?_) (fun h => ?_))
    · have hk8 : k < 32 := by have := of_decide_eq_true h; omega
      have n1 := nought_val R k hk8
      have n2 := or_val (outR R k) k hk8
      (repeat (first | ((first | refine qA ?_ | refine qB ?_ | refine xN ?_ | refine xE ?_ | refine xT ?_); try show PW _ _ _ _ _ _) | refine ro1 tabOk rfl rfl ?_ | refine ro2 tabOk rfl rfl ?_ | refine ro3 tabOk rfl rfl ?_ | refine rd1 tabOk rfl rfl ?_ | refine rd2 tabOk rfl rfl ?_ | refine rd3 tabOk rfl rfl ?_ | ((first | apply oR rfl rfl | (apply dF rfl rfl rfl; intro _) | (apply dP rfl rfl rfl; intro _) | (apply dL rfl rfl rfl; intro _) | apply dC rfl rfl rfl rfl); (focus (first | exact PO_shr rfl rfl rfl (Int.natCast_nonneg _) | exact cJ | exact mG | exact bT | exact nD)); try exact kQ) | refine xS ?_ | refine xR ?_ | refine qxa rfl rfl mixed ?_ | refine qxb rfl rfl mixed ?_ | refine qxc rfl rfl mixed ?_ | refine qxd rfl rfl mixed ?_ | refine xB ?_ | refine xt rfl ?_ | refine xf rfl ?_))
      (first | refine POps_split rfl rfl (fun h => ?_) (fun h => ?_) | refine POpsD_split rfl rfl (fun h => ?_) (fun h => ?_) | refine PW_cond rfl (fun h => ?_) (fun h => ?_))
      · have hd : R.getLsbD k = false := by
          have h' := h
          rw [n1] at h'
          revert h'
          cases R.getLsbD k <;> simp
        (repeat (first | ((first | refine qA ?_ | refine qB ?_ | refine xN ?_ | refine xE ?_ | refine xT ?_); try show PW _ _ _ _ _ _) | refine ro1 tabOk rfl rfl ?_ | refine ro2 tabOk rfl rfl ?_ | refine ro3 tabOk rfl rfl ?_ | refine rd1 tabOk rfl rfl ?_ | refine rd2 tabOk rfl rfl ?_ | refine rd3 tabOk rfl rfl ?_ | ((first | apply oR rfl rfl | (apply dF rfl rfl rfl; intro _) | (apply dP rfl rfl rfl; intro _) | (apply dL rfl rfl rfl; intro _) | apply dC rfl rfl rfl rfl); (focus (first | exact PO_shl rfl rfl rfl (by rw [wrap64 (by omega)]; omega) | exact cJ | exact mG | exact bT | exact nD)); try exact kQ) | refine xS ?_ | refine xR ?_ | refine qxa rfl rfl mixed ?_ | refine qxb rfl rfl mixed ?_ | refine qxc rfl rfl mixed ?_ | refine qxd rfl rfl mixed ?_ | refine xB ?_ | refine xt rfl ?_ | refine xf rfl ?_))
        refine ⟨k + 1, hk8, by omega, SlotsOk.le ⟨.inl rfl, .inl (by rw [outR, if_pos hd]; exact congrArg (fun x => PV.g (.int .u32 x)) n2), .inl (congrArg (fun x => PV.g (.int .i64 x)) (wrap64 (by omega))), trivial⟩, HLe.refl _⟩
      · have hd : ¬ R.getLsbD k = false := by
          have h' := h
          rw [n1] at h'
          revert h'
          cases R.getLsbD k <;> simp
        (repeat (first | ((first | refine qA ?_ | refine qB ?_ | refine xN ?_ | refine xE ?_ | refine xT ?_); try show PW _ _ _ _ _ _) | refine ro1 tabOk rfl rfl ?_ | refine ro2 tabOk rfl rfl ?_ | refine ro3 tabOk rfl rfl ?_ | refine rd1 tabOk rfl rfl ?_ | refine rd2 tabOk rfl rfl ?_ | refine rd3 tabOk rfl rfl ?_ | ((first | apply oR rfl rfl | (apply dF rfl rfl rfl; intro _) | (apply dP rfl rfl rfl; intro _) | (apply dL rfl rfl rfl; intro _) | apply dC rfl rfl rfl rfl); (focus (first | exact cJ | exact mG | exact bT | exact nD)); try exact kQ) | refine xS ?_ | refine xR ?_ | refine qxa rfl rfl mixed ?_ | refine qxb rfl rfl mixed ?_ | refine qxc rfl rfl mixed ?_ | refine qxd rfl rfl mixed ?_ | refine xB ?_ | refine xt rfl ?_ | refine xf rfl ?_))
        refine ⟨k + 1, hk8, by omega, SlotsOk.le ⟨.inl rfl, .inl (by rw [outR, if_neg hd]; rfl), .inl (congrArg (fun x => PV.g (.int .i64 x)) (wrap64 (by omega))), trivial⟩, HLe.refl _⟩
    · have hk8 : k = 32 := by have := of_decide_eq_false h; omega
      subst hk8
      (repeat (first | ((first | refine qA ?_ | refine qB ?_ | refine xN ?_ | refine xE ?_ | refine xT ?_); try show PW _ _ _ _ _ _) | refine ro1 tabOk rfl rfl ?_ | refine ro2 tabOk rfl rfl ?_ | refine ro3 tabOk rfl rfl ?_ | refine rd1 tabOk rfl rfl ?_ | refine rd2 tabOk rfl rfl ?_ | refine rd3 tabOk rfl rfl ?_ | ((first | apply oR rfl rfl | (apply dF rfl rfl rfl; intro _) | (apply dP rfl rfl rfl; intro _) | (apply dL rfl rfl rfl; intro _) | apply dC rfl rfl rfl rfl); (focus (first | exact cJ | exact mG | exact bT | exact nD)); try exact kQ) | refine xS ?_ | refine xR ?_ | refine qxa rfl rfl mixed ?_ | refine qxb rfl rfl mixed ?_ | refine qxc rfl rfl mixed ?_ | refine qxd rfl rfl mixed ?_ | refine xB ?_ | refine xt rfl ?_ | refine xf rfl ?_))
      (first | refine Ret_int (vC vT vN) rfl ?_ | refine Ret_bool (vC vT vN) rfl ?_ | refine Ret_g (vC vT vN) rfl ?_ | refine Ret_int (vC (vA (AG rfl) (SZ rfl) rfl rfl (lB rfl)) vN) rfl ?_ | refine Ret_bool (vC (vA (AG rfl) (SZ rfl) rfl rfl (lB rfl)) vN) rfl ?_ | refine Ret_g (vC (vA (AG rfl) (SZ rfl) rfl rfl (lB rfl)) vN) rfl ?_)
      rw [hout]
end Go.Proofs.Ytffpepmfdjjjaaa


namespace Go.Proofs.Ytffpepmfdjjjaaa
open Go.Pure
attribute [local irreducible] PW POps POpsD PO PC Cond

def cntH (n : Int) : PH := ⟨[[.g (.int .i64 n)]], [], []⟩
set_option maxRecDepth 100000 in
set_option maxHeartbeats 8000000 in
theorem look_ref : ∀ (m : Nat) (t : Tr) (d n : Int), SizeOf.sizeOf t ≤ m → (0 ≤ n ∧ n ≤ 5000) → (0 ≤ d ∧ d ≤ 41) → t.ok →
    PC Try.prog 51 [.ptr 0 0, .g t.g, .g (.int .i64 d)] (cntH n) (.g (.int .i64 (look d n t).1)) (cntH (look d n t).2)
  | 0, t, d, n, hm, _, _, _ => by cases t; simp at hm
  | m + 1, .mk tag tn text kids, d, n, hm, hn, hd, hk => by
    have hw := wrap64 (n := n + 1) (by omega)
    simp only [Tr.ok, maxLen] at hk
    refine PC_of_PW Try.func51 rfl rfl (rs := _) rfl (Nat.le_of_ble_eq_true (by kernel_rfl)) ?_
    (repeat' (first | (first | ((first | refine qA ?_ | refine qB ?_ | refine xN ?_ | refine xE ?_ | refine xT ?_); try show PW _ _ _ _ _ _) | refine ro1 tabOk rfl rfl ?_ | refine ro2 tabOk rfl rfl ?_ | refine ro3 tabOk rfl rfl ?_ | refine rd1 tabOk rfl rfl ?_ | refine rd2 tabOk rfl rfl ?_ | refine rd3 tabOk rfl rfl ?_ | ((first | apply oR rfl rfl | (apply dF rfl rfl rfl; intro _) | (apply dP rfl rfl rfl; intro _) | (apply dL rfl rfl rfl; intro _) | apply dC rfl rfl rfl rfl); (focus (first | exact cJ | exact mG | exact bT | exact nD)); try exact kQ) | refine xU [6] rfl ?_ | refine xR ?_ | refine qxa rfl rfl mixed ?_ | refine qxb rfl rfl mixed ?_ | refine qxc rfl rfl mixed ?_ | refine qxd rfl rfl mixed ?_ | refine xB ?_ | refine xt rfl ?_ | refine xf rfl ?_) | (refine POps_split rfl rfl (fun h => ?_) (fun h => ?_) <;> fail_if_success (first | (have : true = true := h) | (have : false = false := h))) | (refine POpsD_split rfl rfl (fun h => ?_) (fun h => ?_) <;> fail_if_success (first | (have : true = true := h) | (have : false = false := h))) | refine PW_cond rfl (fun h => ?_) (fun h => ?_)))
    · have h5 : 5000 < n + 1 := by have := of_decide_eq_true h; rw [hw] at this; exact this
      (first | refine Ret_box (wC vT wN) rfl rfl rfl rfl rfl rfl rfl rfl rfl ?_ ?_ ?_ rfl | refine Ret_box (wC (vA (AG rfl) (SZ rfl) rfl rfl (lB rfl)) wN) rfl rfl rfl rfl rfl rfl rfl rfl rfl ?_ ?_ ?_ rfl | refine Ret_box (wC vT (wC vT wN)) rfl rfl rfl rfl rfl rfl rfl rfl rfl ?_ ?_ ?_ rfl | refine Ret_box (wC (vA (AG rfl) (SZ rfl) rfl rfl (lB rfl)) (wC vT wN)) rfl rfl rfl rfl rfl rfl rfl rfl rfl ?_ ?_ ?_ rfl)
      · simp [look, h5, constG]
      · simp [look, h5, cntH, hw]
      · rfl
    · rename_i q
      have h5 : ¬ 5000 < n + 1 := by have := of_decide_eq_false q; rw [hw] at this; exact this
      have h6 : 40 < d := of_decide_eq_true h
      (first | refine Ret_box (wC vT wN) rfl rfl rfl rfl rfl rfl rfl rfl rfl ?_ ?_ ?_ rfl | refine Ret_box (wC (vA (AG rfl) (SZ rfl) rfl rfl (lB rfl)) wN) rfl rfl rfl rfl rfl rfl rfl rfl rfl ?_ ?_ ?_ rfl | refine Ret_box (wC vT (wC vT wN)) rfl rfl rfl rfl rfl rfl rfl rfl rfl ?_ ?_ ?_ rfl | refine Ret_box (wC (vA (AG rfl) (SZ rfl) rfl rfl (lB rfl)) (wC vT wN)) rfl rfl rfl rfl rfl rfl rfl rfl rfl ?_ ?_ ?_ rfl)
      · simp [look, h6, constG]
      · simp [look, h6, cntH, hw]
      · rfl
    · rename_i q1 q2
      have h5 : ¬ 5000 < n + 1 := by have := of_decide_eq_false q1; rw [hw] at this; exact this
      have h6 : ¬ 40 < d := of_decide_eq_false q2
      have h7 : tag < 0 := of_decide_eq_true h
      (first | refine Ret_box (wC vT wN) rfl rfl rfl rfl rfl rfl rfl rfl rfl ?_ ?_ ?_ rfl | refine Ret_box (wC (vA (AG rfl) (SZ rfl) rfl rfl (lB rfl)) wN) rfl rfl rfl rfl rfl rfl rfl rfl rfl ?_ ?_ ?_ rfl | refine Ret_box (wC vT (wC vT wN)) rfl rfl rfl rfl rfl rfl rfl rfl rfl ?_ ?_ ?_ rfl | refine Ret_box (wC (vA (AG rfl) (SZ rfl) rfl rfl (lB rfl)) (wC vT wN)) rfl rfl rfl rfl rfl rfl rfl rfl rfl ?_ ?_ ?_ rfl)
      · simp [look, h5, h6, h7, constG]
      · simp [look, h5, h6, h7, cntH, hw]
      · rfl
    · rename_i q1 q2 q3
      have h5 : ¬ 5000 < n + 1 := by have := of_decide_eq_false q1; rw [hw] at this; exact this
      have h6 : ¬ 40 < d := of_decide_eq_false q2
      have h7 : ¬ tag < 0 := of_decide_eq_false q3
      have h8 : 255 < tag := of_decide_eq_true h
      (first | refine Ret_box (wC vT wN) rfl rfl rfl rfl rfl rfl rfl rfl rfl ?_ ?_ ?_ rfl | refine Ret_box (wC (vA (AG rfl) (SZ rfl) rfl rfl (lB rfl)) wN) rfl rfl rfl rfl rfl rfl rfl rfl rfl ?_ ?_ ?_ rfl | refine Ret_box (wC vT (wC vT wN)) rfl rfl rfl rfl rfl rfl rfl rfl rfl ?_ ?_ ?_ rfl | refine Ret_box (wC (vA (AG rfl) (SZ rfl) rfl rfl (lB rfl)) (wC vT wN)) rfl rfl rfl rfl rfl rfl rfl rfl rfl ?_ ?_ ?_ rfl)
      · simp [look, h5, h6, h8, constG]
      · simp [look, h5, h6, h8, cntH, hw]
      · rfl
    · rename_i q1 q2 q3
      have h5 : ¬ 5000 < n + 1 := by have := of_decide_eq_false q1; rw [hw] at this; exact this
      have h6 : ¬ 40 < d := of_decide_eq_false q2
      have h7 : ¬ tag < 0 := of_decide_eq_false q3
      have h8 : ¬ 255 < tag := of_decide_eq_false h
      have hlook : look d n (.mk tag tn text kids) = looks (d + 1) (n + 1) kids := by simp [look, h5, h6, h7, h8]
      clear h q1 q2 q3
      (repeat (first | ((first | refine qA ?_ | refine qB ?_ | refine xN ?_ | refine xE ?_ | refine xT ?_); try show PW _ _ _ _ _ _) | refine ro1 tabOk rfl rfl ?_ | refine ro2 tabOk rfl rfl ?_ | refine ro3 tabOk rfl rfl ?_ | refine rd1 tabOk rfl rfl ?_ | refine rd2 tabOk rfl rfl ?_ | refine rd3 tabOk rfl rfl ?_ | ((first | apply oR rfl rfl | (apply dF rfl rfl rfl; intro _) | (apply dP rfl rfl rfl; intro _) | (apply dL rfl rfl rfl; intro _) | apply dC rfl rfl rfl rfl); (focus (first | exact cJ | exact mG | exact bT | exact nD)); try exact kQ) | refine xS ?_ | refine xR ?_ | refine qxa rfl rfl mixed ?_ | refine qxb rfl rfl mixed ?_ | refine qxc rfl rfl mixed ?_ | refine qxd rfl rfl mixed ?_ | refine xB ?_ | refine xt rfl ?_ | refine xf rfl ?_))
      refine PW_loop_cut (S := Nat × Int) (fun s => [(0, .ptr 0 0), (2, .g (.int .i64 d)), (35, .g (.sl (Tr.gs kids))), (36, .g (.int .i64 kids.length)), (37, .g (.int .i64 s.1))])
        (fun s => ⟨[[.g (.int .i64 s.2)], [.g (.int .i64 tag), .g (.int .i64 tn), .g (.str text), .g (.sl (Tr.gs kids))]], [], []⟩)
        (fun s => s.1 ≤ kids.length ∧ (0 ≤ s.2 ∧ s.2 ≤ 5000) ∧ looks (d + 1) s.2 (kids.drop s.1) = looks (d + 1) (n + 1) kids) (fun s => kids.length - s.1) (0, n + 1) ⟨Nat.zero_le _, by omega, rfl⟩
        (SlotsOk.le ⟨.inl rfl, .inl rfl, .inl rfl, .inl (congrArg (fun k : Nat => PV.g (.int .i64 k)) (gs_len kids)), .inl rfl, trivial⟩) (HLe.of_eq (congrArg (fun z => (⟨[[.g (.int .i64 z)], _], [], []⟩ : PH)) hw)) (fun _ => rfl) (fun s hs => ?_)
      obtain ⟨i, n1⟩ := s
      obtain ⟨hi, hn1, hl⟩ := hs
      dsimp only at hi hn1 hl
      (repeat (first | ((first | refine qA ?_ | refine qB ?_ | refine xN ?_ | refine xE ?_ | refine xT ?_); try show PW _ _ _ _ _ _) | refine ro1 tabOk rfl rfl ?_ | refine ro2 tabOk rfl rfl ?_ | refine ro3 tabOk rfl rfl ?_ | refine rd1 tabOk rfl rfl ?_ | refine rd2 tabOk rfl rfl ?_ | refine rd3 tabOk rfl rfl ?_ | ((first | apply oR rfl rfl | (apply dF rfl rfl rfl; intro _) | (apply dP rfl rfl rfl; intro _) | (apply dL rfl rfl rfl; intro _) | apply dC rfl rfl rfl rfl); (focus (first | exact cJ | exact mG | exact bT | exact nD)); try exact kQ) | refine xS ?_ | refine xR ?_ | refine qxa rfl rfl mixed ?_ | refine qxb rfl rfl mixed ?_ | refine qxc rfl rfl mixed ?_ | refine qxd rfl rfl mixed ?_ | refine xB ?_ | refine xt rfl ?_ | refine xf rfl ?_))
      (first | refine POps_split rfl rfl (fun h => ?_) (fun h => ?_) | refine POpsD_split rfl rfl (fun h => ?_) (fun h => ?_) | refine PW_cond rfl (fun h => ?_) (fun h => ?_))
      · have hlt : i < kids.length := by have := of_decide_eq_true h; dsimp only at this; omega
        have hg := gs_get hlt
        have hdr : kids.drop i = kids[i] :: kids.drop (i + 1) := List.drop_eq_getElem_cons hlt
        have hsz := kid_size hlt tag tn text
        have hI := look_ref m kids[i] (d + 1) n1 (by omega) hn1 (by omega) (oks_get hlt hk.2)
        rw [← wrap64 (n := d + 1) (by omega)] at hI
        generalize hkid : kids[i] = kid at hg hI hdr
        rw [wrap64 (n := d + 1) (by omega)] at hI
        obtain ⟨ta, tb, tc, td⟩ := kid
        have hI' : PC Try.prog 51 [.ptr 0 0, .g (Tr.mk ta tb tc td).g, .g (.int .i64 (IntKind.i64.wrap (d + 1)))] (cntH n1) (.g (.int .i64 (look (d + 1) n1 (.mk ta tb tc td)).1)) (cntH (look (d + 1) n1 (.mk ta tb tc td)).2) := by
          rw [wrap64 (by omega)]; exact hI
        (repeat (first | ((first | refine qA ?_ | refine qB ?_ | refine xN ?_ | refine xE ?_ | refine xT ?_); try show PW _ _ _ _ _ _) | refine ro1 tabOk rfl rfl ?_ | refine ro2 tabOk rfl rfl ?_ | refine ro3 tabOk rfl rfl ?_ | refine rd1 tabOk rfl rfl ?_ | refine rd2 tabOk rfl rfl ?_ | refine rd3 tabOk rfl rfl ?_ | ((first | apply oR rfl rfl | (apply dF rfl rfl rfl; intro _) | (apply dP rfl rfl rfl; intro _) | (apply dL rfl rfl rfl; intro _) | apply dC rfl rfl rfl rfl); (focus (first | exact cb [] rfl rfl (EN rfl) (hI') rfl rfl rfl rfl rfl rfl rfl rfl rfl rfl rfl | exact iA rfl (EL rfl) (SZ rfl) rfl rfl (Int.natCast_nonneg _) hg rfl | exact cJ | exact mG | exact bT | exact nD)); try exact kQ) | refine xS ?_ | refine xR ?_ | refine qxa rfl rfl mixed ?_ | refine qxb rfl rfl mixed ?_ | refine qxc rfl rfl mixed ?_ | refine qxd rfl rfl mixed ?_ | refine xB ?_ | refine xt rfl ?_ | refine xf rfl ?_))
        (first | refine POps_split rfl rfl (fun h => ?_) (fun h => ?_) | refine POpsD_split rfl rfl (fun h => ?_) (fun h => ?_) | refine PW_cond rfl (fun h => ?_) (fun h => ?_))
        · have he : ¬ (look (d + 1) n1 (.mk ta tb tc td)).1 = 0 := by simpa [bne] using h
          have hlk : looks (d + 1) (n + 1) kids = look (d + 1) n1 (.mk ta tb tc td) := by rw [← hl, hdr, looks, if_neg he]
          (repeat (first | ((first | refine qA ?_ | refine qB ?_ | refine xN ?_ | refine xE ?_ | refine xT ?_); try show PW _ _ _ _ _ _) | refine ro1 tabOk rfl rfl ?_ | refine ro2 tabOk rfl rfl ?_ | refine ro3 tabOk rfl rfl ?_ | refine rd1 tabOk rfl rfl ?_ | refine rd2 tabOk rfl rfl ?_ | refine rd3 tabOk rfl rfl ?_ | ((first | apply oR rfl rfl | (apply dF rfl rfl rfl; intro _) | (apply dP rfl rfl rfl; intro _) | (apply dL rfl rfl rfl; intro _) | apply dC rfl rfl rfl rfl); (focus (first | exact cJ | exact mG | exact bT | exact nD)); try exact kQ) | refine xS ?_ | refine xR ?_ | refine qxa rfl rfl mixed ?_ | refine qxb rfl rfl mixed ?_ | refine qxc rfl rfl mixed ?_ | refine qxd rfl rfl mixed ?_ | refine xB ?_ | refine xt rfl ?_ | refine xf rfl ?_))
          (first | refine Ret_box (wC vT wN) rfl rfl rfl rfl rfl rfl rfl rfl rfl ?_ ?_ ?_ rfl | refine Ret_box (wC (vA (AG rfl) (SZ rfl) rfl rfl (lB rfl)) wN) rfl rfl rfl rfl rfl rfl rfl rfl rfl ?_ ?_ ?_ rfl | refine Ret_box (wC vT (wC vT wN)) rfl rfl rfl rfl rfl rfl rfl rfl rfl ?_ ?_ ?_ rfl | refine Ret_box (wC (vA (AG rfl) (SZ rfl) rfl rfl (lB rfl)) (wC vT wN)) rfl rfl rfl rfl rfl rfl rfl rfl rfl ?_ ?_ ?_ rfl)
          · rw [hlook, hlk]
          · rw [hlook, hlk]; rfl
          · rfl
        · have he : (look (d + 1) n1 (.mk ta tb tc td)).1 = 0 := by simpa [bne] using h
          have hle := look_le n1 (.mk ta tb tc td) hn1.1 he
          (repeat (first | ((first | refine qA ?_ | refine qB ?_ | refine xN ?_ | refine xE ?_ | refine xT ?_); try show PW _ _ _ _ _ _) | refine ro1 tabOk rfl rfl ?_ | refine ro2 tabOk rfl rfl ?_ | refine ro3 tabOk rfl rfl ?_ | refine rd1 tabOk rfl rfl ?_ | refine rd2 tabOk rfl rfl ?_ | refine rd3 tabOk rfl rfl ?_ | ((first | apply oR rfl rfl | (apply dF rfl rfl rfl; intro _) | (apply dP rfl rfl rfl; intro _) | (apply dL rfl rfl rfl; intro _) | apply dC rfl rfl rfl rfl); (focus (first | exact cJ | exact mG | exact bT | exact nD)); try exact kQ) | refine xS ?_ | refine xR ?_ | refine qxa rfl rfl mixed ?_ | refine qxb rfl rfl mixed ?_ | refine qxc rfl rfl mixed ?_ | refine qxd rfl rfl mixed ?_ | refine xB ?_ | refine xt rfl ?_ | refine xf rfl ?_))
          refine ⟨(i + 1, (look (d + 1) n1 (.mk ta tb tc td)).2), ⟨hlt, hle, ?_⟩, by dsimp only; omega, SlotsOk.le ⟨.inl rfl, .inl rfl, .inl rfl, .inl rfl, .inl (congrArg (fun k => PV.g (.int .i64 k)) (wrap64 (by dsimp only; omega))), trivial⟩, Drops.mk [_] [] [] rfl⟩
          rw [← hl, hdr, looks, if_pos he]
      · have hi' : i = kids.length := by have := of_decide_eq_false h; dsimp only at this; omega
        subst hi'
        (repeat (first | ((first | refine qA ?_ | refine qB ?_ | refine xN ?_ | refine xE ?_ | refine xT ?_); try show PW _ _ _ _ _ _) | refine ro1 tabOk rfl rfl ?_ | refine ro2 tabOk rfl rfl ?_ | refine ro3 tabOk rfl rfl ?_ | refine rd1 tabOk rfl rfl ?_ | refine rd2 tabOk rfl rfl ?_ | refine rd3 tabOk rfl rfl ?_ | ((first | apply oR rfl rfl | (apply dF rfl rfl rfl; intro _) | (apply dP rfl rfl rfl; intro _) | (apply dL rfl rfl rfl; intro _) | apply dC rfl rfl rfl rfl); (focus (first | exact cJ | exact mG | exact bT | exact nD)); try exact kQ) | refine xS ?_ | refine xR ?_ | refine qxa rfl rfl mixed ?_ | refine qxb rfl rfl mixed ?_ | refine qxc rfl rfl mixed ?_ | refine qxd rfl rfl mixed ?_ | refine xB ?_ | refine xt rfl ?_ | refine xf rfl ?_))
        (first | refine Ret_box (wC vT wN) rfl rfl rfl rfl rfl rfl rfl rfl rfl ?_ ?_ ?_ rfl | refine Ret_box (wC (vA (AG rfl) (SZ rfl) rfl rfl (lB rfl)) wN) rfl rfl rfl rfl rfl rfl rfl rfl rfl ?_ ?_ ?_ rfl | refine Ret_box (wC vT (wC vT wN)) rfl rfl rfl rfl rfl rfl rfl rfl rfl ?_ ?_ ?_ rfl | refine Ret_box (wC (vA (AG rfl) (SZ rfl) rfl rfl (lB rfl)) (wC vT wN)) rfl rfl rfl rfl rfl rfl rfl rfl rfl ?_ ?_ ?_ rfl)
        · rw [hlook, ← hl]; simp [looks, constG]
        · rw [hlook, ← hl]; simp [looks, cntH]
        · rfl
set_option maxRecDepth 100000 in
set_option maxHeartbeats 4000000 in
theorem wrong_ref (t : Tr) (hk : t.ok) : PC Try.prog 18 [.g t.g] ⟨[], [], []⟩ (.g (.int .i64 (wrongT t))) ⟨[], [], []⟩ := by
  have hb := look_ref _ t 1 0 (Nat.le_refl _) (by omega) (by omega) hk
  obtain ⟨tag, tn, text, kids⟩ := t
  refine PC_of_PW Try.func18 rfl rfl (rs := _) rfl (Nat.le_of_ble_eq_true (by kernel_rfl)) ?_
  (repeat (first | ((first | refine qA ?_ | refine qB ?_ | refine xN ?_ | refine xE ?_ | refine xT ?_); try show PW _ _ _ _ _ _) | refine ro1 tabOk rfl rfl ?_ | refine ro2 tabOk rfl rfl ?_ | refine ro3 tabOk rfl rfl ?_ | refine rd1 tabOk rfl rfl ?_ | refine rd2 tabOk rfl rfl ?_ | refine rd3 tabOk rfl rfl ?_ | ((first | apply oR rfl rfl | (apply dF rfl rfl rfl; intro _) | (apply dP rfl rfl rfl; intro _) | (apply dL rfl rfl rfl; intro _) | apply dC rfl rfl rfl rfl); (focus (first | exact cb [] rfl rfl (EN rfl) (hb) rfl rfl rfl rfl rfl rfl rfl rfl rfl rfl rfl | exact cJ | exact mG | exact bT | exact nD)); try exact kQ) | refine xS ?_ | refine xR ?_ | refine qxa rfl rfl mixed ?_ | refine qxb rfl rfl mixed ?_ | refine qxc rfl rfl mixed ?_ | refine qxd rfl rfl mixed ?_ | refine xB ?_ | refine xt rfl ?_ | refine xf rfl ?_))
  (first | refine Ret_int (vC vT vN) rfl ?_ | refine Ret_bool (vC vT vN) rfl ?_ | refine Ret_g (vC vT vN) rfl ?_ | refine Ret_int (vC (vA (AG rfl) (SZ rfl) rfl rfl (lB rfl)) vN) rfl ?_ | refine Ret_bool (vC (vA (AG rfl) (SZ rfl) rfl rfl (lB rfl)) vN) rfl ?_ | refine Ret_g (vC (vA (AG rfl) (SZ rfl) rfl rfl (lB rfl)) vN) rfl ?_)
  rfl
end Go.Proofs.Ytffpepmfdjjjaaa


namespace Go.Proofs.Ytffpepmfdjjjaaa
open Go.Pure
attribute [local irreducible] PW POps POpsD PO PC Cond

theorem wfs_get : ∀ {l : List Tr} {i : Nat} (h : i < l.length), Tr.wfs l → (l[i]).wf
  | t :: r, 0, _, h => by simp only [Tr.wfs] at h; exact h.1
  | t :: r, i + 1, hi, h => by simp only [Tr.wfs] at h; have := wfs_get (l := r) (i := i) (by simpa using hi) h.2; simpa using this
set_option maxRecDepth 100000 in
set_option maxHeartbeats 8000000 in
theorem put_ref : ∀ (m : Nat) (t : Tr), SizeOf.sizeOf t ≤ m → t.ok → t.wf → (enc t).length ≤ 900000000 → PC Try.prog 53 [.g t.g] ⟨[], [], []⟩ (.own (bys (enc t)) 0) ⟨[], [(5, (enc t).length)], []⟩
  | 0, t, hm, _, _, _ => by cases t; simp at hm
  | m + 1, .mk tag tn text kids, hm, hk, hw, hb => by
    have hb' := hb
    simp only [enc, List.length_cons, List.length_append, Array.length_toList] at hb'
    have hts : text.data.size = text.size := rfl
    rw [hts] at hb'
    simp only [Tr.ok, maxLen] at hk
    simp only [Tr.wf] at hw
    have hke := encs_pos kids
    have n1 := signed_ref tn hw.2.1
    have n2 := number_ref text.size text.size (Nat.le_refl _) (by omega)
    have n3 := number_ref kids.length kids.length (Nat.le_refl _) (by omega)
    rw [← u64nat (n := text.size) (by omega)] at n2
    rw [← u64nat (n := kids.length) (by omega), ← gs_len kids] at n3
    have hdb : (IntKind.u8.wrap tag) = ((byteI tag).toNat : Int) := u8int tag
    refine PC_of_PW Try.func53 rfl rfl (rs := _) rfl (Nat.le_of_ble_eq_true (by kernel_rfl)) ?_
    (repeat (first | ((first | refine qA ?_ | refine qB ?_ | refine xN ?_ | refine xE ?_ | refine xT ?_); try show PW _ _ _ _ _ _) | refine ro1 tabOk rfl rfl ?_ | refine ro2 tabOk rfl rfl ?_ | refine ro3 tabOk rfl rfl ?_ | refine rd1 tabOk rfl rfl ?_ | refine rd2 tabOk rfl rfl ?_ | refine rd3 tabOk rfl rfl ?_ | ((first | apply oR rfl rfl | (apply dF rfl rfl rfl; intro _) | (apply dP rfl rfl rfl; intro _) | (apply dL rfl rfl rfl; intro _) | apply dC rfl rfl rfl rfl); (focus (first | exact PO_buildSlice_lit rfl (EL rfl) (SZ rfl) (AG rfl) (ZR rfl) rfl rfl rfl rfl rfl rfl rfl | exact cqP n1 | exact cqP n2 | exact cqP n3 | exact PO_appb_lit [byteI tag] (varint (fold64 tn)) rfl (EL rfl) (SZ rfl) (BY rfl) (ZR rfl) rfl (congrArg (fun z => PV.lit [GV.int .u8 z]) hdb) rfl rfl (varint_pos _) (by simp; omega) (by simp [maxLen]; omega) | exact PO_appb (varint text.size) rfl (EL rfl) (SZ rfl) (BY rfl) (ZR rfl) rfl rfl rfl rfl rfl (by simp; omega) (by simp [maxLen]; omega) | exact PO_apps rfl (EL rfl) (ST rfl) (SZ rfl) (BY rfl) (ZR rfl) rfl rfl rfl rfl (by simp; omega) (by simp [maxLen]; omega) | exact PO_appb (varint kids.length) rfl (EL rfl) (SZ rfl) (BY rfl) (ZR rfl) rfl rfl rfl rfl (congrArg (fun k => bys (varint k)) (gs_len kids)) (by simp; omega) (by simp [maxLen]; omega) | exact cJ | exact mG | exact bT | exact nD)); try exact kQ) | refine xS ?_ | refine xR ?_ | refine xK false false [0] rfl mixed (by decide +kernel) ?_ | refine xK false true [0] rfl mixed (by decide +kernel) ?_ | refine xK true false [0] rfl mixed (by decide +kernel) ?_ | refine xK true true [0] rfl mixed (by decide +kernel) ?_ | refine xB ?_ | refine xt rfl ?_ | refine xf rfl ?_))
    obtain ⟨hd, hhd⟩ : ∃ hd, [byteI tag] ++ varint (fold64 tn) ++ varint text.size ++ text.data.toList ++ varint kids.length = hd := ⟨_, rfl⟩
    have hdl : hd.length + (encs kids).length ≤ 900000000 := by rw [← hhd]; simp; omega
    have henc : enc (.mk tag tn text kids) = hd ++ encs kids := by rw [← hhd]; simp [enc]
    have h0 : [byteI tag] ++ varint (fold64 tn) ++ varint text.size ++ text.data.toList ++ varint kids.length = hd ++ encs (kids.take 0) := by rw [hhd]; simp [encs]
    refine PW_loop_cut (S := Nat) (fun i => [(3, .own (bys (hd ++ encs (kids.take i))) 0), (32, .g (.sl (Tr.gs kids))), (33, .g (.int .i64 kids.length)), (34, .g (.int .i64 i))])
      (fun i => ⟨[[.g (.int .i64 tag), .g (.int .i64 tn), .g (.str text), .g (.sl (Tr.gs kids))]], [(5, (hd ++ encs (kids.take i)).length)], []⟩)
      (fun i => i ≤ kids.length) (fun i => kids.length - i) 0 (Nat.zero_le _) ?_ ?_ (fun _ => rfl) (fun i hi => ?_)
    · exact SlotsOk.le ⟨.inl (congrArg (fun z => PV.own (bys z) 0) h0), .inl rfl, .inl (congrArg (fun k : Nat => PV.g (.int .i64 k)) (gs_len kids)), .inl rfl, trivial⟩
    · exact (HLe.of_eq (congrArg (fun z : List UInt8 => (⟨[[.g (.int .i64 tag), .g (.int .i64 tn), .g (.str text), .g (.sl (Tr.gs kids))]], [(5, z.length)], []⟩ : PH)) h0))
    (repeat (first | ((first | refine qA ?_ | refine qB ?_ | refine xN ?_ | refine xE ?_ | refine xT ?_); try show PW _ _ _ _ _ _) | refine ro1 tabOk rfl rfl ?_ | refine ro2 tabOk rfl rfl ?_ | refine ro3 tabOk rfl rfl ?_ | refine rd1 tabOk rfl rfl ?_ | refine rd2 tabOk rfl rfl ?_ | refine rd3 tabOk rfl rfl ?_ | ((first | apply oR rfl rfl | (apply dF rfl rfl rfl; intro _) | (apply dP rfl rfl rfl; intro _) | (apply dL rfl rfl rfl; intro _) | apply dC rfl rfl rfl rfl); (focus (first | exact cJ | exact mG | exact bT | exact nD)); try exact kQ) | refine xS ?_ | refine xR ?_ | refine qxa rfl rfl mixed ?_ | refine qxb rfl rfl mixed ?_ | refine qxc rfl rfl mixed ?_ | refine qxd rfl rfl mixed ?_ | refine xB ?_ | refine xt rfl ?_ | refine xf rfl ?_))
    (first | refine POps_split rfl rfl (fun h => ?_) (fun h => ?_) | refine POpsD_split rfl rfl (fun h => ?_) (fun h => ?_) | refine PW_cond rfl (fun h => ?_) (fun h => ?_))
    · have hlt : i < kids.length := by have := of_decide_eq_true h; omega
      have hg := gs_get hlt
      have hsz := kid_size hlt tag tn text
      have hle := encs_le hlt
      have htk := encs_take hlt
      have hkw : (kids[i]).wf := wfs_get hlt hw.2.2
      have hI := put_ref m kids[i] (by omega) (oks_get hlt hk.2) hkw (by omega)
      generalize kids[i] = kid at hg hI hle htk
      obtain ⟨ta, tb, tc, td⟩ := kid
      (repeat (first | ((first | refine qA ?_ | refine qB ?_ | refine xN ?_ | refine xE ?_ | refine xT ?_); try show PW _ _ _ _ _ _) | refine ro1 tabOk rfl rfl ?_ | refine ro2 tabOk rfl rfl ?_ | refine ro3 tabOk rfl rfl ?_ | refine rd1 tabOk rfl rfl ?_ | refine rd2 tabOk rfl rfl ?_ | refine rd3 tabOk rfl rfl ?_ | ((first | apply oR rfl rfl | (apply dF rfl rfl rfl; intro _) | (apply dP rfl rfl rfl; intro _) | (apply dL rfl rfl rfl; intro _) | apply dC rfl rfl rfl rfl); (focus (first | exact cb [] rfl rfl (EN rfl) (hI) rfl rfl rfl rfl rfl rfl rfl rfl rfl rfl rfl | exact iA rfl (EL rfl) (SZ rfl) rfl rfl (Int.natCast_nonneg _) hg rfl | exact PO_appb (enc (.mk ta tb tc td)) rfl (EL rfl) (SZ rfl) (BY rfl) (ZR rfl) rfl rfl rfl rfl rfl (by simp; omega) (by simp [maxLen]; omega) | exact cJ | exact mG | exact bT | exact nD)); try exact kQ) | refine xS ?_ | refine xR ?_ | refine qxa rfl rfl mixed ?_ | refine qxb rfl rfl mixed ?_ | refine qxc rfl rfl mixed ?_ | refine qxd rfl rfl mixed ?_ | refine xB ?_ | refine xt rfl ?_ | refine xf rfl ?_))
      refine ⟨i + 1, hlt, by omega, SlotsOk.le ⟨.inl (by rw [htk, ← List.append_assoc]; rfl), .inl rfl, .inl rfl, .inl (congrArg (fun x => PV.g (.int .i64 x)) (wrap64 (by omega))), trivial⟩, Drops.mk [[.g (.int .i64 ta), .g (.int .i64 tb), .g (.str tc), .g (.sl (Tr.gs td))]] [(5, (enc (.mk ta tb tc td)).length)] [] ?_⟩
      rw [htk, ← List.append_assoc]
      rfl
    · have hi' : i = kids.length := by have := of_decide_eq_false h; omega
      subst hi'
      have he : hd ++ encs (kids.take kids.length) = enc (.mk tag tn text kids) := by rw [henc, List.take_length]
      (repeat (first | ((first | refine qA ?_ | refine qB ?_ | refine xN ?_ | refine xE ?_ | refine xT ?_); try show PW _ _ _ _ _ _) | refine ro1 tabOk rfl rfl ?_ | refine ro2 tabOk rfl rfl ?_ | refine ro3 tabOk rfl rfl ?_ | refine rd1 tabOk rfl rfl ?_ | refine rd2 tabOk rfl rfl ?_ | refine rd3 tabOk rfl rfl ?_ | ((first | apply oR rfl rfl | (apply dF rfl rfl rfl; intro _) | (apply dP rfl rfl rfl; intro _) | (apply dL rfl rfl rfl; intro _) | apply dC rfl rfl rfl rfl); (focus (first | exact cJ | exact mG | exact bT | exact nD)); try exact kQ) | refine xS ?_ | refine xR ?_ | refine qxa rfl rfl mixed ?_ | refine qxb rfl rfl mixed ?_ | refine qxc rfl rfl mixed ?_ | refine qxd rfl rfl mixed ?_ | refine xB ?_ | refine xt rfl ?_ | refine xf rfl ?_))
      (first | refine Ret_box (wC vT wN) rfl rfl rfl rfl rfl rfl rfl rfl rfl ?_ ?_ ?_ rfl | refine Ret_box (wC (vA (AG rfl) (SZ rfl) rfl rfl (lB rfl)) wN) rfl rfl rfl rfl rfl rfl rfl rfl rfl ?_ ?_ ?_ rfl | refine Ret_box (wC vT (wC vT wN)) rfl rfl rfl rfl rfl rfl rfl rfl rfl ?_ ?_ ?_ rfl | refine Ret_box (wC (vA (AG rfl) (SZ rfl) rfl rfl (lB rfl)) (wC vT wN)) rfl rfl rfl rfl rfl rfl rfl rfl rfl ?_ ?_ ?_ rfl)
      · rw [← he]
      · rfl
      · rw [← he]
end Go.Proofs.Ytffpepmfdjjjaaa


namespace Go.Proofs.Ytffpepmfdjjjaaa
open Go.Pure
attribute [local irreducible] PW POps POpsD PO PC Cond

set_option maxRecDepth 100000 in
set_option maxHeartbeats 4000000 in
theorem bytes_ref (tag tn : Int) (text : ByteArray) (kids : List Tr) (hk : (Tr.mk tag tn text kids).ok) (hw : (Tr.mk tag tn text kids).wf) (hb : (enc (.mk tag tn text kids)).length ≤ 900000000) :
    PC Try.prog 22 [.g (Tr.mk tag tn text kids).g] ⟨[], [], []⟩ (.tuple [.g (.sl (bys (bytesT (.mk tag tn text kids)).1)), .g (.int .i64 (bytesT (.mk tag tn text kids)).2)]) ⟨[], [], []⟩ := by
  have hwr := wrong_ref _ hk
  have hp := put_ref _ (Tr.mk tag tn text kids) (Nat.le_refl _) hk hw hb
  refine PC_of_PW Try.func22 rfl rfl (rs := _) rfl (Nat.le_of_ble_eq_true (by kernel_rfl)) ?_
  (repeat (first | ((first | refine qA ?_ | refine qB ?_ | refine xN ?_ | refine xE ?_ | refine xT ?_); try show PW _ _ _ _ _ _) | refine ro1 tabOk rfl rfl ?_ | refine ro2 tabOk rfl rfl ?_ | refine ro3 tabOk rfl rfl ?_ | refine rd1 tabOk rfl rfl ?_ | refine rd2 tabOk rfl rfl ?_ | refine rd3 tabOk rfl rfl ?_ | ((first | apply oR rfl rfl | (apply dF rfl rfl rfl; intro _) | (apply dP rfl rfl rfl; intro _) | (apply dL rfl rfl rfl; intro _) | apply dC rfl rfl rfl rfl); (focus (first | exact cqP hwr | exact cJ | exact mG | exact bT | exact nD)); try exact kQ) | refine xS ?_ | refine xR ?_ | refine qxa rfl rfl mixed ?_ | refine qxb rfl rfl mixed ?_ | refine qxc rfl rfl mixed ?_ | refine qxd rfl rfl mixed ?_ | refine xB ?_ | refine xt rfl ?_ | refine xf rfl ?_))
  (first | refine POps_split rfl rfl (fun h => ?_) (fun h => ?_) | refine POpsD_split rfl rfl (fun h => ?_) (fun h => ?_) | refine PW_cond rfl (fun h => ?_) (fun h => ?_))
  · have he : ¬ wrongT (.mk tag tn text kids) = 0 := by simpa [bne] using h
    (repeat (first | ((first | refine qA ?_ | refine qB ?_ | refine xN ?_ | refine xE ?_ | refine xT ?_); try show PW _ _ _ _ _ _) | refine ro1 tabOk rfl rfl ?_ | refine ro2 tabOk rfl rfl ?_ | refine ro3 tabOk rfl rfl ?_ | refine rd1 tabOk rfl rfl ?_ | refine rd2 tabOk rfl rfl ?_ | refine rd3 tabOk rfl rfl ?_ | ((first | apply oR rfl rfl | (apply dF rfl rfl rfl; intro _) | (apply dP rfl rfl rfl; intro _) | (apply dL rfl rfl rfl; intro _) | apply dC rfl rfl rfl rfl); (focus (first | exact cJ | exact mG | exact bT | exact nD)); try exact kQ) | refine xS ?_ | refine xR ?_ | refine qxa rfl rfl mixed ?_ | refine qxb rfl rfl mixed ?_ | refine qxc rfl rfl mixed ?_ | refine qxd rfl rfl mixed ?_ | refine xB ?_ | refine xt rfl ?_ | refine xf rfl ?_))
    refine Ret_two (resVs_cons resV_tmp (resVs_cons resV_tmp resVs_nil)) rfl ?_ ?_
    · simp [bytesT, he, bys]
    · simp [bytesT, he]
  · have he : wrongT (.mk tag tn text kids) = 0 := by simpa [bne] using h
    have hsum := sum_ref (enc (.mk tag tn text kids)) (by omega)
    have hfour := four_ref (sumB (enc (.mk tag tn text kids)))
    (repeat (first | ((first | refine qA ?_ | refine qB ?_ | refine xN ?_ | refine xE ?_ | refine xT ?_); try show PW _ _ _ _ _ _) | refine ro1 tabOk rfl rfl ?_ | refine ro2 tabOk rfl rfl ?_ | refine ro3 tabOk rfl rfl ?_ | refine rd1 tabOk rfl rfl ?_ | refine rd2 tabOk rfl rfl ?_ | refine rd3 tabOk rfl rfl ?_ | ((first | apply oR rfl rfl | (apply dF rfl rfl rfl; intro _) | (apply dP rfl rfl rfl; intro _) | (apply dL rfl rfl rfl; intro _) | apply dC rfl rfl rfl rfl); (focus (first | exact cb [] rfl rfl (EN rfl) (hp) rfl rfl rfl rfl rfl rfl rfl rfl rfl rfl rfl | exact cJ | exact mG | exact bT | exact nD)); try exact kQ) | refine xS ?_ | refine xR ?_ | refine qxa rfl rfl mixed ?_ | refine qxb rfl rfl mixed ?_ | refine qxc rfl rfl mixed ?_ | refine qxd rfl rfl mixed ?_ | refine xB ?_ | refine xt rfl ?_ | refine xf rfl ?_))
    (repeat (first | ((first | refine qA ?_ | refine qB ?_ | refine xN ?_ | refine xE ?_ | refine xT ?_); try show PW _ _ _ _ _ _) | refine ro1 tabOk rfl rfl ?_ | refine ro2 tabOk rfl rfl ?_ | refine ro3 tabOk rfl rfl ?_ | refine rd1 tabOk rfl rfl ?_ | refine rd2 tabOk rfl rfl ?_ | refine rd3 tabOk rfl rfl ?_ | ((first | apply oR rfl rfl | (apply dF rfl rfl rfl; intro _) | (apply dP rfl rfl rfl; intro _) | (apply dL rfl rfl rfl; intro _) | apply dC rfl rfl rfl rfl); (focus (first | exact cqP hsum | exact cqP hfour | exact PO_appb (four (sumB (enc (.mk tag tn text kids)))) rfl (EL rfl) (SZ rfl) (BY rfl) (ZR rfl) rfl rfl rfl rfl rfl (by simp [four]; omega) (by simp [four, maxLen]; omega) | exact cJ | exact mG | exact bT | exact nD)); try exact kQ) | refine xS ?_ | refine xR ?_ | refine qxa rfl rfl mixed ?_ | refine qxb rfl rfl mixed ?_ | refine qxc rfl rfl mixed ?_ | refine qxd rfl rfl mixed ?_ | refine xB ?_ | refine xt rfl ?_ | refine xf rfl ?_))
    have hlen : ((bys (enc (.mk tag tn text kids) ++ four (sumB (enc (.mk tag tn text kids))))).length : Int) = (enc (.mk tag tn text kids)).length + 4 := by
      rw [bys_len]; simp [four]
    (first | refine POps_split rfl rfl (fun h => ?_) (fun h => ?_) | refine POpsD_split rfl rfl (fun h => ?_) (fun h => ?_) | refine PW_cond rfl (fun h => ?_) (fun h => ?_))
    · have hgt : 100000 < (enc (.mk tag tn text kids)).length + 4 := by
        have := of_decide_eq_true h
        rw [hlen] at this
        omega
      (repeat (first | ((first | refine qA ?_ | refine qB ?_ | refine xN ?_ | refine xE ?_ | refine xT ?_); try show PW _ _ _ _ _ _) | refine ro1 tabOk rfl rfl ?_ | refine ro2 tabOk rfl rfl ?_ | refine ro3 tabOk rfl rfl ?_ | refine rd1 tabOk rfl rfl ?_ | refine rd2 tabOk rfl rfl ?_ | refine rd3 tabOk rfl rfl ?_ | ((first | apply oR rfl rfl | (apply dF rfl rfl rfl; intro _) | (apply dP rfl rfl rfl; intro _) | (apply dL rfl rfl rfl; intro _) | apply dC rfl rfl rfl rfl); (focus (first | exact cJ | exact mG | exact bT | exact nD)); try exact kQ) | refine xS ?_ | refine xR ?_ | refine qxa rfl rfl mixed ?_ | refine qxb rfl rfl mixed ?_ | refine qxc rfl rfl mixed ?_ | refine qxd rfl rfl mixed ?_ | refine xB ?_ | refine xt rfl ?_ | refine xf rfl ?_))
      refine Ret_two (resVs_cons resV_tmp (resVs_cons resV_tmp resVs_nil)) rfl ?_ ?_
      · simp [bytesT, he, hgt, bys]
      · simp [bytesT, he, hgt, constG]
    · have hgt : ¬ 100000 < (enc (.mk tag tn text kids)).length + 4 := by
        have := of_decide_eq_false h
        rw [hlen] at this
        omega
      (repeat (first | ((first | refine qA ?_ | refine qB ?_ | refine xN ?_ | refine xE ?_ | refine xT ?_); try show PW _ _ _ _ _ _) | refine ro1 tabOk rfl rfl ?_ | refine ro2 tabOk rfl rfl ?_ | refine ro3 tabOk rfl rfl ?_ | refine rd1 tabOk rfl rfl ?_ | refine rd2 tabOk rfl rfl ?_ | refine rd3 tabOk rfl rfl ?_ | ((first | apply oR rfl rfl | (apply dF rfl rfl rfl; intro _) | (apply dP rfl rfl rfl; intro _) | (apply dL rfl rfl rfl; intro _) | apply dC rfl rfl rfl rfl); (focus (first | exact cJ | exact mG | exact bT | exact nD)); try exact kQ) | refine xS ?_ | refine xR ?_ | refine qxa rfl rfl mixed ?_ | refine qxb rfl rfl mixed ?_ | refine qxc rfl rfl mixed ?_ | refine qxd rfl rfl mixed ?_ | refine xB ?_ | refine xt rfl ?_ | refine xf rfl ?_))
      refine Ret_two (resVs_cons resV_tmp (resVs_cons resV_tmp resVs_nil)) rfl ?_ ?_
      · simp [bytesT, he, hgt]
      · simp [bytesT, he, hgt, constG]
end Go.Proofs.Ytffpepmfdjjjaaa


namespace Go.Proofs.Ytffpepmfdjjjaaa
open Go.Pure
attribute [local irreducible] PW POps POpsD PO PC Cond

/-- The unit of the next seven bits, as the slow reading keeps it. -/
def unitN (k : Nat) : Nat := 2 ^ (7 * k) % 18446744073709551616
theorem val_step (x c k : Nat) : IntKind.u64.wrap ((x : Int) + IntKind.u64.wrap (((c : Nat) : Int).tmod 128 * ((unitN k : Nat) : Int))) = ((numVal k c x : Nat) : Int) := by
  rw [show (128 : Int) = ((128 : Nat) : Int) from rfl, tmodN, ← Int.natCast_mul, u64mod, ← Int.natCast_add, u64mod]
  congr 1
  unfold numVal unitN
  rw [Nat.add_mod, Nat.mod_mod, ← Nat.add_mod, Nat.add_mod, Nat.mul_mod, Nat.mod_mod, ← Nat.mul_mod, ← Nat.add_mod]
theorem unit_step (k : Nat) : IntKind.u64.wrap (((unitN k : Nat) : Int) * 128) = ((unitN (k + 1) : Nat) : Int) := by
  rw [show (128 : Int) = ((128 : Nat) : Int) from rfl, ← Int.natCast_mul, u64mod]
  congr 1
  unfold unitN
  rw [Nat.mul_mod, Nat.mod_mod, ← Nat.mul_mod, pow7, Nat.mul_comm]
theorem u64byte (c : UInt8) : IntKind.u64.wrap ((c.toNat : Nat) : Int) = ((c.toNat : Nat) : Int) := by
  have := c.toNat_lt
  rw [u64mod]; congr 1; omega
/-- A number that begins at p: itself, and where it ends; -1 where none is. -/
def numAt (l : List UInt8) (p : Nat) : Nat × Int :=
  if (numGo 10 0 0 (l.drop p) false).2.2 = true then (0, -1) else ((numGo 10 0 0 (l.drop p) false).1, (l.length : Int) - (numGo 10 0 0 (l.drop p) false).2.1.length)
theorem numGo_at {l : List UInt8} {p : Nat} (h : p < l.length) (n k x : Nat) : numGo (n + 1) k x (l.drop p) false =
    if l[p].toNat < 128 ∨ numBad k l[p].toNat false = true then (numVal k l[p].toNat x, l.drop (p + 1), numBad k l[p].toNat false) else numGo n (k + 1) (numVal k l[p].toNat x) (l.drop (p + 1)) (numBad k l[p].toNat false) := by
  rw [List.drop_eq_getElem_cons h]
  exact numGo_cons _ _ _ _ _ _ _ rfl
theorem numGo_out {l : List UInt8} {p : Nat} (h : l.length ≤ p) (n k x : Nat) : (numGo (n + 1) k x (l.drop p) false).2.2 = true := by
  rw [List.drop_of_length_le h]
  have hb : numBad k 0 true = true := by unfold numBad; split <;> rfl
  show (if (0 : Nat) < 128 ∨ numBad k 0 true = true then (numVal k 0 x, ([] : List UInt8), numBad k 0 true) else numGo n (k + 1) (numVal k 0 x) [] (numBad k 0 true)).2.2 = true
  rw [hb]; simp

set_option maxRecDepth 100000 in
set_option maxHeartbeats 8000000 in
theorem number_at (l : List UInt8) (p : Nat) (hl : l.length ≤ 1000000000) :
    PC Try.prog 85 [.g (.sl (bys l)), .g (.int .i64 p)] ⟨[], [], []⟩ (.tuple [.g (.int .u64 (numAt l p).1), .g (.int .i64 (numAt l p).2)]) ⟨[], [], []⟩ := by
  refine PC_of_PW Try.func85 rfl rfl (rs := _) rfl (Nat.le_of_ble_eq_true (by kernel_rfl)) ?_
  (repeat (first | ((first | refine qA ?_ | refine qB ?_ | refine xN ?_ | refine xE ?_ | refine xT ?_); try show PW _ _ _ _ _ _) | refine ro1 tabOk rfl rfl ?_ | refine ro2 tabOk rfl rfl ?_ | refine ro3 tabOk rfl rfl ?_ | refine rd1 tabOk rfl rfl ?_ | refine rd2 tabOk rfl rfl ?_ | refine rd3 tabOk rfl rfl ?_ | ((first | apply oR rfl rfl | (apply dF rfl rfl rfl; intro _) | (apply dP rfl rfl rfl; intro _) | (apply dL rfl rfl rfl; intro _) | apply dC rfl rfl rfl rfl); (focus (first | exact cJ | exact mG | exact bT | exact nD)); try exact kQ) | refine xS ?_ | refine xR ?_ | refine qxa rfl rfl mixed ?_ | refine qxb rfl rfl mixed ?_ | refine qxc rfl rfl mixed ?_ | refine qxd rfl rfl mixed ?_ | refine xB ?_ | refine xt rfl ?_ | refine xf rfl ?_))
  refine PW_loop (S := Nat × Nat × Nat) (fun s => slots [(0, .g (.sl (bys l))), (1, .g (.int .i64 (s.2.2 : Int))), (6, .g (.int .u64 s.2.1)), (7, .g (.int .u64 (unitN s.1))), (8, .g (.int .i64 s.1))]) (fun _ => ⟨[], [], []⟩)
    (fun s => s.1 ≤ 10 ∧ s.2.2 ≤ p + s.1 ∧ numGo (10 - s.1) s.1 s.2.1 (l.drop s.2.2) false = numGo 10 0 0 (l.drop p) false) (fun s => 10 - s.1) (0, 0, p) ⟨Nat.zero_le _, Nat.le_refl _, rfl⟩
    (SlotsOk.le ⟨.inl rfl, .inl rfl, .inl rfl, .inl rfl, .inl rfl, trivial⟩) (HLe.refl _) (fun s hs => ?_)
  obtain ⟨k, x, q⟩ := s
  obtain ⟨hk, hq, hgo⟩ := hs
  dsimp only at hk hq hgo ⊢
  (repeat (first | ((first | refine qA ?_ | refine qB ?_ | refine xN ?_ | refine xE ?_ | refine xT ?_); try show PW _ _ _ _ _ _) | refine ro1 tabOk rfl rfl ?_ | refine ro2 tabOk rfl rfl ?_ | refine ro3 tabOk rfl rfl ?_ | refine rd1 tabOk rfl rfl ?_ | refine rd2 tabOk rfl rfl ?_ | refine rd3 tabOk rfl rfl ?_ | ((first | apply oR rfl rfl | (apply dF rfl rfl rfl; intro _) | (apply dP rfl rfl rfl; intro _) | (apply dL rfl rfl rfl; intro _) | apply dC rfl rfl rfl rfl); (focus (first | exact cJ | exact mG | exact bT | exact nD)); try exact kQ) | refine xS ?_ | refine xR ?_ | refine qxa rfl rfl mixed ?_ | refine qxb rfl rfl mixed ?_ | refine qxc rfl rfl mixed ?_ | refine qxd rfl rfl mixed ?_ | refine xB ?_ | refine xt rfl ?_ | refine xf rfl ?_))
  (first | refine POps_split rfl rfl (fun h => ?_) (fun h => ?_) | refine POpsD_split rfl rfl (fun h => ?_) (fun h => ?_) | refine PW_cond rfl (fun h => ?_) (fun h => ?_))
  · have hk9 : k ≤ 9 := by have := of_decide_eq_true h; omega
    have hn : numGo 10 0 0 (l.drop p) false = numGo (10 - k - 1 + 1) k x (l.drop q) false := by rw [← hgo]; congr 1; omega
    clear h
    (repeat (first | ((first | refine qA ?_ | refine qB ?_ | refine xN ?_ | refine xE ?_ | refine xT ?_); try show PW _ _ _ _ _ _) | refine ro1 tabOk rfl rfl ?_ | refine ro2 tabOk rfl rfl ?_ | refine ro3 tabOk rfl rfl ?_ | refine rd1 tabOk rfl rfl ?_ | refine rd2 tabOk rfl rfl ?_ | refine rd3 tabOk rfl rfl ?_ | ((first | apply oR rfl rfl | (apply dF rfl rfl rfl; intro _) | (apply dP rfl rfl rfl; intro _) | (apply dL rfl rfl rfl; intro _) | apply dC rfl rfl rfl rfl); (focus (first | exact cJ | exact mG | exact bT | exact nD)); try exact kQ) | refine xS ?_ | refine xR ?_ | refine qxa rfl rfl mixed ?_ | refine qxb rfl rfl mixed ?_ | refine qxc rfl rfl mixed ?_ | refine qxd rfl rfl mixed ?_ | refine xB ?_ | refine xt rfl ?_ | refine xf rfl ?_))
    (first | refine POps_split rfl rfl (fun h => ?_) (fun h => ?_) | refine POpsD_split rfl rfl (fun h => ?_) (fun h => ?_) | refine PW_cond rfl (fun h => ?_) (fun h => ?_))
    · have hout : l.length ≤ q := by have := of_decide_eq_true h; rw [bys_len] at this; omega
      have hb := numGo_out hout (10 - k - 1) k x
      (repeat (first | ((first | refine qA ?_ | refine qB ?_ | refine xN ?_ | refine xE ?_ | refine xT ?_); try show PW _ _ _ _ _ _) | refine ro1 tabOk rfl rfl ?_ | refine ro2 tabOk rfl rfl ?_ | refine ro3 tabOk rfl rfl ?_ | refine rd1 tabOk rfl rfl ?_ | refine rd2 tabOk rfl rfl ?_ | refine rd3 tabOk rfl rfl ?_ | ((first | apply oR rfl rfl | (apply dF rfl rfl rfl; intro _) | (apply dP rfl rfl rfl; intro _) | (apply dL rfl rfl rfl; intro _) | apply dC rfl rfl rfl rfl); (focus (first | exact cJ | exact mG | exact bT | exact nD)); try exact kQ) | refine xS ?_ | refine xR ?_ | refine qxa rfl rfl mixed ?_ | refine qxb rfl rfl mixed ?_ | refine qxc rfl rfl mixed ?_ | refine qxd rfl rfl mixed ?_ | refine xB ?_ | refine xt rfl ?_ | refine xf rfl ?_))
      refine Ret_two (resVs_cons resV_tmp (resVs_cons resV_tmp resVs_nil)) rfl ?_ ?_
      · rw [numAt, hn, if_pos hb]; rfl
      · rw [numAt, hn, if_pos hb]; rfl
    · have hlt : q < l.length := by have := of_decide_eq_false h; rw [bys_len] at this; omega
      have hg := bys_get hlt
      rw [numGo_at hlt] at hn
      have hc8 := (l[q]).toNat_lt
      have hcv := u64byte l[q]
      have hv := val_step x l[q].toNat k
      have hu := unit_step k
      clear h
      generalize l[q] = ch at hg hn hc8 hcv hv
      (repeat (first | ((first | refine qA ?_ | refine qB ?_ | refine xN ?_ | refine xE ?_ | refine xT ?_); try show PW _ _ _ _ _ _) | refine ro1 tabOk rfl rfl ?_ | refine ro2 tabOk rfl rfl ?_ | refine ro3 tabOk rfl rfl ?_ | refine rd1 tabOk rfl rfl ?_ | refine rd2 tabOk rfl rfl ?_ | refine rd3 tabOk rfl rfl ?_ | ((first | apply oR rfl rfl | (apply dF rfl rfl rfl; intro _) | (apply dP rfl rfl rfl; intro _) | (apply dL rfl rfl rfl; intro _) | apply dC rfl rfl rfl rfl); (focus (first | exact iA rfl (EL rfl) (SZ rfl) rfl rfl (Int.natCast_nonneg _) hg rfl | exact PO_rem rfl rfl rfl (by decide) | exact cJ | exact mG | exact bT | exact nD)); try exact kQ) | refine xU [9] rfl ?_ | refine xR ?_ | refine qxa rfl rfl mixed ?_ | refine qxb rfl rfl mixed ?_ | refine qxc rfl rfl mixed ?_ | refine qxd rfl rfl mixed ?_ | refine xB ?_ | refine xt rfl ?_ | refine xf rfl ?_))
      (repeat' (first | (first | ((first | refine qA ?_ | refine qB ?_ | refine xN ?_ | refine xE ?_ | refine xT ?_); try show PW _ _ _ _ _ _) | refine ro1 tabOk rfl rfl ?_ | refine ro2 tabOk rfl rfl ?_ | refine ro3 tabOk rfl rfl ?_ | refine rd1 tabOk rfl rfl ?_ | refine rd2 tabOk rfl rfl ?_ | refine rd3 tabOk rfl rfl ?_ | ((first | apply oR rfl rfl | (apply dF rfl rfl rfl; intro _) | (apply dP rfl rfl rfl; intro _) | (apply dL rfl rfl rfl; intro _) | apply dC rfl rfl rfl rfl); (focus (first | exact PO_rem rfl rfl rfl (by decide) | exact cJ | exact mG | exact bT | exact nD)); try exact kQ) | refine xS ?_ | refine xR ?_ | refine qxa rfl rfl mixed ?_ | refine qxb rfl rfl mixed ?_ | refine qxc rfl rfl mixed ?_ | refine qxd rfl rfl mixed ?_ | refine xB ?_ | refine xt rfl ?_ | refine xf rfl ?_) | (refine POps_split rfl rfl (fun h => ?_) (fun h => ?_) <;> fail_if_success (first | (have : true = true := h) | (have : false = false := h))) | (refine POpsD_split rfl rfl (fun h => ?_) (fun h => ?_) <;> fail_if_success (first | (have : true = true := h) | (have : false = false := h))) | refine PW_cond rfl (fun h => ?_) (fun h => ?_)))
      all_goals ((try simp only [decide_eq_true_eq, decide_eq_false_iff_not, beq_iff_eq, bne_iff_ne, beq_eq_false_iff_ne, bne_eq_false_iff_eq, Bool.not_eq_true', Bool.not_eq_false', gt_iff_lt, ge_iff_le, ne_eq] at *))
      all_goals first
        | (exfalso; omega)
        | (have hbad : numBad k ch.toNat false = true := by unfold numBad; rw [if_pos (by omega)]
           rw [if_pos (.inr hbad)] at hn
           refine Ret_two (resVs_cons resV_tmp (resVs_cons resV_tmp resVs_nil)) rfl ?_ ?_
           · rw [numAt, hn, if_pos hbad]; rfl
           · rw [numAt, hn, if_pos hbad]; rfl)
        | (have hbad : numBad k ch.toNat false = false := by unfold numBad; rw [if_neg (by omega)]
           have h128 : ¬ ch.toNat < 128 := by omega
           rw [hbad, if_neg (by simp; omega)] at hn
           refine ⟨(k + 1, numVal k ch.toNat x, q + 1), ⟨by dsimp only; omega, by dsimp only; omega, ?_⟩, by dsimp only; omega, SlotsOk.le ⟨.inl rfl, .inl (congrArg (fun n => PV.g (.int .i64 n)) (wrap64 (by omega))), .inl (congrArg (fun n => PV.g (.int .u64 n)) ?_), .inl (congrArg (fun n => PV.g (.int .u64 n)) hu), .inl (congrArg (fun n => PV.g (.int .i64 n)) (wrap64 (by omega))), trivial⟩, HLe.refl _⟩
           · dsimp only; rw [hn]; congr 1
           · first | rw [hcv, hcv, hv] | rw [hcv, hv])
        | (have hbad : numBad k ch.toNat false = false := by unfold numBad; rw [if_neg (by omega)]
           have h128 : ch.toNat < 128 := by omega
           rw [if_pos (.inl h128), hbad] at hn
           refine Ret_two (resVs_cons resV_tmp (resVs_cons resV_tmp resVs_nil)) rfl ?_ ?_
           · rw [numAt, hn, if_neg (by simp), hcv, hv]
           · rw [numAt, hn, if_neg (by simp), wrap64 (by omega)]
             simp only [List.length_drop]
             congr 1
             omega)
  · have hk10 : k = 10 := by have := of_decide_eq_false h; omega
    subst hk10
    have hn : (numGo 10 0 0 (l.drop p) false).2.2 = true := by rw [← hgo]; rfl
    (repeat (first | ((first | refine qA ?_ | refine qB ?_ | refine xN ?_ | refine xE ?_ | refine xT ?_); try show PW _ _ _ _ _ _) | refine ro1 tabOk rfl rfl ?_ | refine ro2 tabOk rfl rfl ?_ | refine ro3 tabOk rfl rfl ?_ | refine rd1 tabOk rfl rfl ?_ | refine rd2 tabOk rfl rfl ?_ | refine rd3 tabOk rfl rfl ?_ | ((first | apply oR rfl rfl | (apply dF rfl rfl rfl; intro _) | (apply dP rfl rfl rfl; intro _) | (apply dL rfl rfl rfl; intro _) | apply dC rfl rfl rfl rfl); (focus (first | exact cJ | exact mG | exact bT | exact nD)); try exact kQ) | refine xS ?_ | refine xR ?_ | refine qxa rfl rfl mixed ?_ | refine qxb rfl rfl mixed ?_ | refine qxc rfl rfl mixed ?_ | refine qxd rfl rfl mixed ?_ | refine xB ?_ | refine xt rfl ?_ | refine xf rfl ?_))
    refine Ret_two (resVs_cons resV_tmp (resVs_cons resV_tmp resVs_nil)) rfl ?_ ?_
    · rw [numAt, if_pos hn]; rfl
    · rw [numAt, if_pos hn]; rfl
end Go.Proofs.Ytffpepmfdjjjaaa


/- Plain laws: reading by place is reading what is left. -/
namespace Go.Proofs.Ytffpepmfdjjjaaa
open Go.Pure

theorem drop_back {l a r : List UInt8} {p : Nat} (hp : p ≤ l.length) (h : l.drop p = a ++ r) : p + a.length ≤ l.length ∧ r = l.drop (p + a.length) := by
  constructor
  · have := congrArg List.length h; simp at this; omega
  · rw [← List.drop_drop, h, List.drop_left]
theorem trip {α : Type} {r : α × List UInt8 × Bool} (h : r.2.2 = false) : r = (r.1, r.2.1, false) := by
  obtain ⟨a, b, c⟩ := r
  dsimp only at h
  rw [h]
theorem numAt_cases (l : List UInt8) (p : Nat) (hp : p ≤ l.length) : (numAt l p = (0, -1) ∧ (numGo 10 0 0 (l.drop p) false).2.2 = true) ∨
    ∃ x q : Nat, numAt l p = (x, (q : Int)) ∧ p < q ∧ q ≤ l.length ∧ x < 2 ^ 64 ∧ numGo 10 0 0 (l.drop p) false = (x, l.drop q, false) := by
  cases hb : (numGo 10 0 0 (l.drop p) false).2.2 with
  | true => exact .inl ⟨by rw [numAt, if_pos hb], rfl⟩
  | false =>
    have he : numGo 10 0 0 (l.drop p) false = ((numGo 10 0 0 (l.drop p) false).1, (numGo 10 0 0 (l.drop p) false).2.1, false) := trip hb
    have hlt := numGo_lt 10 0 0 (l.drop p) false
    have hat : numAt l p = ((numGo 10 0 0 (l.drop p) false).1, (l.length : Int) - (numGo 10 0 0 (l.drop p) false).2.1.length) := by rw [numAt, if_neg (by rw [hb]; decide)]
    generalize (numGo 10 0 0 (l.drop p) false).1 = x at he hlt hat
    generalize (numGo 10 0 0 (l.drop p) false).2.1 = r at he hat
    have hw := num_was he
    obtain ⟨h1, h2⟩ := drop_back hp hw
    have hv := varint_pos x
    have hr : r.length = l.length - (p + (varint x).length) := by rw [h2]; simp
    refine .inr ⟨x, p + (varint x).length, ?_, by omega, h1, hlt, by rw [he, h2]⟩
    rw [hat, hr]
    congr 1
    omega

/-- A tree that begins at p, and where it ends; -1 where none is. -/
def treeAt (f : Nat) (l : List UInt8) (p : Nat) : Tr × Int :=
  if (treeGo f (l.drop p) false).2.2 = true then (noTree, -1) else ((treeGo f (l.drop p) false).1, (l.length : Int) - (treeGo f (l.drop p) false).2.1.length)
theorem treeAt_cases (f : Nat) (l : List UInt8) (p : Nat) (hp : p ≤ l.length) : (treeAt f l p = (noTree, -1) ∧ (treeGo f (l.drop p) false).2.2 = true) ∨
    ∃ (t : Tr) (q : Nat), treeAt f l p = (t, (q : Int)) ∧ p < q ∧ q ≤ l.length ∧ treeGo f (l.drop p) false = (t, l.drop q, false) := by
  cases hb : (treeGo f (l.drop p) false).2.2 with
  | true => exact .inl ⟨by rw [treeAt, if_pos hb], rfl⟩
  | false =>
    have he : treeGo f (l.drop p) false = ((treeGo f (l.drop p) false).1, (treeGo f (l.drop p) false).2.1, false) := trip hb
    have hat : treeAt f l p = ((treeGo f (l.drop p) false).1, (l.length : Int) - (treeGo f (l.drop p) false).2.1.length) := by rw [treeAt, if_neg (by rw [hb]; decide)]
    generalize (treeGo f (l.drop p) false).1 = t at he hat
    generalize (treeGo f (l.drop p) false).2.1 = r at he hat
    obtain ⟨_, hw, _⟩ := tree_was _ _ _ _ _ he
    obtain ⟨h1, h2⟩ := drop_back hp hw
    have hv := enc_pos t
    have hr : r.length = l.length - (p + (enc t).length) := by rw [h2]; simp
    refine .inr ⟨t, p + (enc t).length, ?_, by omega, h1, by rw [he, h2]⟩
    rw [hat, hr]
    congr 1
    omega

section
variable {l : List UInt8} {p q q2 q3 x n m f : Nat}
theorem treeGo_at (h : p < l.length) : treeGo (f + 1) (l.drop p) false =
    (.mk l[p].toNat (unfold64 (numGo 10 0 0 (l.drop (p + 1)) false).1)
      ⟨((cntGo 1 (numGo 10 0 0 (l.drop (p + 1)) false).2.1 (numGo 10 0 0 (l.drop (p + 1)) false).2.2).2.1.take (cntGo 1 (numGo 10 0 0 (l.drop (p + 1)) false).2.1 (numGo 10 0 0 (l.drop (p + 1)) false).2.2).1).toArray⟩
      (kidsGo (treeGo f) (cntGo 4 ((cntGo 1 (numGo 10 0 0 (l.drop (p + 1)) false).2.1 (numGo 10 0 0 (l.drop (p + 1)) false).2.2).2.1.drop (cntGo 1 (numGo 10 0 0 (l.drop (p + 1)) false).2.1 (numGo 10 0 0 (l.drop (p + 1)) false).2.2).1) (cntGo 1 (numGo 10 0 0 (l.drop (p + 1)) false).2.1 (numGo 10 0 0 (l.drop (p + 1)) false).2.2).2.2).1
        (cntGo 4 ((cntGo 1 (numGo 10 0 0 (l.drop (p + 1)) false).2.1 (numGo 10 0 0 (l.drop (p + 1)) false).2.2).2.1.drop (cntGo 1 (numGo 10 0 0 (l.drop (p + 1)) false).2.1 (numGo 10 0 0 (l.drop (p + 1)) false).2.2).1) (cntGo 1 (numGo 10 0 0 (l.drop (p + 1)) false).2.1 (numGo 10 0 0 (l.drop (p + 1)) false).2.2).2.2).2.1
        (cntGo 4 ((cntGo 1 (numGo 10 0 0 (l.drop (p + 1)) false).2.1 (numGo 10 0 0 (l.drop (p + 1)) false).2.2).2.1.drop (cntGo 1 (numGo 10 0 0 (l.drop (p + 1)) false).2.1 (numGo 10 0 0 (l.drop (p + 1)) false).2.2).1) (cntGo 1 (numGo 10 0 0 (l.drop (p + 1)) false).2.1 (numGo 10 0 0 (l.drop (p + 1)) false).2.2).2.2).2.2).1,
      (kidsGo (treeGo f) (cntGo 4 ((cntGo 1 (numGo 10 0 0 (l.drop (p + 1)) false).2.1 (numGo 10 0 0 (l.drop (p + 1)) false).2.2).2.1.drop (cntGo 1 (numGo 10 0 0 (l.drop (p + 1)) false).2.1 (numGo 10 0 0 (l.drop (p + 1)) false).2.2).1) (cntGo 1 (numGo 10 0 0 (l.drop (p + 1)) false).2.1 (numGo 10 0 0 (l.drop (p + 1)) false).2.2).2.2).1
        (cntGo 4 ((cntGo 1 (numGo 10 0 0 (l.drop (p + 1)) false).2.1 (numGo 10 0 0 (l.drop (p + 1)) false).2.2).2.1.drop (cntGo 1 (numGo 10 0 0 (l.drop (p + 1)) false).2.1 (numGo 10 0 0 (l.drop (p + 1)) false).2.2).1) (cntGo 1 (numGo 10 0 0 (l.drop (p + 1)) false).2.1 (numGo 10 0 0 (l.drop (p + 1)) false).2.2).2.2).2.1
        (cntGo 4 ((cntGo 1 (numGo 10 0 0 (l.drop (p + 1)) false).2.1 (numGo 10 0 0 (l.drop (p + 1)) false).2.2).2.1.drop (cntGo 1 (numGo 10 0 0 (l.drop (p + 1)) false).2.1 (numGo 10 0 0 (l.drop (p + 1)) false).2.2).1) (cntGo 1 (numGo 10 0 0 (l.drop (p + 1)) false).2.1 (numGo 10 0 0 (l.drop (p + 1)) false).2.2).2.2).2.2).2) := by
  rw [List.drop_eq_getElem_cons h, treeGo, if_neg (by decide)]
  rfl
theorem kb (r : Nat × List UInt8 × Bool) (h : r.2.2 = true) (f : Nat) : (kidsGo (treeGo f) r.1 r.2.1 r.2.2).2.2 = true := by
  rw [h]; exact kids_bad (tree_bad f) _ _
theorem cb (least : Nat) (l : List UInt8) (b : Bool) (h : b = true) : (cntGo least l b).2.2 = true := by rw [h]; exact cnt_bad _ _
theorem cnt_num (least : Nat) (l : List UInt8) (h : (numGo 10 0 0 l false).2.2 = true) : (cntGo least l false).2.2 = true := by
  unfold cntGo; dsimp only; rw [if_pos (.inl h)]
theorem cnt_many (least : Nat) {l r : List UInt8} (h : numGo 10 0 0 l false = (n, r, false)) (hn : r.length / least < n) : (cntGo least l false).2.2 = true := by
  unfold cntGo; dsimp only; rw [h, if_pos (.inr hn)]
theorem cnt_fine (least : Nat) {l r : List UInt8} (h : numGo 10 0 0 l false = (n, r, false)) (hn : n ≤ r.length / least) : cntGo least l false = (n, r, false) := by
  unfold cntGo; dsimp only; rw [h, if_neg (by rintro (hh | hh); (· cases hh); (· dsimp only at hh; omega))]
theorem tree_bad1 (h : p < l.length) (h1 : (numGo 10 0 0 (l.drop (p + 1)) false).2.2 = true) : (treeGo (f + 1) (l.drop p) false).2.2 = true := by
  rw [treeGo_at h]
  exact kb _ (cb _ _ _ (cb _ _ _ h1)) f
theorem tree_bad2 (h : p < l.length) (h1 : numGo 10 0 0 (l.drop (p + 1)) false = (x, l.drop q, false)) (h2 : (numGo 10 0 0 (l.drop q) false).2.2 = true) : (treeGo (f + 1) (l.drop p) false).2.2 = true := by
  rw [treeGo_at h, h1]
  exact kb _ (cb _ _ _ (cnt_num _ _ h2)) f
theorem tree_many (h : p < l.length) (h1 : numGo 10 0 0 (l.drop (p + 1)) false = (x, l.drop q, false)) (h2 : numGo 10 0 0 (l.drop q) false = (n, l.drop q2, false)) (hn : l.length - q2 < n) : (treeGo (f + 1) (l.drop p) false).2.2 = true := by
  rw [treeGo_at h, h1]
  exact kb _ (cb _ _ _ (cnt_many _ h2 (by simpa using hn))) f
theorem tree_bad3 (h : p < l.length) (h1 : numGo 10 0 0 (l.drop (p + 1)) false = (x, l.drop q, false)) (h2 : numGo 10 0 0 (l.drop q) false = (n, l.drop q2, false)) (hn : n ≤ l.length - q2)
    (h3 : (numGo 10 0 0 (l.drop (q2 + n)) false).2.2 = true) : (treeGo (f + 1) (l.drop p) false).2.2 = true := by
  rw [treeGo_at h, h1]
  dsimp only
  rw [cnt_fine 1 h2 (by simpa using hn)]
  dsimp only
  rw [List.drop_drop]
  exact kb _ (cnt_num _ _ h3) f
theorem kids_few (f : Nat) {m : Nat} {l : List UInt8} (h : (kidsGo (treeGo f) m l false).2.2 = false) : 4 * m ≤ l.length := by
  have he : kidsGo (treeGo f) m l false = ((kidsGo (treeGo f) m l false).1, (kidsGo (treeGo f) m l false).2.1, false) := trip h
  obtain ⟨_, h1, _⟩ := kids_was (tree_was f) _ _ _ _ _ he
  have h2 := encs_pos (kidsGo (treeGo f) m l false).1
  rw [kids_count] at h2
  rw [h1]
  simp
  omega
theorem tree_kids (h : p < l.length) (h1 : numGo 10 0 0 (l.drop (p + 1)) false = (x, l.drop q, false)) (h2 : numGo 10 0 0 (l.drop q) false = (n, l.drop q2, false)) (hn : n ≤ l.length - q2)
    (h3 : numGo 10 0 0 (l.drop (q2 + n)) false = (m, l.drop q3, false)) :
    ((kidsGo (treeGo f) m (l.drop q3) false).2.2 = true → (treeGo (f + 1) (l.drop p) false).2.2 = true) ∧
    ((kidsGo (treeGo f) m (l.drop q3) false).2.2 = false → treeGo (f + 1) (l.drop p) false = (.mk l[p].toNat (unfold64 x) ⟨((l.drop q2).take n).toArray⟩ (kidsGo (treeGo f) m (l.drop q3) false).1, (kidsGo (treeGo f) m (l.drop q3) false).2.1, false)) := by
  rw [treeGo_at h, h1]
  dsimp only
  rw [cnt_fine 1 h2 (by simpa using hn)]
  dsimp only
  rw [List.drop_drop]
  by_cases hm : m ≤ (l.drop q3).length / 4
  · rw [cnt_fine 4 h3 hm]
    dsimp only
    refine ⟨fun hh => hh, fun hh => ?_⟩
    exact congrArg (fun z => (_, z)) (congrArg Prod.snd (trip hh))
  · refine ⟨fun _ => kb _ (cnt_many 4 h3 (by omega)) f, fun hh => ?_⟩
    have := kids_few f hh
    omega
/-- Where one fails, all that is left fails. -/
theorem kids_stop (f : Nat) {i : Nat} {l : List UInt8} (h : (kidsGo (treeGo f) i l false).2.2 = true) : ∀ {m : Nat}, i ≤ m → (kidsGo (treeGo f) m l false).2.2 = true
  | 0, hm => by
    have : i = 0 := by omega
    subst this; exact h
  | m + 1, hm => by
    by_cases he : i = m + 1
    · subst he; exact h
    · have := kids_stop f h (m := m) (by omega)
      rw [kids_succ]
      dsimp only
      rw [this]
      exact tree_bad f _
end
end Go.Proofs.Ytffpepmfdjjjaaa

