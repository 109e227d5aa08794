/- Plain laws: numbers in seven bits a byte, signs folded. -/
import Derived.Test.YtffpepmfdjjjaaaS12
namespace Go.Proofs.Ytffpepmfdjjjaaa
open Go.Pure

theorem pow7 (k : Nat) : 2 ^ (7 * (k + 1)) = 128 * 2 ^ (7 * k) := by rw [Nat.mul_add, Nat.pow_add, Nat.mul_comm]
theorem u8of (n : Nat) (h : n < 256) : (UInt8.ofNat n).toNat = n := by simp; omega

theorem numGo_cons (n k x0 : Nat) (c : UInt8) (l : List UInt8) (b : Bool) (cn : Nat) (hc : c.toNat = cn) : numGo (n + 1) k x0 (c :: l) b =
    if cn < 128 ∨ numBad k cn b = true then (numVal k cn x0, l, numBad k cn b) else numGo n (k + 1) (numVal k cn x0) l (numBad k cn b) := by
  subst hc
  rfl
/-- What is written is read. -/
theorem num_there : ∀ (n k x0 y : Nat) (r : List UInt8), n = 10 - k → k ≤ 9 → x0 < 2 ^ (7 * k) → x0 + y * 2 ^ (7 * k) < 2 ^ 64 → (k = 0 ∨ 0 < y) →
    numGo n k x0 (varint y ++ r) false = (x0 + y * 2 ^ (7 * k), r, false)
  | 0, k, x0, y, r, hn, hk, _, _, _ => by omega
  | n + 1, k, x0, y, r, hn, hk, hx, hy, h0 => by
    have hpos : 0 < 2 ^ (7 * k) := Nat.two_pow_pos _
    have hlow : ∀ z, z ≤ y → x0 + z * 2 ^ (7 * k) < 2 ^ 64 := fun z hz => Nat.lt_of_le_of_lt (by have := Nat.mul_le_mul_right (2 ^ (7 * k)) hz; omega) hy
    by_cases hb : 128 ≤ y
    · rw [varint_big hb, List.cons_append, numGo_cons _ _ _ _ _ _ _ (u8of _ (by omega))]
      have h9 : k ≠ 9 := by
        rintro rfl
        have : 128 * 2 ^ (7 * 9) ≤ y * 2 ^ (7 * 9) := Nat.mul_le_mul_right _ hb
        have e : (2 : Nat) ^ (7 * 9) = 9223372036854775808 := by decide
        have e' : (2 : Nat) ^ 64 = 18446744073709551616 := by decide
        omega
      have hnb : numBad k (y % 128 + 128) false = false := by unfold numBad; rw [if_neg (by omega)]
      rw [hnb, if_neg (by simp)]
      have hm : (y % 128 + 128) % 128 = y % 128 := by omega
      have hv : numVal k (y % 128 + 128) x0 = x0 + y % 128 * 2 ^ (7 * k) := by
        unfold numVal; rw [hm]; exact Nat.mod_eq_of_lt (hlow _ (Nat.mod_le _ _))
      rw [hv]
      have hmul : y * 2 ^ (7 * k) = y % 128 * 2 ^ (7 * k) + y / 128 * 2 ^ (7 * (k + 1)) := by
        have hd : y = y % 128 + y / 128 * 128 := by omega
        conv => lhs; rw [hd]
        rw [Nat.add_mul, pow7, Nat.mul_assoc]
      have hs : x0 + y % 128 * 2 ^ (7 * k) < 2 ^ (7 * (k + 1)) := by
        have h1 : y % 128 ≤ 127 := by omega
        have h2 := Nat.mul_le_mul_right (2 ^ (7 * k)) h1
        rw [pow7]; omega
      rw [num_there n (k + 1) _ (y / 128) r (by omega) (by omega) hs (by rw [Nat.add_assoc, ← hmul]; exact hy) (by omega), Nat.add_assoc, ← hmul]
    · rw [varint_small hb, List.singleton_append, numGo_cons _ _ _ _ _ _ _ (u8of _ (by omega))]
      have hnb : numBad k y false = false := by
        unfold numBad
        rw [if_neg]
        rintro (⟨rfl, h1⟩ | ⟨h1, h2⟩)
        · have : 2 * 2 ^ (7 * 9) ≤ y * 2 ^ (7 * 9) := Nat.mul_le_mul_right _ h1
          have e : (2 : Nat) ^ (7 * 9) = 9223372036854775808 := by decide
          have e' : (2 : Nat) ^ 64 = 18446744073709551616 := by decide
          omega
        · omega
      rw [hnb, if_pos (.inl (by omega))]
      have hv : numVal k y x0 = x0 + y * 2 ^ (7 * k) := by
        unfold numVal; rw [Nat.mod_eq_of_lt (by omega : y < 128)]; exact Nat.mod_eq_of_lt hy
      rw [hv]
theorem num_read (x : Nat) (r : List UInt8) (hx : x < 2 ^ 64) : numGo 10 0 0 (varint x ++ r) false = (x, r, false) := by
  have := num_there 10 0 0 x r rfl (by omega) (by decide) (by simpa using hx) (.inl rfl)
  simpa using this

theorem num_bad : ∀ (n k x : Nat) (l : List UInt8), (numGo n k x l true).2.2 = true
  | 0, k, x, l => by simp [numGo]
  | n + 1, k, x, l => by
    have hb : ∀ c, numBad k c true = true := fun c => by unfold numBad; split <;> rfl
    have hr : (rdByte l true).2.2 = true := by cases l <;> rfl
    rw [numGo, hr, hb]
    simp

/-- What is read was written. -/
theorem num_back : ∀ (n k x0 : Nat) (l : List UInt8) (x : Nat) (r : List UInt8), n = 10 - k → k ≤ 10 → x0 < 2 ^ (7 * k) → numGo n k x0 l false = (x, r, false) →
    ∃ y, l = varint y ++ r ∧ x = x0 + y * 2 ^ (7 * k) ∧ (0 < k → 0 < y)
  | 0, k, x0, l, x, r, hn, hk, hx, h => by simp [numGo] at h
  | n + 1, k, x0, l, x, r, hn, hk, hx, h => by
    have hpos : 0 < 2 ^ (7 * k) := Nat.two_pow_pos _
    cases l with
    | nil =>
      have hb : numBad k 0 true = true := by unfold numBad; split <;> rfl
      have h' : (if (0 : Nat) < 128 ∨ numBad k 0 true = true then (numVal k 0 x0, ([] : List UInt8), numBad k 0 true) else numGo n (k + 1) (numVal k 0 x0) [] (numBad k 0 true)) = (x, r, false) := h
      rw [hb] at h'
      simp at h'
    | cons c l =>
      have hc := c.toNat_lt
      rw [numGo_cons _ _ _ _ _ _ _ rfl] at h
      have hnb : numBad k c.toNat false = false := by
        cases hh : numBad k c.toNat false with
        | false => rfl
        | true => rw [hh] at h; simp at h
      have hcond : ¬ ((k = 9 ∧ 1 < c.toNat) ∨ (0 < k ∧ c.toNat = 0)) := by
        intro hh; unfold numBad at hnb; rw [if_pos hh] at hnb; cases hnb
      rw [hnb] at h
      have e9 : (2 : Nat) ^ (7 * 9) = 9223372036854775808 := by decide
      have e64 : (2 : Nat) ^ 64 = 18446744073709551616 := by decide
      have hle : k ≤ 8 → 128 * 2 ^ (7 * k) ≤ 9223372036854775808 := fun h8 => by
        rw [← pow7, ← e9]; exact Nat.pow_le_pow_right (by decide) (by omega)
      have hfit : x0 + c.toNat % 128 * 2 ^ (7 * k) < 2 ^ 64 := by
        have h1 : c.toNat % 128 ≤ 127 := by omega
        have h2 := Nat.mul_le_mul_right (2 ^ (7 * k)) h1
        by_cases h8 : k ≤ 8
        · have := hle h8; omega
        · have hk9 : k = 9 := by omega
          subst hk9
          have h3 : c.toNat % 128 ≤ 1 := by omega
          have h4 := Nat.mul_le_mul_right (2 ^ (7 * 9)) h3
          omega
      have hv : numVal k c.toNat x0 = x0 + c.toNat % 128 * 2 ^ (7 * k) := Nat.mod_eq_of_lt hfit
      rw [hv] at h
      by_cases hs : c.toNat < 128
      · rw [if_pos (.inl hs)] at h
        cases h
        refine ⟨c.toNat, ?_, by rw [Nat.mod_eq_of_lt hs], by omega⟩
        rw [varint_small (by omega)]
        simp
      · rw [if_neg (by simp; omega)] at h
        have hs' : x0 + c.toNat % 128 * 2 ^ (7 * k) < 2 ^ (7 * (k + 1)) := by
          have h1 : c.toNat % 128 ≤ 127 := by omega
          have h2 := Nat.mul_le_mul_right (2 ^ (7 * k)) h1
          rw [pow7]; omega
        obtain ⟨y, h1, h2, h3⟩ := num_back n (k + 1) _ l x r (by omega) (by omega) hs' h
        have hy := h3 (by omega)
        refine ⟨c.toNat % 128 + 128 * y, ?_, ?_, by omega⟩
        · rw [varint_big (by omega)]
          have e1 : (c.toNat % 128 + 128 * y) / 128 = y := by omega
          have e2 : (c.toNat % 128 + 128 * y) % 128 + 128 = c.toNat := by omega
          rw [e1, e2, h1]
          simp
        · rw [h2, pow7, Nat.add_mul, Nat.add_assoc]
          congr 2
          rw [Nat.mul_comm 128 y, Nat.mul_assoc]
theorem num_was {l r : List UInt8} {x : Nat} (h : numGo 10 0 0 l false = (x, r, false)) : l = varint x ++ r := by
  obtain ⟨y, h1, h2, _⟩ := num_back 10 0 0 l x r rfl (by omega) (by decide) h
  simp at h2
  rw [h1, h2]

/-! ### Signs -/
theorem fold_eq (n : Int) (h : -9223372036854775808 ≤ n ∧ n < 9223372036854775808) : fold64 n = if n < 0 then (-2 * n - 1).toNat else (2 * n).toNat := by
  unfold fold64
  have u64i : ∀ m : Int, IntKind.u64.wrap m = m % 18446744073709551616 := fun m => by simp [IntKind.wrap, IntKind.bits, IntKind.signed]
  have ofE : ∀ m : Int, BitVec.ofInt 64 (IntKind.u64.wrap m) = BitVec.ofInt 64 m := fun m => by
    apply BitVec.eq_of_toNat_eq
    rw [u64i, BitVec.toNat_ofInt, BitVec.toNat_ofInt]
    congr 1
    omega
  have i64E : ∀ m : Int, BitVec.ofInt 64 (IntKind.i64.wrap m) = BitVec.ofInt 64 m := fun m => by
    apply BitVec.eq_of_toNat_eq
    rw [BitVec.toNat_ofInt, BitVec.toNat_ofInt]
    congr 1
    simp only [IntKind.wrap, IntKind.bits, IntKind.signed]
    simp
    omega
  rw [ofE, i64E, ofE]
  split
  · rename_i hneg
    have : n.fdiv 9223372036854775808 = -1 := by
      rw [Int.fdiv_eq_ediv_of_nonneg _ (by decide)]; omega
    rw [this]
    have : BitVec.ofInt 64 (-1) = BitVec.allOnes 64 := by decide
    rw [this, BitVec.xor_allOnes, BitVec.toNat_not, BitVec.toNat_ofInt]
    omega
  · rename_i hpos
    have : n.fdiv 9223372036854775808 = 0 := by
      rw [Int.fdiv_eq_ediv_of_nonneg _ (by decide)]; omega
    rw [this]
    have : BitVec.ofInt 64 0 = 0#64 := by decide
    rw [this, BitVec.xor_zero, BitVec.toNat_ofInt]
    omega
theorem unfold_fold (n : Int) (h : -9223372036854775808 ≤ n ∧ n < 9223372036854775808) : unfold64 (fold64 n) = n := by
  rw [fold_eq n h]
  unfold unfold64
  split <;> split <;> omega
theorem fold_unfold (x : Nat) (h : x < 2 ^ 64) : fold64 (unfold64 x) = x := by
  have hr : -9223372036854775808 ≤ unfold64 x ∧ unfold64 x < 9223372036854775808 := by unfold unfold64; split <;> omega
  rw [fold_eq _ hr]
  unfold unfold64
  split <;> split <;> omega
end Go.Proofs.Ytffpepmfdjjjaaa
