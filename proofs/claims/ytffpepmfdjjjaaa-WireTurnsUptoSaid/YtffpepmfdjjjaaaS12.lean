import Derived.Test.YtffpepmfdjjjaaaS11
namespace Go.Proofs.Ytffpepmfdjjjaaa
open Go.Pure
attribute [local irreducible] PW POps POpsD PO PC Cond

theorem kids_ok {g : List UInt8 → Bool → Tr × List UInt8 × Bool} (hg : ∀ l b, l.length ≤ 1000000 → (g l b).1.ok) (hgl : ∀ l b, (g l b).2.1.length ≤ l.length) : ∀ (n : Nat) (l : List UInt8) (b : Bool), l.length ≤ 1000000 → Tr.oks (kidsGo g n l b).1
  | 0, l, b, _ => by simp [kidsGo, Tr.oks]
  | n + 1, l, b, hl => by
    simp only [kidsGo, Tr.oks]
    exact ⟨hg l b hl, kids_ok hg hgl n _ _ (Nat.le_trans (hgl l b) hl)⟩
theorem tree_ok : ∀ (f : Nat) (l : List UInt8) (b : Bool), l.length ≤ 1000000 → (treeGo f l b).1.ok
  | 0, l, b, _ => by simp [treeGo, noTree, Tr.ok, Tr.oks]
  | f + 1, l, b, hl => by
    rw [treeGo]
    split
    · simp [noTree, Tr.ok, Tr.oks]
    · have h0 := rdByte_len l b
      have h1 := numGo_len 10 0 0 (rdByte l b).2.1 (rdByte l b).2.2
      dsimp only
      generalize numGo 10 0 0 (rdByte l b).2.1 (rdByte l b).2.2 = r1 at *
      have h2 := cntGo_le 1 (by decide) r1.2.1 r1.2.2
      generalize cntGo 1 r1.2.1 r1.2.2 = r2 at *
      have h3 := cntGo_le 4 (by decide) (r2.2.1.drop r2.1) r2.2.2
      generalize cntGo 4 (r2.2.1.drop r2.1) r2.2.2 = r3 at *
      simp only [List.length_drop] at h3
      simp only [Tr.ok]
      refine ⟨?_, kids_ok (tree_ok f) (tree_len f) _ _ _ (by omega)⟩
      rw [kids_count]
      simp only [maxLen]
      omega

/-- Four bytes as a number, the lowest one first. -/
def le32 (a b c d : UInt8) : BitVec 32 := BitVec.ofNat 32 (a.toNat + 256 * b.toNat + 65536 * c.toNat + 16777216 * d.toNat)
theorem u32n (n : Nat) (h : n < 4294967296) : IntKind.u32.wrap (n : Int) = (n : Int) := by
  simp [IntKind.wrap, IntKind.bits, IntKind.signed]; omega
theorem or8 (a b : Nat) (ha : a < 256) (hb : b < 256) : IntKind.u32.wrap ((BitVec.ofInt IntKind.u32.bits (a : Int) ||| BitVec.ofInt IntKind.u32.bits ((256 * b : Nat) : Int)).toNat : Int) = ((a + 256 * b : Nat) : Int) := by
  show IntKind.u32.wrap ((BitVec.ofInt 32 (a : Int) ||| BitVec.ofInt 32 ((256 * b : Nat) : Int)).toNat : Int) = _
  rw [BitVec.ofInt_natCast, BitVec.ofInt_natCast, BitVec.toNat_or, BitVec.toNat_ofNat, BitVec.toNat_ofNat, Nat.mod_eq_of_lt (by omega : a < 2 ^ 32), Nat.mod_eq_of_lt (by omega : 256 * b < 2 ^ 32)]
  have h := Nat.two_pow_add_eq_or_of_lt (i := 8) (by omega : a < 2 ^ 8) b
  rw [Nat.or_comm, show (256 : Nat) * b = 2 ^ 8 * b from rfl, ← h, u32n _ (by omega)]
  congr 1; omega
theorem or16 (a b : Nat) (ha : a < 65536) (hb : b < 256) : IntKind.u32.wrap ((BitVec.ofInt IntKind.u32.bits (a : Int) ||| BitVec.ofInt IntKind.u32.bits ((65536 * b : Nat) : Int)).toNat : Int) = ((a + 65536 * b : Nat) : Int) := by
  show IntKind.u32.wrap ((BitVec.ofInt 32 (a : Int) ||| BitVec.ofInt 32 ((65536 * b : Nat) : Int)).toNat : Int) = _
  rw [BitVec.ofInt_natCast, BitVec.ofInt_natCast, BitVec.toNat_or, BitVec.toNat_ofNat, BitVec.toNat_ofNat, Nat.mod_eq_of_lt (by omega : a < 2 ^ 32), Nat.mod_eq_of_lt (by omega : 65536 * b < 2 ^ 32)]
  have h := Nat.two_pow_add_eq_or_of_lt (i := 16) (by omega : a < 2 ^ 16) b
  rw [Nat.or_comm, show (65536 : Nat) * b = 2 ^ 16 * b from rfl, ← h, u32n _ (by omega)]
  congr 1; omega
theorem or24 (a b : Nat) (ha : a < 16777216) (hb : b < 256) : IntKind.u32.wrap ((BitVec.ofInt IntKind.u32.bits (a : Int) ||| BitVec.ofInt IntKind.u32.bits ((16777216 * b : Nat) : Int)).toNat : Int) = ((a + 16777216 * b : Nat) : Int) := by
  show IntKind.u32.wrap ((BitVec.ofInt 32 (a : Int) ||| BitVec.ofInt 32 ((16777216 * b : Nat) : Int)).toNat : Int) = _
  rw [BitVec.ofInt_natCast, BitVec.ofInt_natCast, BitVec.toNat_or, BitVec.toNat_ofNat, BitVec.toNat_ofNat, Nat.mod_eq_of_lt (by omega : a < 2 ^ 32), Nat.mod_eq_of_lt (by omega : 16777216 * b < 2 ^ 32)]
  have h := Nat.two_pow_add_eq_or_of_lt (i := 24) (by omega : a < 2 ^ 24) b
  rw [Nat.or_comm, show (16777216 : Nat) * b = 2 ^ 24 * b from rfl, ← h, u32n _ (by omega)]
  congr 1; omega
def shK (k : Nat) (c : UInt8) : Int := IntKind.u32.wrap (IntKind.u32.wrap (c.toNat : Int) * 2 ^ min ((k : Int)).toNat IntKind.u32.bits)
def orI (x y : Int) : Int := IntKind.u32.wrap ((BitVec.ofInt IntKind.u32.bits x ||| BitVec.ofInt IntKind.u32.bits y).toNat : Int)
theorem le32_eq (a b c d : UInt8) : orI (orI (orI (IntKind.u32.wrap (a.toNat : Int)) (shK 8 b)) (shK 16 c)) (shK 24 d) = ((le32 a b c d).toNat : Int) := by
  have ha := a.toNat_lt; have hb := b.toNat_lt; have hc := c.toNat_lt; have hd := d.toNat_lt
  have e0 : IntKind.u32.wrap (a.toNat : Int) = (a.toNat : Int) := u32n _ (by omega)
  have e1 : shK 8 b = ((256 * b.toNat : Nat) : Int) := by
    unfold shK
    rw [u32n _ (by omega), show min ((8 : Nat) : Int).toNat IntKind.u32.bits = 8 from rfl, show (b.toNat : Int) * 2 ^ 8 = ((256 * b.toNat : Nat) : Int) by omega, u32n _ (by omega)]
  have e2 : shK 16 c = ((65536 * c.toNat : Nat) : Int) := by
    unfold shK
    rw [u32n _ (by omega), show min ((16 : Nat) : Int).toNat IntKind.u32.bits = 16 from rfl, show (c.toNat : Int) * 2 ^ 16 = ((65536 * c.toNat : Nat) : Int) by omega, u32n _ (by omega)]
  have e3 : shK 24 d = ((16777216 * d.toNat : Nat) : Int) := by
    unfold shK
    rw [u32n _ (by omega), show min ((24 : Nat) : Int).toNat IntKind.u32.bits = 24 from rfl, show (d.toNat : Int) * 2 ^ 24 = ((16777216 * d.toNat : Nat) : Int) by omega, u32n _ (by omega)]
  rw [e0, e1, e2, e3]
  unfold orI le32
  rw [or8 _ _ (by omega) (by omega), or16 _ _ (by omega) (by omega), or24 _ _ (by omega) (by omega)]
  simp
  omega
end Go.Proofs.Ytffpepmfdjjjaaa
