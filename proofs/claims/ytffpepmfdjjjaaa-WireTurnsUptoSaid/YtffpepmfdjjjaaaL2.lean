/- Plain laws: a tree comes back from its bytes; bytes that are read are their tree's. -/
import Derived.Test.YtffpepmfdjjjaaaL1
namespace Go.Proofs.Ytffpepmfdjjjaaa
open Go.Pure

mutual
/-- Tags of one byte, numbers of 64 bits. -/
def Tr.fine : Tr → Prop
  | .mk tag n _ kids => (0 ≤ tag ∧ tag ≤ 255) ∧ (-9223372036854775808 ≤ n ∧ n < 9223372036854775808) ∧ Tr.fines kids
def Tr.fines : List Tr → Prop
  | [] => True
  | t :: r => t.fine ∧ Tr.fines r
end
mutual
/-- How many levels. -/
def Tr.tall : Tr → Nat
  | .mk _ _ _ kids => Tr.talls kids + 1
def Tr.talls : List Tr → Nat
  | [] => 0
  | t :: r => max t.tall (Tr.talls r)
end

theorem varint_pos (x : Nat) : 1 ≤ (varint x).length := by
  by_cases h : 128 ≤ x
  · rw [varint_big h]; simp
  · rw [varint_small h]; simp
theorem enc_pos : ∀ t : Tr, 4 ≤ (enc t).length
  | .mk tag n text kids => by
    have h1 := varint_pos (fold64 n)
    have h2 := varint_pos text.size
    have h3 := varint_pos kids.length
    simp only [enc, List.length_cons, List.length_append]
    omega
theorem encs_pos : ∀ l : List Tr, 4 * l.length ≤ (encs l).length
  | [] => by simp
  | t :: r => by
    have h1 := enc_pos t
    have h2 := encs_pos r
    simp only [encs, List.length_append, List.length_cons]
    omega

theorem cnt_read (least m : Nat) (r : List UInt8) (hm : m < 2 ^ 64) (h : m ≤ r.length / least) : cntGo least (varint m ++ r) false = (m, r, false) := by
  unfold cntGo
  rw [num_read m r hm]
  dsimp only
  rw [if_neg (by simp; omega)]
theorem cnt_bad (least : Nat) (l : List UInt8) : (cntGo least l true).2.2 = true := by
  unfold cntGo
  dsimp only
  rw [if_pos (.inl (num_bad _ _ _ _))]
theorem cnt_was {least m : Nat} {l r : List UInt8} {b : Bool} (h : cntGo least l b = (m, r, false)) : b = false ∧ l = varint m ++ r := by
  cases b with
  | true => have := cnt_bad least l; rw [h] at this; cases this
  | false =>
    refine ⟨rfl, ?_⟩
    unfold cntGo at h
    dsimp only at h
    split at h
    · cases h
    · rename_i hh
      have hb : (numGo 10 0 0 l false).2.2 = false := by
        cases hx : (numGo 10 0 0 l false).2.2 with
        | false => rfl
        | true => exact absurd (.inl hx) hh
      apply num_was
      have e : numGo 10 0 0 l false = ((numGo 10 0 0 l false).1, (numGo 10 0 0 l false).2.1, (numGo 10 0 0 l false).2.2) := rfl
      rw [e, hb]
      exact h

theorem tree_bad : ∀ (f : Nat) (l : List UInt8), (treeGo f l true).2.2 = true
  | 0, l => by simp [treeGo]
  | f + 1, l => by simp [treeGo]
theorem kids_bad {g : List UInt8 → Bool → Tr × List UInt8 × Bool} (hg : ∀ l, (g l true).2.2 = true) : ∀ (n : Nat) (l : List UInt8), (kidsGo g n l true).2.2 = true
  | 0, l => by simp [kidsGo]
  | n + 1, l => by
    simp only [kidsGo]
    rw [hg]
    exact kids_bad hg n _

theorem byteI_nat (tag : Int) (h : 0 ≤ tag ∧ tag ≤ 255) : ((byteI tag).toNat : Int) = tag := by
  simp [byteI]
  omega
theorem text_eq (s : ByteArray) : (⟨s.data.toList.toArray⟩ : ByteArray) = s := by cases s; simp

theorem kids_read {f : Nat} (ht : ∀ (t : Tr) (r : List UInt8), t.fine → t.tall ≤ f → (enc t ++ r).length < 2 ^ 63 → treeGo f (enc t ++ r) false = (t, r, false)) :
    ∀ (l : List Tr) (r : List UInt8), Tr.fines l → Tr.talls l ≤ f → (encs l ++ r).length < 2 ^ 63 → kidsGo (treeGo f) l.length (encs l ++ r) false = (l, r, false)
  | [], r, _, _, _ => by simp [kidsGo, encs]
  | t :: l, r, hf, hl, hs => by
    simp only [Tr.fines, Tr.talls, encs] at hf hl hs
    simp only [List.length_cons, kidsGo, encs]
    rw [List.append_assoc] at hs ⊢
    rw [ht t (encs l ++ r) hf.1 (by omega) hs]
    dsimp only
    rw [kids_read ht l r hf.2 (by omega) (by simp only [List.length_append] at hs ⊢; omega)]
theorem tree_read : ∀ (f : Nat) (t : Tr) (r : List UInt8), t.fine → t.tall ≤ f → (enc t ++ r).length < 2 ^ 63 → treeGo f (enc t ++ r) false = (t, r, false)
  | 0, .mk tag n text kids, r, _, h, _ => by simp [Tr.tall] at h
  | f + 1, .mk tag n text kids, r, hf, hl, hs => by
    simp only [Tr.fine, Tr.tall] at hf hl
    have h1 := encs_pos kids
    have hlen : (enc (.mk tag n text kids) ++ r).length = 1 + (varint (fold64 n)).length + (varint text.size).length + text.size + (varint kids.length).length + (encs kids).length + r.length := by
      simp only [enc, List.length_cons, List.length_append, Array.length_toList]
      show _ + (_ + (text.size + _)) + 1 + _ = _
      omega
    rw [hlen] at hs
    rw [treeGo, if_neg (by decide)]
    simp only [enc, List.cons_append, rdByte, List.append_assoc]
    rw [num_read _ _ (fold64_lt n)]
    dsimp only
    rw [cnt_read 1 text.size _ (by omega) (by simp only [List.length_append, Array.length_toList, Nat.div_one]; show text.size ≤ text.size + _; omega)]
    dsimp only
    have e1 : (text.data.toList ++ (varint kids.length ++ (encs kids ++ r))).drop text.size = varint kids.length ++ (encs kids ++ r) := List.drop_left' (by simp)
    have e2 : (text.data.toList ++ (varint kids.length ++ (encs kids ++ r))).take text.size = text.data.toList := List.take_left' (by simp)
    rw [e1, e2, cnt_read 4 kids.length _ (by omega) (by simp only [List.length_append]; omega)]
    dsimp only
    rw [kids_read (tree_read f) kids r hf.2.2 (by omega) (by simp only [List.length_append]; omega)]
    rw [byteI_nat _ hf.1, unfold_fold n hf.2.1, text_eq]

theorem kids_was {f : Nat} (ht : ∀ (l : List UInt8) (b : Bool) (t : Tr) (r : List UInt8), treeGo f l b = (t, r, false) → b = false ∧ l = enc t ++ r ∧ t.fine) :
    ∀ (n : Nat) (l : List UInt8) (b : Bool) (k : List Tr) (r : List UInt8), kidsGo (treeGo f) n l b = (k, r, false) → b = false ∧ l = encs k ++ r ∧ Tr.fines k
  | 0, l, b, k, r, h => by
    simp only [kidsGo] at h
    cases h
    simp [encs, Tr.fines]
  | n + 1, l, b, k, r, h => by
    simp only [kidsGo] at h
    have e : treeGo f l b = ((treeGo f l b).1, (treeGo f l b).2.1, (treeGo f l b).2.2) := rfl
    have hk := congrArg (fun x => x.2) h
    have hk1 := congrArg (fun x => x.1) h
    dsimp only at hk hk1
    have e2 : kidsGo (treeGo f) n (treeGo f l b).2.1 (treeGo f l b).2.2 = ((kidsGo (treeGo f) n (treeGo f l b).2.1 (treeGo f l b).2.2).1, r, false) := by rw [← hk]
    obtain ⟨h1, h2, h3⟩ := kids_was ht n _ _ _ _ e2
    rw [h1] at e
    obtain ⟨g1, g2, g3⟩ := ht l b _ _ e
    refine ⟨g1, ?_, ?_⟩
    · rw [← hk1]
      simp only [encs]
      rw [List.append_assoc, ← h2]
      exact g2
    · rw [← hk1]
      simp only [Tr.fines]
      exact ⟨g3, h3⟩
theorem tree_was : ∀ (f : Nat) (l : List UInt8) (b : Bool) (t : Tr) (r : List UInt8), treeGo f l b = (t, r, false) → b = false ∧ l = enc t ++ r ∧ t.fine
  | 0, l, b, t, r, h => by simp [treeGo] at h
  | f + 1, l, b, t, r, h => by
    cases b with
    | true => have := tree_bad (f + 1) l; rw [h] at this; cases this
    | false =>
      rw [treeGo, if_neg (by decide)] at h
      dsimp only at h
      cases l with
      | nil =>
        have n1 := num_bad 10 0 0 []
        have : (rdByte [] false) = (0, [], true) := rfl
        rw [this] at h
        dsimp only at h
        generalize numGo 10 0 0 [] true = r1 at h n1
        obtain ⟨x, l1, b1⟩ := r1
        dsimp only at n1 h
        subst n1
        have n2 := cnt_bad 1 l1
        generalize cntGo 1 l1 true = r2 at h n2
        obtain ⟨y, l2, b2⟩ := r2
        dsimp only at n2 h
        subst n2
        have n3 := cnt_bad 4 (l2.drop y)
        generalize cntGo 4 (l2.drop y) true = r3 at h n3
        obtain ⟨z, l3, b3⟩ := r3
        dsimp only at n3 h
        subst n3
        have n4 := kids_bad (tree_bad f) z l3
        have := congrArg (fun x => x.2.2) h
        dsimp only at this
        rw [n4] at this
        cases this
      | cons c l =>
        have : (rdByte (c :: l) false) = (c.toNat, l, false) := rfl
        rw [this] at h
        dsimp only at h
        have hx := numGo_lt 10 0 0 l false
        cases hr1 : numGo 10 0 0 l false with
        | mk x p1 =>
        obtain ⟨l1, b1⟩ := p1
        rw [hr1] at h hx
        dsimp only at h hx
        cases hr2 : cntGo 1 l1 b1 with
        | mk y p2 =>
        obtain ⟨l2, b2⟩ := p2
        have hy := (cntGo_le 1 (by decide) l1 b1).1
        rw [hr2] at h hy
        dsimp only at h hy
        cases hr3 : cntGo 4 (l2.drop y) b2 with
        | mk z p3 =>
        obtain ⟨l3, b3⟩ := p3
        rw [hr3] at h
        dsimp only at h
        have hk := congrArg (fun x => x.2) h
        have ht := congrArg (fun x => x.1) h
        dsimp only at hk ht
        have hc := kids_count (treeGo f) z l3 b3
        have e2 : kidsGo (treeGo f) z l3 b3 = ((kidsGo (treeGo f) z l3 b3).1, r, false) := by rw [← hk]
        obtain ⟨k1, k2, k3⟩ := kids_was (tree_was f) z l3 b3 _ _ e2
        subst k1
        obtain ⟨q1, q2⟩ := cnt_was hr3
        subst q1
        obtain ⟨s1, s2⟩ := cnt_was hr2
        subst s1
        have s3 := num_was hr1
        refine ⟨rfl, ?_, ?_⟩
        · rw [← ht]
          simp only [enc]
          rw [hc, fold_unfold x hx]
          have e3 : (⟨(l2.take y).toArray⟩ : ByteArray).size = y := by
            show (l2.take y).toArray.size = y
            simp; omega
          have e4 : byteI (c.toNat : Int) = c := by
            have := c.toNat_lt
            simp [byteI]
            have : ((c.toNat : Int) % 256).toNat = c.toNat := by omega
            rw [this]; simp
          rw [e3, e4, s3, s2, List.cons_append]
          simp only [List.append_assoc]
          rw [← k2, ← q2]
          simp
        · rw [← ht]
          simp only [Tr.fine]
          refine ⟨?_, ?_, k3⟩
          · have := c.toNat_lt; omega
          · unfold unfold64; split <;> omega
end Go.Proofs.Ytffpepmfdjjjaaa
