/- A generic layer: a region that draws its order comes to what the order of the text comes to. -/
import Derived.Test.YtffpepmfdjjjaaaPureH
namespace Go.Pure
open Go

/-- Operations that leave memory as it is, and read no box. -/
def intB (P : Program) (t : TypeId) : Option IntKind := match P.underlying t with | some (.int k) => some k | _ => none
def kindB (P : Program) : Op → Nat
  | .move _ | .assign _ | .pick .. | .fieldAddr .. | .field .. | .unOp .. | .binOp .. | .extract .. | .indexAddr .. | .index .. | .slice .. | .nilCheck _ | .makeFunc .. | .build .. => 0
  | .load .. => 1
  | .call { callee := .builtin .len, .. } | .call { callee := .builtin .min, .. } | .call { callee := .builtin .max, .. } => 0
  | .convert _ dst _ => match P.underlying dst with | some (.slice _) | none => 2 | _ => 0
  | .store .. => 3
  | _ => 2

def tmpsOf (o : Oper) : List Tmp := o.op.operands.toList.filterMap fun | .tmp t => some t | _ => none
/-- The slots that an operation looks at: its operands', its guard's. -/
def looks (all : List Oper) (o : Oper) : List Tmp := tmpsOf o ++ (match o.guard with | some (g, _) => ((all[g]?).bind (·.dst)).toList | none => [])

def memB : List Tmp → Tmp → Bool
  | [], _ => false
  | a :: r, t => bif Nat.beq t a then true else memB r t
theorem memB_iff : ∀ {l : List Tmp} {t : Tmp}, memB l t = true ↔ t ∈ l
  | [], t => by simp [memB]
  | a :: r, t => by
    unfold memB
    cases e : Nat.beq t a with
    | true => simp [Nat.eq_of_beq_eq_true e]
    | false =>
      have : t ≠ a := fun h => by rw [h, Nat.beq_refl] at e; cases e
      simp [this, memB_iff (l := r)]

def optMem (l : List Tmp) : Option Tmp → Bool | some t => memB l t | none => false
def optEq : Option Tmp → Option Tmp → Bool | some s, some t => Nat.beq s t | _, _ => false

/-- Must two operations keep their order? -/
def conf (P : Program) (all : List Oper) (x y : Oper) : Bool :=
  optMem (looks all y) x.dst || optMem (looks all x) y.dst || optEq x.dst y.dst ||
  (Nat.ble 2 (kindB P x.op) && Nat.ble 2 (kindB P y.op)) || (Nat.beq 1 (kindB P x.op) && Nat.beq 3 (kindB P y.op)) || (Nat.beq 3 (kindB P x.op) && Nat.beq 1 (kindB P y.op))

def chunk (W n t : Nat) : Nat := (n >>> (t * W)) % 2 ^ W
/-- All that must come before an operation. -/
def mask (W bf : Nat) : List Edge → Nat → Nat
  | [], s => s
  | e :: r, s => bif Region.binds .any e then mask W bf r (s ||| (2 ^ e.on ||| chunk W bf e.on)) else mask W bf r s
def orAll (W n : Nat) : List Tmp → Nat → Nat
  | [], s => s
  | t :: r, s => orAll W n r (s ||| chunk W n t)
def putAll (W j : Nat) : List Tmp → Nat → Nat
  | [], s => s
  | t :: r, s => putAll W j r (s ||| 2 ^ (t * W + j))
def must (W wr rd c ld st : Nat) (ls : List Tmp) (d : List Tmp) (k : Nat) : Nat :=
  orAll W wr ls 0 ||| (orAll W rd d 0 ||| (orAll W wr d 0 ||| ((bif Nat.ble 2 k then c else 0) ||| ((bif Nat.beq k 3 then ld else 0) ||| (bif Nat.beq k 1 then st else 0)))))
/-- Each pair that must keep its order is ordered; edges lead back. -/
def orderF (P : Program) (W : Nat) (all : List Oper) : List Oper → Nat → (wr rd bf c ld st : Nat) → Bool
  | [], _, _, _, _, _, _, _ => true
  | y :: r, j, wr, rd, bf, c, ld, st =>
    Nat.blt j W && (y.after.toList.all (fun e => Nat.blt e.on j) &&
    (Nat.beq (Nat.land (must W wr rd c ld st (looks all y) y.dst.toList (kindB P y.op)) (mask W bf y.after.toList 0)) (must W wr rd c ld st (looks all y) y.dst.toList (kindB P y.op)) &&
    orderF P W all r (j + 1) (putAll W j y.dst.toList wr) (putAll W j (looks all y) rd) (bf ||| (mask W bf y.after.toList 0 % 2 ^ W) <<< (j * W))
      (bif Nat.ble 2 (kindB P y.op) then c ||| 2 ^ j else c) (bif Nat.beq (kindB P y.op) 1 then ld ||| 2 ^ j else ld) (bif Nat.beq (kindB P y.op) 3 then st ||| 2 ^ j else st)))
def drawB (P : Program) (all : List Oper) : Bool := orderF P all.length all all 0 0 0 0 0 0 0

section
/-- Closed under what must come first. -/
def ClosedS (all : List Oper) (S : Nat → Prop) : Prop := ∀ j o, all[j]? = some o → S j → ∀ e ∈ o.after, Region.binds .any e = true → S e.on

theorem chunk_bit (W n t i : Nat) : (chunk W n t).testBit i = (decide (i < W) && n.testBit (t * W + i)) := by
  simp [chunk, Nat.testBit_mod_two_pow, Nat.testBit_shiftRight]
theorem two_bit (k i : Nat) : (2 ^ k).testBit i = decide (k = i) := Nat.testBit_two_pow
theorem mask_spec {W bf : Nat} {S : Nat → Prop} : ∀ (l : List Edge) (s : Nat), (∀ e ∈ l, Region.binds .any e = true → S e.on ∧ ∀ i, i < W → bf.testBit (e.on * W + i) = true → S i) → (∀ i, s.testBit i = true → S i) → ∀ i, (mask W bf l s).testBit i = true → S i
  | [], s, _, hs, i, h => hs i h
  | e :: r, s, hl, hs, i, h => by
    unfold mask at h
    cases hb : Region.binds .any e with
    | false => rw [hb, cond_false] at h; exact mask_spec r s (fun e he => hl e (by simp [he])) hs i h
    | true =>
      rw [hb, cond_true] at h
      refine mask_spec r _ (fun e he => hl e (by simp [he])) (fun i hi => ?_) i h
      obtain ⟨h1, h2⟩ := hl e (by simp) hb
      simp only [Nat.testBit_or, two_bit, chunk_bit, Bool.or_eq_true, Bool.and_eq_true, decide_eq_true_eq] at hi
      rcases hi with hi | rfl | ⟨hi, hj⟩
      · exact hs i hi
      · exact h1
      · exact h2 i hi hj
theorem orAll_keep {W n i : Nat} : ∀ (l : List Tmp) (s : Nat), s.testBit i = true → (orAll W n l s).testBit i = true
  | [], _, h => h
  | t :: r, s, h => orAll_keep r _ (by simp [Nat.testBit_or, h])
theorem orAll_spec {W n i t : Nat} (hi : i < W) (hn : n.testBit (t * W + i) = true) : ∀ (l : List Tmp) (s : Nat), t ∈ l → (orAll W n l s).testBit i = true
  | [], _, h => by simp at h
  | u :: r, s, h => by
    unfold orAll
    rcases List.mem_cons.1 h with rfl | h
    · exact orAll_keep r _ (by simp [Nat.testBit_or, chunk_bit, hi, hn])
    · exact orAll_spec hi hn r _ h
theorem putAll_keep {W j i : Nat} : ∀ (l : List Tmp) (s : Nat), s.testBit i = true → (putAll W j l s).testBit i = true
  | [], _, h => h
  | t :: r, s, h => putAll_keep r _ (by simp [Nat.testBit_or, h])
theorem putAll_spec {W j t : Nat} : ∀ (l : List Tmp) (s : Nat), t ∈ l → (putAll W j l s).testBit (t * W + j) = true
  | [], _, h => by simp at h
  | u :: r, s, h => by
    unfold putAll
    rcases List.mem_cons.1 h with rfl | h
    · exact putAll_keep r _ (by simp [Nat.testBit_or, two_bit])
    · exact putAll_spec r _ h
theorem optMem_some {l : List Tmp} {d : Option Tmp} (h : optMem l d = true) : ∃ t, d = some t ∧ t ∈ l := by
  cases d with
  | none => cases h
  | some t => exact ⟨t, rfl, memB_iff.1 h⟩

/-- What is known of the first j operations. -/
structure OInv (P : Program) (W : Nat) (all : List Oper) (j wr rd bf c ld st : Nat) : Prop where
  hwr : ∀ i x t, i < j → all[i]? = some x → x.dst = some t → wr.testBit (t * W + i) = true
  hrd : ∀ i x t, i < j → all[i]? = some x → t ∈ looks all x → rd.testBit (t * W + i) = true
  hbf : ∀ S, ClosedS all S → ∀ k, k < j → S k → ∀ i, i < W → bf.testBit (k * W + i) = true → S i
  hbz : ∀ p, j * W ≤ p → bf.testBit p = false
  hc : ∀ i x, i < j → all[i]? = some x → 2 ≤ kindB P x.op → c.testBit i = true
  hld : ∀ i x, i < j → all[i]? = some x → kindB P x.op = 1 → ld.testBit i = true
  hst : ∀ i x, i < j → all[i]? = some x → kindB P x.op = 3 → st.testBit i = true

theorem orderF_spec {P : Program} {W : Nat} {all : List Oper} : ∀ (l : List Oper) (j wr rd bf c ld st : Nat), (∀ k, l[k]? = all[j + k]?) → OInv P W all j wr rd bf c ld st → orderF P W all l j wr rd bf c ld st = true →
    ∀ k y, j ≤ k → all[k]? = some y → (∀ e ∈ y.after, e.on < k) ∧ ∀ S, ClosedS all S → ∀ i x, i < k → all[i]? = some x → conf P all x y = true → S k → S i
  | [], j, _, _, _, _, _, _, hl, _, _, k, y, hk, hy => by
    have := hl (k - j)
    rw [show j + (k - j) = k by omega, hy] at this
    simp at this
  | y0 :: r, j, wr, rd, bf, c, ld, st, hl, hI, h, k, y, hk, hy => by
    simp only [orderF, Bool.and_eq_true] at h
    obtain ⟨hjW, hback, hmust, hrest⟩ := h
    have hjW' : j < W := by simpa [Nat.blt_eq] using hjW
    have hy0 : all[j]? = some y0 := by simpa using (hl 0).symm
    have hon : ∀ e ∈ y0.after, e.on < j := fun e he => by
      have := List.all_eq_true.1 hback e (by simpa using he)
      simpa [Nat.blt_eq] using this
    have hmask : ∀ S, ClosedS all S → S j → ∀ i, (mask W bf y0.after.toList 0).testBit i = true → S i := fun S hS hSj =>
      mask_spec _ 0 (fun e he hb => by
        have h1 := hS j y0 hy0 hSj e (by simpa using he) hb
        exact ⟨h1, fun i hi hbit => hI.hbf S hS e.on (hon e (by simpa using he)) h1 i hi hbit⟩) (by simp)
    by_cases e : k = j
    · subst e
      rw [hy0] at hy
      cases hy
      refine ⟨hon, fun S hS i x hi hx hc hk => hmask S hS hk i ?_⟩
      have hiW : i < W := by omega
      have hm : (must W wr rd c ld st (looks all y0) y0.dst.toList (kindB P y0.op)).testBit i = true := by
        simp only [conf, Bool.or_eq_true, Bool.and_eq_true, Nat.ble_eq, Nat.beq_eq] at hc
        unfold must
        simp only [Nat.testBit_or, Bool.or_eq_true]
        rcases hc with ((((hc | hc) | hc) | hc) | hc) | hc
        · obtain ⟨t, h1, h2⟩ := optMem_some hc
          exact .inl (orAll_spec hiW (hI.hwr i x t hi hx h1) _ _ h2)
        · obtain ⟨t, h1, h2⟩ := optMem_some hc
          exact .inr (.inl (orAll_spec hiW (hI.hrd i x t hi hx h2) _ _ (by simp [h1])))
        · unfold optEq at hc
          split at hc
          · rename_i s t h1 h2
            have e := Nat.eq_of_beq_eq_true hc
            subst e
            exact .inr (.inr (.inl (orAll_spec hiW (hI.hwr i x _ hi hx h1) _ _ (by simp [h2]))))
          · cases hc
        · refine .inr (.inr (.inr (.inl ?_)))
          rw [Nat.ble_eq_true_of_le hc.2, cond_true]
          exact hI.hc i x hi hx hc.1
        · refine .inr (.inr (.inr (.inr (.inl ?_))))
          rw [← hc.2]
          exact hI.hld i x hi hx hc.1.symm
        · refine .inr (.inr (.inr (.inr (.inr ?_))))
          rw [← hc.2]
          exact hI.hst i x hi hx hc.1.symm
      have he := Nat.eq_of_beq_eq_true hmust
      rw [← he] at hm
      have hm' : ((must W wr rd c ld st (looks all y0) y0.dst.toList (kindB P y0.op)) &&& (mask W bf y0.after.toList 0)).testBit i = true := hm
      rw [Nat.testBit_and, Bool.and_eq_true] at hm'
      exact hm'.2
    · refine orderF_spec r (j + 1) _ _ _ _ _ _ (fun q => by have := hl (q + 1); simpa [Nat.add_assoc, Nat.add_comm 1 q] using this) ?_ hrest k y (by omega) hy
      have hcase : ∀ i x, i < j + 1 → all[i]? = some x → i < j ∨ (i = j ∧ x = y0) := fun i x hi hx => by
        by_cases e : i = j
        · subst e; rw [hy0] at hx; cases hx; exact .inr ⟨rfl, rfl⟩
        · exact .inl (by omega)
      refine ⟨?_, ?_, ?_, ?_, ?_, ?_, ?_⟩
      · intro i x t hi hx hd
        rcases hcase i x hi hx with h1 | ⟨rfl, rfl⟩
        · exact putAll_keep _ _ (hI.hwr i x t h1 hx hd)
        · exact putAll_spec _ _ (by simp [hd])
      · intro i x t hi hx hd
        rcases hcase i x hi hx with h1 | ⟨rfl, rfl⟩
        · exact putAll_keep _ _ (hI.hrd i x t h1 hx hd)
        · exact putAll_spec _ _ hd
      · intro S hS q hq hSq i hi hbit
        simp only [Nat.testBit_or, Nat.testBit_shiftLeft, Nat.testBit_mod_two_pow, Bool.or_eq_true, Bool.and_eq_true, decide_eq_true_eq] at hbit
        by_cases e : q = j
        · subst e
          rcases hbit with hbit | ⟨_, _, hbit⟩
          · rw [hI.hbz _ (Nat.le_add_right _ _)] at hbit; cases hbit
          · rw [show q * W + i - q * W = i by omega] at hbit
            exact hmask S hS hSq i hbit
        · have hqj : q < j := by omega
          rcases hbit with hbit | ⟨hge, _⟩
          · exact hI.hbf S hS q hqj hSq i hi hbit
          · exfalso
            have : (q + 1) * W ≤ j * W := Nat.mul_le_mul_right _ hqj
            rw [Nat.add_mul, Nat.one_mul] at this
            omega
      · intro p hp
        rw [Nat.add_mul, Nat.one_mul] at hp
        simp only [Nat.testBit_or, Nat.testBit_shiftLeft, Nat.testBit_mod_two_pow, hI.hbz p (by omega), Bool.false_or]
        rw [decide_eq_false (show ¬ p - j * W < W by omega)]
        simp
      · intro i x hi hx hk2
        rcases hcase i x hi hx with h1 | ⟨rfl, rfl⟩
        · have := hI.hc i x h1 hx hk2
          cases Nat.ble 2 (kindB P y0.op) <;> simp [Nat.testBit_or, this]
        · rw [Nat.ble_eq_true_of_le hk2]; simp [Nat.testBit_or, two_bit]
      · intro i x hi hx hk2
        rcases hcase i x hi hx with h1 | ⟨rfl, rfl⟩
        · have := hI.hld i x h1 hx hk2
          cases Nat.beq (kindB P y0.op) 1 <;> simp [Nat.testBit_or, this]
        · rw [hk2]; simp [Nat.testBit_or, two_bit]
      · intro i x hi hx hk2
        rcases hcase i x hi hx with h1 | ⟨rfl, rfl⟩
        · have := hI.hst i x h1 hx hk2
          cases Nat.beq (kindB P y0.op) 3 <;> simp [Nat.testBit_or, this]
        · rw [hk2]; simp [Nat.testBit_or, two_bit]

/-- What the check gives. -/
structure Ordered (P : Program) (all : List Oper) : Prop where
  back : ∀ (k : Nat) (y : Oper), all[k]? = some y → ∀ e ∈ y.after, e.on < k
  pair : ∀ (S : Nat → Prop), ClosedS all S → ∀ (k : Nat) (y : Oper) (i : Nat) (x : Oper), all[k]? = some y → i < k → all[i]? = some x → conf P all x y = true → S k → S i

theorem ordered_of {P : Program} {all : List Oper} (h : drawB P all = true) : Ordered P all := by
  have h1 := orderF_spec all 0 0 0 0 0 0 0 (by simp) ⟨by simp, by simp, by simp, by simp, by simp, by simp, by simp⟩ h
  exact ⟨fun k y hy => (h1 k y (Nat.zero_le _) hy).1, fun S hS k y i x hy hi hx hc hk => (h1 k y (Nat.zero_le _) hy).2 S hS i x hi hx hc hk⟩
end

/-- The same boxes, at some places (from 10000 on: what may be written). -/
def KMu (b : Nat) (H H' : PH) : Prop := cond (Nat.ble 10000 b) (H.mu[b - 10000]? = H'.mu[b - 10000]?) (H.bx[b]? = H'.bx[b]?)
theorem KMu.refl (b : Nat) (H : PH) : KMu b H H := by
  unfold KMu
  cases Nat.ble 10000 b <;> simp
theorem KMu.symm {b : Nat} {H H' : PH} (h : KMu b H H') : KMu b H' H := by
  unfold KMu at *
  cases hb : Nat.ble 10000 b <;> rw [hb] at h <;> simp only [cond_true, cond_false] at * <;> exact h.symm
theorem KMu.trans {b : Nat} {H H' H'' : PH} (h : KMu b H H') (k : KMu b H' H'') : KMu b H H'' := by
  unfold KMu at *
  cases hb : Nat.ble 10000 b <;> rw [hb] at h k <;> simp only [cond_true, cond_false] at * <;> exact h.trans k
def KEq : List Nat → PH → PH → Prop
  | [], _, _ => True
  | b :: K, H, H' => KMu b H H' ∧ KEq K H H'
theorem KEq.refl : ∀ (K : List Nat) (H : PH), KEq K H H
  | [], _ => trivial
  | _ :: K, H => ⟨.refl _ _, KEq.refl K H⟩
theorem KEq.symm : ∀ {K : List Nat} {H H' : PH}, KEq K H H' → KEq K H' H
  | [], _, _, _ => trivial
  | _ :: _, _, _, h => ⟨h.1.symm, KEq.symm h.2⟩
theorem KEq.trans : ∀ {K : List Nat} {H H' H'' : PH}, KEq K H H' → KEq K H' H'' → KEq K H H''
  | [], _, _, _, _, _ => trivial
  | _ :: _, _, _, _, h, k => ⟨h.1.trans k.1, KEq.trans h.2 k.2⟩
theorem KEq.get : ∀ {K : List Nat} {H H' : PH}, KEq K H H' → ∀ b ∈ K, KMu b H H'
  | [], _, _, _, b, hb => by simp at hb
  | k :: K, _, _, h, b, hb => by
    rcases List.mem_cons.1 hb with rfl | hb
    · exact h.1
    · exact KEq.get h.2 b hb
theorem KEq.at {K : List Nat} {H H' : PH} (h : KEq K H H') (b : Nat) (hb : b ∈ K) (hl : Nat.ble 10000 b = false) : H.bx[b]? = H'.bx[b]? := by
  have := h.get b hb
  unfold KMu at this
  rw [hl] at this
  exact this
theorem KEq.mu {K : List Nat} {H H' : PH} (h : KEq K H H') (j : Nat) (hj : 10000 + j ∈ K) : H.mu[j]? = H'.mu[j]? := by
  have := h.get _ hj
  have e : Nat.ble 10000 (10000 + j) = true := Nat.ble_eq_true_of_le (by omega)
  unfold KMu at this
  rw [e] at this
  simpa using this

/-- What is known of something that may be written, but for what its elements are. -/
def shM : Option MO → Option (Nat × Nat × Nat × Nat)
  | none => none
  | some (.gone n) => some (0, n, 0, 0)
  | some (.arr n e es) => some (1, n, e, es.length)
  | some (.map es) => some (2, 0, 0, es.length)
/-- The same things that may be written, as far as they are not written, at some places. -/
def KSh : List Nat → PH → PH → Prop
  | [], _, _ => True
  | b :: K, H, H' => cond (Nat.ble 10000 b) (shM H.mu[b - 10000]? = shM H'.mu[b - 10000]?) True ∧ KSh K H H'
theorem KSh.of_mu : ∀ {K : List Nat} {H H' : PH}, H.mu = H'.mu → KSh K H H'
  | [], _, _, _ => trivial
  | b :: K, H, H', h => by
    refine ⟨?_, KSh.of_mu h⟩
    cases Nat.ble 10000 b
    · trivial
    · simp only [cond_true]; rw [h]
theorem KSh.refl (K : List Nat) (H : PH) : KSh K H H := .of_mu rfl
theorem KSh.symm : ∀ {K : List Nat} {H H' : PH}, KSh K H H' → KSh K H' H
  | [], _, _, _ => trivial
  | b :: K, H, H', h => by
    refine ⟨?_, KSh.symm h.2⟩
    have := h.1
    cases hb : Nat.ble 10000 b
    · trivial
    · rw [hb] at this; simp only [cond_true] at *; exact this.symm
theorem KSh.trans : ∀ {K : List Nat} {H H' H'' : PH}, KSh K H H' → KSh K H' H'' → KSh K H H''
  | [], _, _, _, _, _ => trivial
  | b :: K, H, H', H'', h, k => by
    refine ⟨?_, KSh.trans h.2 k.2⟩
    have h1 := h.1
    have k1 := k.1
    cases hb : Nat.ble 10000 b
    · trivial
    · rw [hb] at h1 k1; simp only [cond_true] at *; exact h1.trans k1
theorem KEq.sh : ∀ {K : List Nat} {H H' : PH}, KEq K H H' → KSh K H H'
  | [], _, _, _ => trivial
  | b :: K, H, H', h => by
    refine ⟨?_, KEq.sh h.2⟩
    have := h.1
    unfold KMu at this
    cases hb : Nat.ble 10000 b
    · trivial
    · rw [hb] at this; simp only [cond_true] at *; rw [this]
theorem KSh.at : ∀ {K : List Nat} {H H' : PH}, KSh K H H' → ∀ j, 10000 + j ∈ K → shM H.mu[j]? = shM H'.mu[j]?
  | [], _, _, _, b, hb => by simp at hb
  | k :: K, _, _, h, j, hj => by
    rcases List.mem_cons.1 hj with rfl | hj
    · have := h.1
      have e : Nat.ble 10000 (10000 + j) = true := Nat.ble_eq_true_of_le (by omega)
      rw [e] at this
      simpa using this
    · exact KSh.at h.2 j hj

/-- What is asked of an operation of a region that draws: K: the boxes that are read in it. -/
def Cond (P : Program) (K : List Nat) (o : Oper) (env : Env) (H : PH) (v : PV) (H' : PH) : Prop :=
  (kindB P o.op = 0 ∧ H' = H ∧ ∀ H1, KSh K H H1 → PO P o env.eval H1 v H1) ∨
  (kindB P o.op = 1 ∧ H' = H ∧ ∀ H1, KEq K H H1 → PO P o env.eval H1 v H1) ∨
  (kindB P o.op = 2 ∧ PO P o env.eval H v H' ∧ KEq K H H') ∨
  (kindB P o.op = 3 ∧ PO P o env.eval H v H' ∧ KSh K H H')

def POpsD (P : Program) (N : Nat) (all : Array Oper) (K : List Nat) (Z : Env → PH → Prop) : List Oper → Env → PH → Prop
  | [], env, H => Z env H
  | o :: rest, env, H => (∀ t, o.dst = some t → t < N) ∧
    match gd all o env with
    | some true => ∃ v H', Cond P K o env H v H' ∧ POpsD P N all K Z rest (upd env o.dst v) H'
    | some false => POpsD P N all K Z rest (upd env o.dst undefP) H
    | none => False

/-- The run in the text's order. -/
structure Tr where
  E : Nat → Env
  H : Nat → PH
  V : Nat → PV

structure IsRun (P : Program) (N : Nat) (all : List Oper) (K : List Nat) (T : Tr) : Prop where
  dst : ∀ (i : Nat) (o : Oper), all[i]? = some o → ∀ t, o.dst = some t → t < N
  env : ∀ (i : Nat) (o : Oper), all[i]? = some o → T.E (i + 1) = upd (T.E i) o.dst (T.V i)
  step : ∀ (i : Nat) (o : Oper), all[i]? = some o → (gd all.toArray o (T.E i) = some true ∧ Cond P K o (T.E i) (T.H i) (T.V i) (T.H (i + 1))) ∨ (gd all.toArray o (T.E i) = some false ∧ T.V i = undefP ∧ T.H (i + 1) = T.H i)

def RunFrom (P : Program) (N : Nat) (all : List Oper) (K : List Nat) (Z : Env → PH → Prop) (j n : Nat) (env : Env) (H : PH) (T : Tr) : Prop :=
  T.E j = env ∧ T.H j = H ∧ Z (T.E (j + n)) (T.H (j + n)) ∧
    ∀ (i : Nat) (o : Oper), j ≤ i → all[i]? = some o → (∀ t, o.dst = some t → t < N) ∧ T.E (i + 1) = upd (T.E i) o.dst (T.V i) ∧
      ((gd all.toArray o (T.E i) = some true ∧ Cond P K o (T.E i) (T.H i) (T.V i) (T.H (i + 1))) ∨ (gd all.toArray o (T.E i) = some false ∧ T.V i = undefP ∧ T.H (i + 1) = T.H i))

theorem run_of {P : Program} {N : Nat} {all : List Oper} {K : List Nat} {Z : Env → PH → Prop} : ∀ (l : List Oper) (j : Nat) (env : Env) (H : PH), (∀ k, l[k]? = all[j + k]?) → POpsD P N all.toArray K Z l env H →
    ∃ T : Tr, RunFrom P N all K Z j l.length env H T
  | [], j, env, H, hl, h => ⟨⟨fun _ => env, fun _ => H, fun _ => undefP⟩, rfl, rfl, h, fun i o hi ho => by
      have := hl (i - j)
      rw [show j + (i - j) = i by omega, ho] at this
      simp at this⟩
  | o :: r, j, env, H, hl, h => by
    obtain ⟨hd, h⟩ := h
    have h0 : all[j]? = some o := by simpa using (hl 0).symm
    have hl' : ∀ k, r[k]? = all[j + 1 + k]? := fun q => by have := hl (q + 1); simpa [Nat.add_assoc, Nat.add_comm 1 q] using this
    have key : ∀ (v : PV) (H' : PH), POpsD P N all.toArray K Z r (upd env o.dst v) H' → ((gd all.toArray o env = some true ∧ Cond P K o env H v H') ∨ (gd all.toArray o env = some false ∧ v = undefP ∧ H' = H)) → ∃ T : Tr, RunFrom P N all K Z j (o :: r).length env H T := by
      intro v H' hr hc
      obtain ⟨T, e1, e2, e3, e4⟩ := run_of r (j + 1) _ _ hl' hr
      refine ⟨⟨fun i => if i = j then env else T.E i, fun i => if i = j then H else T.H i, fun i => if i = j then v else T.V i⟩, by simp, by simp, ?_, ?_⟩
      · have hne : ¬ j + (o :: r).length = j := by simp
        simp only [hne, if_false]
        rw [show j + (o :: r).length = j + 1 + r.length by simp; omega]
        exact e3
      · intro i o' hi ho'
        by_cases e : i = j
        · subst e
          rw [h0] at ho'
          cases ho'
          have hne : ¬ i + 1 = i := by omega
          simp only [hne, if_false, if_true]
          refine ⟨hd, e1, ?_⟩
          rw [e2]
          exact hc
        · have hne : ¬ i + 1 = j := by omega
          simp only [e, hne, if_false]
          exact e4 i o' (by omega) ho'
    split at h
    · rename_i hg
      obtain ⟨v, H', hc, hr⟩ := h
      exact key v H' hr (.inl ⟨hg, hc⟩)
    · rename_i hg
      exact key undefP H h (.inr ⟨hg, rfl, rfl⟩)
    · exact h.elim
end Go.Pure
