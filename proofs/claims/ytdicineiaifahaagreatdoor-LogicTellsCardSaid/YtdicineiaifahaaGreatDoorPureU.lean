/- A generic layer: values without memory, and code over them. -/
import Derived.Lib.ValidLaws
import Derived.Test.YtdicineiaifahaaGreatDoorPureC
/- Texts of runes: what a reader of leads and followers sees. -/
namespace Go.Pure
open Go Go.Lib

theorem lead_bad {l : List UInt8} (hne : l ≠ []) (h : 128 ≤ (l.getD 0 0).toNat) (hb : (l.getD 0 0).toNat < 192 ∨ 248 ≤ (l.getD 0 0).toNat) : validD l = false := by
  rw [validD_lead l hne h]
  have hf : firstT (l.getD 0 0).toNat = 241 := by
    unfold firstT
    generalize (l.getD 0 0).toNat = b at *
    repeat' split
    all_goals omega
  rw [hf]
  rfl
theorem lead_short {l : List UInt8} {n : Nat} (hne : l ≠ []) (h : 192 ≤ (l.getD 0 0).toNat) (hb : (l.getD 0 0).toNat < 224 ∧ n = 1 ∨ 224 ≤ (l.getD 0 0).toNat ∧ (l.getD 0 0).toNat < 240 ∧ n = 2 ∨ 240 ≤ (l.getD 0 0).toNat ∧ n = 3) (hl : l.length ≤ n) : validD l = false := by
  rw [validD_lead l hne (by omega)]
  have hf : firstT (l.getD 0 0).toNat % 8 = 1 ∨ l.length < firstT (l.getD 0 0).toNat % 8 := by
    unfold firstT
    generalize (l.getD 0 0).toNat = b at *
    repeat' split
    all_goals omega
  generalize firstT (l.getD 0 0).toNat = f at *
  have hc : ∀ lo hi : Nat, checkN l.length (l.getD 1 0).toNat (l.getD 2 0).toNat (l.getD 3 0).toNat (f % 8) lo hi = none := by
    intro lo hi
    unfold checkN
    rcases hf with hf | hf
    · rw [hf]; rfl
    · repeat' split
      all_goals first | rfl | (exfalso; omega)
  rw [hc]
theorem lead2 {l : List UInt8} {b0 b1 : Nat} (hl : 1 < l.length) (h0 : (l.getD 0 0).toNat = b0) (h1 : (l.getD 1 0).toNat = b1) (hb : 192 ≤ b0 ∧ b0 < 224) :
    validD l = if b1 < 128 ∨ 192 ≤ b1 then false else if (b0 - 192) * 64 + (b1 - 128) < 128 then false else validD (l.drop 2) := by
  have hne : l ≠ [] := fun e => by subst e; simp at hl
  rw [validD_lead l hne (by omega), h0, h1]
  by_cases c : b0 < 194
  · have hf : firstT b0 = 241 := by unfold firstT; (repeat' split) <;> omega
    rw [hf]
    show false = _
    repeat' split
    all_goals first | rfl | (exfalso; omega)
  · have hf : firstT b0 = 2 := by unfold firstT; (repeat' split) <;> omega
    rw [hf]
    unfold checkN
    simp only [Nat.reduceMod, Nat.reduceDiv, accLo, accHi, if_pos]
    by_cases hx : b1 < 128 ∨ 192 ≤ b1
    · rw [if_pos hx, if_pos (by omega)]
    · rw [if_neg hx, if_neg (by omega), if_neg (by omega)]
theorem lead3 {l : List UInt8} {b0 b1 b2 : Nat} (hl : 2 < l.length) (h0 : (l.getD 0 0).toNat = b0) (h1 : (l.getD 1 0).toNat = b1) (h2 : (l.getD 2 0).toNat = b2) (hb : 224 ≤ b0 ∧ b0 < 240) :
    validD l = if b1 < 128 ∨ 192 ≤ b1 then false else if b2 < 128 ∨ 192 ≤ b2 then false else if ((b0 - 224) * 64 + (b1 - 128)) * 64 + (b2 - 128) < 2048 ∨ 55296 ≤ ((b0 - 224) * 64 + (b1 - 128)) * 64 + (b2 - 128) ∧ ((b0 - 224) * 64 + (b1 - 128)) * 64 + (b2 - 128) < 57344 then false else validD (l.drop 3) := by
  have hne : l ≠ [] := fun e => by subst e; simp at hl
  rw [validD_lead l hne (by omega), h0, h1, h2]
  have key : ∀ lo hi : Nat, checkN l.length b1 b2 (l.getD 3 0).toNat 3 lo hi = if b1 < lo ∨ hi < b1 ∨ b2 < 128 ∨ 191 < b2 then none else some 3 := by
    intro lo hi
    unfold checkN
    simp only [Nat.reduceEqDiff, if_false, if_true]
    by_cases hx : b1 < lo ∨ hi < b1 ∨ b2 < 128 ∨ 191 < b2
    · rw [if_pos hx, if_pos (.inr hx)]
    · rw [if_neg hx, if_neg (by omega)]
  have run : ∀ f lo hi : Nat, firstT b0 = f → f % 8 = 3 → accLo (f / 16) = lo → accHi (f / 16) = hi → (128 ≤ b2 → b2 < 192 → ((b1 < lo ∨ hi < b1) ↔ (b1 < 128 ∨ 192 ≤ b1 ∨ ((b0 - 224) * 64 + (b1 - 128)) * 64 + (b2 - 128) < 2048 ∨ 55296 ≤ ((b0 - 224) * 64 + (b1 - 128)) * 64 + (b2 - 128) ∧ ((b0 - 224) * 64 + (b1 - 128)) * 64 + (b2 - 128) < 57344))) →
      (match checkN l.length b1 b2 (l.getD 3 0).toNat (firstT b0 % 8) (accLo (firstT b0 / 16)) (accHi (firstT b0 / 16)) with | none => false | some k => validD (l.drop k)) = if b1 < 128 ∨ 192 ≤ b1 then false else if b2 < 128 ∨ 192 ≤ b2 then false else if ((b0 - 224) * 64 + (b1 - 128)) * 64 + (b2 - 128) < 2048 ∨ 55296 ≤ ((b0 - 224) * 64 + (b1 - 128)) * 64 + (b2 - 128) ∧ ((b0 - 224) * 64 + (b1 - 128)) * 64 + (b2 - 128) < 57344 then false else validD (l.drop 3) := by
    intro f lo hi e1 e2 e3 e4 hk
    rw [e1, e2, e3, e4, key]
    by_cases c2 : b2 < 128 ∨ 192 ≤ b2
    · rw [if_pos (show b1 < lo ∨ hi < b1 ∨ b2 < 128 ∨ 191 < b2 by omega), if_pos c2]
      show false = _
      split <;> rfl
    · have hk := hk (by omega) (by omega)
      by_cases c1 : b1 < lo ∨ hi < b1
      · rw [if_pos (show b1 < lo ∨ hi < b1 ∨ b2 < 128 ∨ 191 < b2 by omega)]
        have hk := hk.1 c1
        by_cases c3 : b1 < 128 ∨ 192 ≤ b1
        · rw [if_pos c3]
        · rw [if_neg c3, if_neg c2, if_pos (by omega)]
      · rw [if_neg (show ¬ (b1 < lo ∨ hi < b1 ∨ b2 < 128 ∨ 191 < b2) by omega)]
        have hk := fun h => c1 (hk.2 h)
        rw [if_neg (fun h => hk (by omega)), if_neg c2, if_neg (fun h => hk (by omega))]
  by_cases c0 : b0 = 224
  · exact run 19 160 191 (by subst c0; rfl) rfl rfl rfl (by intro _ _; subst c0; omega)
  · by_cases c1 : b0 = 237
    · exact run 35 128 159 (by subst c1; rfl) rfl rfl rfl (by intro _ _; subst c1; omega)
    · exact run 3 128 191 (by unfold firstT; (repeat' split) <;> omega) rfl rfl rfl (by intro _ _; omega)
theorem lead4 {l : List UInt8} {b0 b1 b2 b3 : Nat} (hl : 3 < l.length) (h0 : (l.getD 0 0).toNat = b0) (h1 : (l.getD 1 0).toNat = b1) (h2 : (l.getD 2 0).toNat = b2) (h3 : (l.getD 3 0).toNat = b3) (hb : 240 ≤ b0 ∧ b0 < 248) :
    validD l = if b1 < 128 ∨ 192 ≤ b1 then false else if b2 < 128 ∨ 192 ≤ b2 then false else if b3 < 128 ∨ 192 ≤ b3 then false else if (((b0 - 240) * 64 + (b1 - 128)) * 64 + (b2 - 128)) * 64 + (b3 - 128) < 65536 ∨ 1114111 < (((b0 - 240) * 64 + (b1 - 128)) * 64 + (b2 - 128)) * 64 + (b3 - 128) then false else validD (l.drop 4) := by
  have hne : l ≠ [] := fun e => by subst e; simp at hl
  rw [validD_lead l hne (by omega), h0, h1, h2, h3]
  by_cases c5 : 245 ≤ b0
  · have hf : firstT b0 = 241 := by unfold firstT; (repeat' split) <;> omega
    rw [hf]
    show false = _
    repeat' split
    all_goals first | rfl | (exfalso; omega)
  have key : ∀ lo hi : Nat, checkN l.length b1 b2 b3 4 lo hi = if b1 < lo ∨ hi < b1 ∨ b2 < 128 ∨ 191 < b2 ∨ b3 < 128 ∨ 191 < b3 then none else some 4 := by
    intro lo hi
    unfold checkN
    simp only [Nat.reduceEqDiff, if_false, if_true]
    by_cases hx : b1 < lo ∨ hi < b1 ∨ b2 < 128 ∨ 191 < b2 ∨ b3 < 128 ∨ 191 < b3
    · rw [if_pos hx, if_pos (.inr hx)]
    · rw [if_neg hx, if_neg (by omega)]
  have run : ∀ f lo hi : Nat, firstT b0 = f → f % 8 = 4 → accLo (f / 16) = lo → accHi (f / 16) = hi → (128 ≤ b2 → b2 < 192 → 128 ≤ b3 → b3 < 192 → ((b1 < lo ∨ hi < b1) ↔ (b1 < 128 ∨ 192 ≤ b1 ∨ (((b0 - 240) * 64 + (b1 - 128)) * 64 + (b2 - 128)) * 64 + (b3 - 128) < 65536 ∨ 1114111 < (((b0 - 240) * 64 + (b1 - 128)) * 64 + (b2 - 128)) * 64 + (b3 - 128)))) →
      (match checkN l.length b1 b2 b3 (firstT b0 % 8) (accLo (firstT b0 / 16)) (accHi (firstT b0 / 16)) with | none => false | some k => validD (l.drop k)) = if b1 < 128 ∨ 192 ≤ b1 then false else if b2 < 128 ∨ 192 ≤ b2 then false else if b3 < 128 ∨ 192 ≤ b3 then false else if (((b0 - 240) * 64 + (b1 - 128)) * 64 + (b2 - 128)) * 64 + (b3 - 128) < 65536 ∨ 1114111 < (((b0 - 240) * 64 + (b1 - 128)) * 64 + (b2 - 128)) * 64 + (b3 - 128) then false else validD (l.drop 4) := by
    intro f lo hi e1 e2 e3 e4 hk
    rw [e1, e2, e3, e4, key]
    by_cases c3 : b3 < 128 ∨ 192 ≤ b3
    · rw [if_pos (show b1 < lo ∨ hi < b1 ∨ b2 < 128 ∨ 191 < b2 ∨ b3 < 128 ∨ 191 < b3 by omega), if_pos c3]
      show false = _
      repeat' split
      all_goals rfl
    by_cases c2 : b2 < 128 ∨ 192 ≤ b2
    · rw [if_pos (show b1 < lo ∨ hi < b1 ∨ b2 < 128 ∨ 191 < b2 ∨ b3 < 128 ∨ 191 < b3 by omega), if_pos c2]
      show false = _
      split <;> rfl
    · have hk := hk (by omega) (by omega) (by omega) (by omega)
      by_cases c1 : b1 < lo ∨ hi < b1
      · rw [if_pos (show b1 < lo ∨ hi < b1 ∨ b2 < 128 ∨ 191 < b2 ∨ b3 < 128 ∨ 191 < b3 by omega)]
        have hk := hk.1 c1
        by_cases c4 : b1 < 128 ∨ 192 ≤ b1
        · rw [if_pos c4]
        · rw [if_neg c4, if_neg c2, if_neg c3, if_pos (by omega)]
      · rw [if_neg (show ¬ (b1 < lo ∨ hi < b1 ∨ b2 < 128 ∨ 191 < b2 ∨ b3 < 128 ∨ 191 < b3) by omega)]
        have hk := fun h => c1 (hk.2 h)
        rw [if_neg (fun h => hk (by omega)), if_neg c2, if_neg c3, if_neg (fun h => hk (by omega))]
  by_cases c0 : b0 = 240
  · exact run 52 144 191 (by subst c0; rfl) rfl rfl rfl (by intro _ _ _ _; subst c0; omega)
  · by_cases c1 : b0 = 244
    · exact run 68 128 143 (by subst c1; rfl) rfl rfl rfl (by intro _ _ _ _; subst c1; omega)
    · exact run 4 128 191 (by unfold firstT; (repeat' split) <;> omega) rfl rfl rfl (by intro _ _ _ _; omega)

def cc (l : List UInt8) (c : Nat) : Nat → Nat
  | 0 => c
  | k + 1 => cc l c k * 64 + ((l.getD (k + 1) 0).toNat - 128)
theorem cc_zero (l : List UInt8) (c : Nat) : cc l c 0 = c := rfl
theorem cc_succ (l : List UInt8) (c k : Nat) : cc l c (k + 1) = cc l c k * 64 + ((l.getD (k + 1) 0).toNat - 128) := rfl
def okD (l : List UInt8) (k : Nat) : Prop := 128 ≤ (l.getD k 0).toNat ∧ (l.getD k 0).toNat < 192
theorem cc_lt {l : List UInt8} {c : Nat} (hc : c < 32) : ∀ k, (∀ j, 1 ≤ j → j ≤ k → okD l j) → cc l c k < 32 * 64 ^ k
  | 0, _ => by rw [cc_zero, Nat.pow_zero]; omega
  | k + 1, h => by
    have ih := cc_lt (l := l) hc k fun j h1 h2 => h j h1 (by omega)
    have hk := h (k + 1) (by omega) (Nat.le_refl _)
    unfold okD at hk
    rw [cc_succ, Nat.pow_succ]
    have : (cc l c k + 1) * 64 ≤ 32 * 64 ^ k * 64 := Nat.mul_le_mul_right _ ih
    rw [Nat.add_mul, Nat.one_mul, Nat.mul_assoc] at this
    omega
theorem cc_1 (l : List UInt8) (c : Nat) : cc l c 1 = c * 64 + ((l.getD 1 0).toNat - 128) := by
  have e := cc_succ l c 0
  rw [cc_zero] at e
  simpa only [Nat.zero_add] using e
theorem cc_2 (l : List UInt8) (c : Nat) : cc l c 2 = (c * 64 + ((l.getD 1 0).toNat - 128)) * 64 + ((l.getD 2 0).toNat - 128) := by
  have e := cc_succ l c 1
  rw [cc_1] at e
  exact e
theorem cc_3 (l : List UInt8) (c : Nat) : cc l c 3 = ((c * 64 + ((l.getD 1 0).toNat - 128)) * 64 + ((l.getD 2 0).toNat - 128)) * 64 + ((l.getD 3 0).toNat - 128) := by
  have e := cc_succ l c 2
  rw [cc_2] at e
  exact e
def clsD (b n least off : Nat) : Prop := (192 ≤ b ∧ b < 224 ∧ n = 1 ∧ least = 128 ∧ off = 192) ∨ (224 ≤ b ∧ b < 240 ∧ n = 2 ∧ least = 2048 ∧ off = 224) ∨ (240 ≤ b ∧ b < 248 ∧ n = 3 ∧ least = 65536 ∧ off = 240)
theorem lead_n {l : List UInt8} {n least off : Nat} (hc : clsD (l.getD 0 0).toNat n least off) (hl : n < l.length) :
    (∀ k, 1 ≤ k → k ≤ n → ¬ okD l k → validD l = false) ∧
    ((∀ k, 1 ≤ k → k ≤ n → okD l k) → validD l = if cc l ((l.getD 0 0).toNat - off) n < least ∨ 1114111 < cc l ((l.getD 0 0).toNat - off) n ∨ (55296 ≤ cc l ((l.getD 0 0).toNat - off) n ∧ cc l ((l.getD 0 0).toNat - off) n < 57344) then false else validD (l.drop (n + 1))) := by
  rcases hc with ⟨a, b, rfl, rfl, rfl⟩ | ⟨a, b, rfl, rfl, rfl⟩ | ⟨a, b, rfl, rfl, rfl⟩
  · have hv := lead2 hl rfl rfl ⟨a, b⟩
    refine ⟨fun k h1 h2 h3 => ?_, fun h => ?_⟩
    · obtain rfl : k = 1 := by omega
      unfold okD at h3
      rw [hv, if_pos (by omega)]
    · have o1 := h 1 (by omega) (by omega)
      unfold okD at o1
      rw [cc_1]
      rw [hv, if_neg (by omega)]
      by_cases q : ((l.getD 0 0).toNat - 192) * 64 + ((l.getD 1 0).toNat - 128) < 128
      · rw [if_pos q, if_pos (.inl q)]
      · rw [if_neg q, if_neg (by omega)]
  · have hv := lead3 hl rfl rfl rfl ⟨a, b⟩
    refine ⟨fun k h1 h2 h3 => ?_, fun h => ?_⟩
    · obtain rfl | rfl : k = 1 ∨ k = 2 := by omega
      · unfold okD at h3
        rw [hv, if_pos (by omega)]
      · unfold okD at h3
        rw [hv]
        split
        · rfl
        · rw [if_pos (by omega)]
    · have o1 := h 1 (by omega) (by omega)
      have o2 := h 2 (by omega) (by omega)
      unfold okD at o1 o2
      rw [cc_2]
      rw [hv, if_neg (by omega), if_neg (by omega)]
      generalize hC : (((l.getD 0 0).toNat - 224) * 64 + ((l.getD 1 0).toNat - 128)) * 64 + ((l.getD 2 0).toNat - 128) = C
      by_cases q : C < 2048 ∨ 55296 ≤ C ∧ C < 57344
      · rw [if_pos q, if_pos (by omega)]
      · rw [if_neg q, if_neg (by omega)]
  · have hv := lead4 hl rfl rfl rfl rfl ⟨a, b⟩
    refine ⟨fun k h1 h2 h3 => ?_, fun h => ?_⟩
    · obtain rfl | rfl | rfl : k = 1 ∨ k = 2 ∨ k = 3 := by omega
      · unfold okD at h3
        rw [hv, if_pos (by omega)]
      · unfold okD at h3
        rw [hv]
        split
        · rfl
        · rw [if_pos (by omega)]
      · unfold okD at h3
        rw [hv]
        split
        · rfl
        · split
          · rfl
          · rw [if_pos (by omega)]
    · have o1 := h 1 (by omega) (by omega)
      have o2 := h 2 (by omega) (by omega)
      have o3 := h 3 (by omega) (by omega)
      unfold okD at o1 o2 o3
      rw [cc_3]
      rw [hv, if_neg (by omega), if_neg (by omega), if_neg (by omega)]
      generalize hC : ((((l.getD 0 0).toNat - 240) * 64 + ((l.getD 1 0).toNat - 128)) * 64 + ((l.getD 2 0).toNat - 128)) * 64 + ((l.getD 3 0).toNat - 128) = C
      by_cases q : C < 65536 ∨ 1114111 < C
      · rw [if_pos q, if_pos (by omega)]
      · rw [if_neg q, if_neg (by omega)]
theorem byte_at {s : ByteArray} {i : Nat} (h : i < s.size) : ∃ b : UInt8, s[i]? = some b ∧ s.data.toList[i]? = some b := by
  refine ⟨s[i], getElem?_pos s i h, ?_⟩
  rw [Array.getElem?_toList]
  exact getElem?_pos s.data i h
end Go.Pure


/- What a test's outcome says: all in one. -/
namespace Go.Pure
theorem fX : (∀ (p : Prop) [Decidable p], (decide p = true) = p) ∧ (∀ (p : Prop) [Decidable p], (decide p = false) = ¬ p) ∧ (∀ a b : Int, ((a == b) = true) = (a = b)) ∧ (∀ a b : Int, ((a == b) = false) = ¬ (a = b)) ∧ (∀ a b : Int, ((a != b) = true) = ¬ (a = b)) ∧ (∀ a b : Int, ((a != b) = false) = (a = b)) ∧ (∀ b : Bool, ((!b) = true) = (b = false)) ∧ (∀ b : Bool, ((!b) = false) = (b = true)) := by
  refine ⟨fun p _ => by simp, fun p _ => by simp, fun a b => by simp, fun a b => by simp, fun a b => by simp, fun a b => by simp, fun b => by simp, fun b => by simp⟩
end Go.Pure

