/- A generic layer: values without memory, and code over them. -/
import Derived.Test.YtdicineiaifahaaGreatDoorPureE
import Derived.Lib.ItoaNum
import Derived.Test.YtdicineiaifahaaGreatDoorPureG
/- Division of words and of rows of words: the plain laws (Möller and Granlund; Knuth's D). -/
namespace Go.Pure

theorem guess_over {B W v1 v2 vr h u2 ur g r : Nat} (hr : h = g * v1 + r) (hur : ur < W) (hg : r * B + u2 < g * v2) : (h * B + u2) * W + ur < g * ((v1 * B + v2) * W + vr) := by
  have e1 : h * B = g * v1 * B + r * B := by rw [hr, Nat.add_mul]
  have e2 : g * (v1 * B + v2) = g * v1 * B + g * v2 := by rw [Nat.mul_add, Nat.mul_assoc]
  have h1 : h * B + u2 + 1 ≤ g * (v1 * B + v2) := by omega
  have h2 := Nat.mul_le_mul_right W h1
  rw [Nat.add_mul, Nat.one_mul] at h2
  have e3 : g * ((v1 * B + v2) * W + vr) = g * (v1 * B + v2) * W + g * vr := by rw [Nat.mul_add, Nat.mul_assoc]
  omega
end Go.Pure


/- Division of two words by one, as package math/big does it: the plain law. -/
namespace Go.Pure
open Go

def lz (y : Nat) : Nat := 64 - Lib.bitLen y
/-! Two words by one, half a word at a time -/
abbrev HB : Nat := 4294967296
structure HInv (H u2 v1 v2 g r : Nat) : Prop where
  h : H = g * v1 + r
  q : (H * HB + u2) / (v1 * HB + v2) ≤ g
  b : g ≤ HB + 1
theorem HInv.start {H u2 v1 v2 : Nat} (hH : H < v1 * HB + v2) (hv1 : 2147483648 ≤ v1) (hv1' : v1 < HB) (hv2 : v2 < HB) (hu : u2 < HB) : HInv H u2 v1 v2 (H / v1) (H % v1) := by
  refine ⟨by rw [Nat.mul_comm]; exact (Nat.div_add_mod H v1).symm, ?_, ?_⟩
  · refine Nat.le_of_lt_succ ((Nat.div_lt_iff_lt_mul (by omega)).2 ?_)
    have h1 := Nat.div_add_mod H v1
    have h2 := Nat.mod_lt H (show 0 < v1 by omega)
    generalize H / v1 = g at *
    generalize H % v1 = r at *
    rw [Nat.mul_comm (g.succ), show (v1 * HB + v2) * g.succ = (v1 * HB + v2) * g + (v1 * HB + v2) from Nat.mul_succ _ _]
    have e1 : (v1 * HB + v2) * g = v1 * g * HB + v2 * g := by rw [Nat.add_mul, Nat.mul_right_comm]
    have e2 : (r + 1) * HB ≤ v1 * HB := Nat.mul_le_mul_right _ h2
    rw [e1]
    have e3 : H * HB = v1 * g * HB + r * HB := by rw [← h1, Nat.add_mul]
    rw [Nat.add_mul, Nat.one_mul] at e2
    generalize HB = B at *
    omega
  · have : H < (HB + 2) * v1 := by
      have : (v1 + 1) * HB ≤ (HB + 2) * v1 := by unfold HB; omega
      rw [Nat.add_mul, Nat.one_mul] at this
      omega
    have := (Nat.div_lt_iff_lt_mul (show 0 < v1 by omega)).2 this
    omega
theorem HInv.over {H u2 v1 v2 g r : Nat} (hI : HInv H u2 v1 v2 g r) (hH : H < v1 * HB + v2) (hu : u2 < HB) (hc : HB ≤ g ∨ r * HB + u2 < g * v2) : 1 ≤ g ∧ HInv H u2 v1 v2 (g - 1) (r + v1) := by
  have hv : 0 < v1 * HB + v2 := by omega
  have hlt : (H * HB + u2) / (v1 * HB + v2) < g := by
    rcases hc with hc | hc
    · refine Nat.lt_of_lt_of_le ((Nat.div_lt_iff_lt_mul hv).2 ?_) hc
      have : (H + 1) * HB ≤ (v1 * HB + v2) * HB := Nat.mul_le_mul_right _ hH
      rw [Nat.add_mul, Nat.one_mul] at this
      rw [Nat.mul_comm HB]
      generalize HB = B at *
      omega
    · refine (Nat.div_lt_iff_lt_mul hv).2 ?_
      have := guess_over (B := HB) (W := 1) (v1 := v1) (v2 := v2) (vr := 0) (h := H) (u2 := u2) (ur := 0) (g := g) (r := r) hI.h (by decide) hc
      simpa using this
  have hg : 1 ≤ g := Nat.lt_of_le_of_lt (Nat.zero_le _) hlt
  refine ⟨hg, ⟨?_, by omega, by have := hI.b; omega⟩⟩
  have e : g * v1 = (g - 1) * v1 + v1 := by
    conv => lhs; rw [show g = g - 1 + 1 by omega, Nat.add_mul, Nat.one_mul]
  have := hI.h
  omega
theorem HInv.done {H u2 v1 v2 g r : Nat} (hI : HInv H u2 v1 v2 g r) (hv1 : 1 ≤ v1) (hc : g * v2 ≤ r * HB + u2) : (H * HB + u2) / (v1 * HB + v2) = g := by
  refine Nat.le_antisymm hI.q ((Nat.le_div_iff_mul_le (by have : 1 * HB ≤ v1 * HB := Nat.mul_le_mul_right _ hv1
                                                          unfold HB at *; omega)).2 ?_)
  have e1 : H * HB = g * v1 * HB + r * HB := by rw [hI.h, Nat.add_mul]
  have e2 : g * (v1 * HB + v2) = g * v1 * HB + g * v2 := by rw [Nat.mul_add, Nat.mul_assoc]
  omega
end Go.Pure


/- Division by a number of two words, a word at a time from above; moved up and down: words of 32 bits. -/
namespace Go.Pure.V
open Go

theorem val_drop {l : List Nat} {k x : Nat} (h : l[k]? = some x) : val (l.drop k) = x + WB * val (l.drop (k + 1)) := by
  have hk := (List.getElem?_eq_some_iff.1 h).1
  rw [List.drop_eq_getElem_cons hk, val_cons]
  rw [List.getElem?_eq_getElem hk] at h
  rw [Option.some.inj h]
def qW (D : Nat) (l : List Nat) (k : Nat) : List Nat := List.replicate k 0 ++ padD (l.length - k) (val (l.drop k) / D)
theorem qW_length {D k : Nat} {l : List Nat} (h : k ≤ l.length) : (qW D l k).length = l.length := by
  unfold qW
  rw [List.length_append, List.length_replicate, padD_length]
  omega
theorem qW_start (D : Nat) (l : List Nat) : qW D l l.length = List.replicate l.length 0 := by
  unfold qW
  rw [Nat.sub_self]
  simp [padD]
theorem qW_done (D : Nat) (l : List Nat) : qW D l 0 = padD l.length (val l / D) := by
  unfold qW
  simp
theorem div_step (D x X : Nat) (hD : 0 < D) : (x + WB * X) / D = (x + WB * (X % D)) / D + WB * (X / D) ∧ (x + WB * X) % D = (x + WB * (X % D)) % D := by
  have h1 := Nat.mod_add_div X D
  have e : x + WB * X = x + WB * (X % D) + D * (WB * (X / D)) := by
    conv => lhs; rw [← h1]
    rw [Nat.mul_add, Nat.mul_left_comm]
    omega
  refine ⟨?_, ?_⟩
  · rw [e, Nat.add_mul_div_left _ _ hD]
  · rw [e, Nat.add_mul_mod_self_left]
theorem digit_lt {D x R : Nat} (hx : x < WB) (hR : R < D) : (x + WB * R) / D < WB := by
  refine (Nat.div_lt_iff_lt_mul (by omega)).2 ?_
  have : WB * (R + 1) ≤ WB * D := Nat.mul_le_mul_left _ hR
  rw [Nat.mul_add, Nat.mul_one] at this
  omega
theorem set_mid {P S : List Nat} {x y : Nat} : (P ++ x :: S).set P.length y = P ++ y :: S := by
  rw [List.set_append_right _ _ (Nat.le_refl _), Nat.sub_self]
  rfl
theorem qW_step {D k x : Nat} {l : List Nat} (hD : 0 < D) (hx : x < WB) (h : l[k]? = some x) : (qW D l (k + 1)).set k ((x + WB * (val (l.drop (k + 1)) % D)) / D) = qW D l k := by
  have hk := (List.getElem?_eq_some_iff.1 h).1
  have hs := (div_step D x (val (l.drop (k + 1))) hD).1
  have hd := digit_lt (x := x) hx (Nat.mod_lt (val (l.drop (k + 1))) hD)
  unfold qW
  rw [val_drop h, hs, show l.length - k = (l.length - (k + 1)) + 1 by omega, padD, Nat.add_mul_mod_self_left, Nat.mod_eq_of_lt hd, Nat.add_mul_div_left _ _ (by decide), Nat.div_eq_of_lt hd, Nat.zero_add]
  rw [List.replicate_succ', List.append_assoc]
  have := @set_mid (List.replicate k 0) (padD (l.length - (k + 1)) (val (l.drop (k + 1)) / D)) 0 ((x + WB * (val (l.drop (k + 1)) % D)) / D)
  rw [List.length_replicate] at this
  exact this
theorem rest_step {D k x : Nat} {l : List Nat} (hD : 0 < D) (h : l[k]? = some x) : val (l.drop k) % D = (x + WB * (val (l.drop (k + 1)) % D)) % D := by
  rw [val_drop h]
  exact (div_step D x _ hD).2

def uW (D : Nat) (l : List Nat) (k : Nat) : List Nat := l.take k ++ (val (l.drop k) % D) % WB :: (val (l.drop k) % D) / WB :: List.replicate (l.length - k - 2) 0
theorem uW_length {D k : Nat} {l : List Nat} (h : k + 2 ≤ l.length) : (uW D l k).length = l.length := by
  unfold uW
  simp
  omega
theorem uW_start {D : Nat} {l : List Nat} (hw : okW l) (h2 : 2 ≤ l.length) (h : val (l.drop (l.length - 2)) < D) : uW D l (l.length - 2) = l := by
  unfold uW
  rw [Nat.mod_eq_of_lt h, show l.length - (l.length - 2) - 2 = 0 by omega]
  have e : (l.drop (l.length - 2)).length = 2 := by simp; omega
  have hp := padD_val (hw.drop (l.length - 2))
  rw [e] at hp
  simp only [padD] at hp
  have hq : val (l.drop (l.length - 2)) / WB < WB := by
    have := val_lt (hw.drop (l.length - 2))
    rw [e] at this
    exact (Nat.div_lt_iff_lt_mul (by decide)).2 (by rw [Nat.pow_succ, Nat.pow_one] at this; exact this)
  rw [Nat.mod_eq_of_lt hq] at hp
  rw [List.replicate_zero, hp, List.take_append_drop]
theorem uW_cons {D k x : Nat} {l : List Nat} (h : l[k]? = some x) : uW D l (k + 1) = l.take k ++ x :: (val (l.drop (k + 1)) % D) % WB :: (val (l.drop (k + 1)) % D) / WB :: List.replicate (l.length - (k + 1) - 2) 0 := by
  unfold uW
  rw [List.take_add_one, h]
  simp
theorem uW_get {D k x : Nat} {l : List Nat} (h : l[k]? = some x) : (uW D l (k + 1))[k]? = some x ∧ (uW D l (k + 1))[k + 1]? = some ((val (l.drop (k + 1)) % D) % WB) ∧ (uW D l (k + 1))[k + 2]? = some ((val (l.drop (k + 1)) % D) / WB) := by
  have hk := (List.getElem?_eq_some_iff.1 h).1
  have e : (l.take k).length = k := by simp; omega
  rw [uW_cons h]
  refine ⟨?_, ?_, ?_⟩
  · rw [List.getElem?_append_right (by omega), e, Nat.sub_self]; rfl
  · rw [List.getElem?_append_right (by omega), e, show k + 1 - k = 1 by omega]; rfl
  · rw [List.getElem?_append_right (by omega), e, show k + 2 - k = 2 by omega]; rfl
theorem uW_step {D k x a b : Nat} {l : List Nat} (hD : 0 < D) (h : l[k]? = some x) (hk2 : k + 3 ≤ l.length) (ha : a < WB) (hab : a + WB * b = (x + WB * (val (l.drop (k + 1)) % D)) % D) : (((uW D l (k + 1)).set k a).set (k + 1) b).set (k + 2) 0 = uW D l k := by
  have e : (l.take k).length = k := by simp; omega
  rw [uW_cons h]
  have hr := rest_step hD h
  rw [← hab] at hr
  unfold uW
  rw [hr, Nat.add_mul_mod_self_left, Nat.mod_eq_of_lt ha, Nat.add_mul_div_left _ _ (by decide), Nat.div_eq_of_lt ha, Nat.zero_add]
  rw [List.set_append_right _ _ (by omega), e, Nat.sub_self, List.set_cons_zero]
  rw [List.set_append_right _ _ (by omega), e, show k + 1 - k = 1 by omega, List.set_cons_succ, List.set_cons_zero]
  rw [List.set_append_right _ _ (by omega), e, show k + 2 - k = 2 by omega, List.set_cons_succ, List.set_cons_succ, List.set_cons_zero]
  rw [show l.length - k - 2 = (l.length - (k + 1) - 2) + 1 by omega, List.replicate_succ]
theorem uW_done {D : Nat} {l : List Nat} : val (uW D l 0) = val l % D := by
  unfold uW
  simp only [List.take_zero, List.drop_zero, List.nil_append, val_cons, val_rep]
  have := Nat.mod_add_div (val l % D) WB
  omega

structure Win (u2 u1 u0 v1 v0 g x1 x0 d0 d1 : Nat) : Prop where
  hd0 : d0 = if u0 < g * v0 % WB then 1 else 0
  hx0 : x0 = (u0 + WB - g * v0 % WB) % WB
  hd1 : d1 = if u1 < (g * v0 / WB + g * v1) % WB + d0 then 1 else 0
  hx1 : x1 = (u1 + (WB + WB) - (g * v0 / WB + g * v1) % WB - d0) % WB
  hv : x0 + WB * x1 = (u0 + WB * (u1 + WB * u2)) % (v0 + WB * v1)
  h2 : u2 = (g * v0 / WB + g * v1) / WB + d1
  hp : g * v0 / WB + g * v1 < WB * WB
theorem Win.mk' {u2 u1 u0 v1 v0 g : Nat} (hu0 : u0 < WB) (hu1 : u1 < WB) (hv0 : v0 < WB) (hv1 : v1 < WB) (hg : g < WB) (hV : 0 < v0 + WB * v1) (he : g = (u0 + WB * (u1 + WB * u2)) / (v0 + WB * v1)) : ∃ x1 x0 d0 d1, Win u2 u1 u0 v1 v0 g x1 x0 d0 d1 := by
  refine ⟨_, _, _, _, rfl, rfl, rfl, rfl, ?_, ?_, ?_⟩
  all_goals
    have hm := Nat.mod_add_div (u0 + WB * (u1 + WB * u2)) (v0 + WB * v1)
    have hlt := Nat.mod_lt (u0 + WB * (u1 + WB * u2)) hV
    rw [← he] at hm
    have e1 : (v0 + WB * v1) * g = g * v0 + WB * (g * v1) := by rw [Nat.add_mul, Nat.mul_comm v0, Nat.mul_assoc, Nat.mul_comm v1]
    rw [e1] at hm
    have b1 : g * v1 ≤ (WB - 1) * (WB - 1) := Nat.mul_le_mul (by omega) (by omega)
    have b0 : g * v0 ≤ (WB - 1) * (WB - 1) := Nat.mul_le_mul (by omega) (by omega)
    generalize g * v0 = p0 at *
    generalize g * v1 = p1 at *
    generalize hr : (u0 + WB * (u1 + WB * u2)) % (v0 + WB * v1) = r at *
    clear hr he e1 hV
    unfold WB at *
  · by_cases c0 : u0 < p0 % 4294967296
    · rw [if_pos c0]; omega
    · rw [if_neg c0]; omega
  · by_cases c0 : u0 < p0 % 4294967296
    · rw [if_pos c0]; split <;> omega
    · rw [if_neg c0]; split <;> omega
  · omega

theorem mulAddC_small : ∀ {l : List Nat} {y c : Nat}, okW l → c < y → mulAddC l y c < y
  | [], _, _, _, hc => hc
  | x :: r, y, c, h, hc => by
    obtain ⟨h1, h2⟩ := okW_cons.1 h
    show mulAddC r y ((x * y + c) / WB) < y
    refine mulAddC_small h2 ((Nat.div_lt_iff_lt_mul (by decide)).2 ?_)
    have : (x + 1) * y ≤ WB * y := Nat.mul_le_mul_right _ h1
    rw [Nat.add_mul, Nat.one_mul] at this
    rw [Nat.mul_comm y]
    omega
def lW (l : List Nat) (y i : Nat) : List Nat := mulAddW (l.take i) y 0 ++ mulAddC (l.take i) y 0 :: List.replicate (l.length - i) 0
theorem lW_start (l : List Nat) (y : Nat) : lW l y 0 = List.replicate (l.length + 1) 0 := by
  unfold lW
  simp [mulAddW, mulAddC, List.replicate_succ]
theorem lW_length {l : List Nat} {y i : Nat} (h : i ≤ l.length) : (lW l y i).length = l.length + 1 := by
  unfold lW
  simp [mulAddW_length]
  omega
theorem lW_get {l : List Nat} {y i : Nat} (h : i < l.length) : (lW l y i)[i]? = some (mulAddC (l.take i) y 0) ∧ (lW l y i)[i + 1]? = some 0 := by
  have e : (mulAddW (l.take i) y 0).length = i := by rw [mulAddW_length]; simp; omega
  unfold lW
  refine ⟨?_, ?_⟩
  · rw [List.getElem?_append_right (by omega), e, Nat.sub_self]; rfl
  · rw [List.getElem?_append_right (by omega), e, show i + 1 - i = 1 by omega, List.getElem?_cons_succ, List.getElem?_replicate, if_pos (by omega)]
theorem lW_step {l : List Nat} {y i x : Nat} (h : l[i]? = some x) : ((lW l y i).set i ((x * y + mulAddC (l.take i) y 0) % WB)).set (i + 1) ((x * y + mulAddC (l.take i) y 0) / WB) = lW l y (i + 1) := by
  have hi := (List.getElem?_eq_some_iff.1 h).1
  obtain ⟨s1, s2⟩ := mulAdd_step (y := y) (c := 0) h
  have e : (mulAddW (l.take i) y 0).length = i := by rw [mulAddW_length]; simp; omega
  unfold lW
  rw [s1, s2]
  rw [List.set_append_right _ _ (by omega), e, Nat.sub_self, List.set_cons_zero]
  rw [List.set_append_right _ _ (by omega), e, show i + 1 - i = 1 by omega, List.set_cons_succ, show l.length - i = (l.length - (i + 1)) + 1 by omega, List.replicate_succ, List.set_cons_zero]
  simp
theorem lW_done {l : List Nat} {y : Nat} : val (lW l y l.length) = val l * y := by
  have := mulAdd_val l y 0
  unfold lW
  rw [List.take_length, val_append, mulAddW_length, Nat.sub_self, List.replicate_zero, val_cons, val_nil]
  simpa using this
theorem lW_ok {l : List Nat} {y i : Nat} (hl : okW l) (hy : y < WB) (h0 : 0 < y) : okW (lW l y i) := by
  unfold lW
  exact okW_append.2 ⟨mulAddW_ok _ _ _, okW_cons.2 ⟨Nat.lt_trans (mulAddC_small (hl.take i) h0) hy, okW_rep _⟩⟩
end Go.Pure.V

