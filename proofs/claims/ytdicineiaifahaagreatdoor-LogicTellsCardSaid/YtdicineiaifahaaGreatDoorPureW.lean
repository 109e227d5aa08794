/- A generic layer: values without memory, and code over them. -/
import Derived.Test.YtdicineiaifahaaGreatDoorPureQ
/- Truth in halves (yes 2, not known 1, no 0): the document's answers are what the program tells, and 1. -/
namespace Go.Pure
open Go

def hB (b : Bool) : Int := if b then 2 else 0
theorem hB_tB (b : Bool) : hB b = tB b + 1 := by cases b <;> rfl
mutual
def eqH : VVal → VVal → Int
  | .mk k y c e t l, .mk k' y' c' e' t' l' =>
    if k = 1 ∨ k' = 1 then (if k = k' then 2 else 0) else if k ≠ k' then 1
    else if k = 2 then hB (y == y') else if k = 3 then hB (decide (c = c' ∧ e = e')) else if k = 4 then hB (t.toList == t'.toList) else if k = 5 then (if l.length = l'.length then eqHs l l' 2 else 0) else 0
def eqHs : List VVal → List VVal → Int → Int
  | x :: r, y :: s, a => eqHs r s (if eqH x y < a then eqH x y else a)
  | _, _, a => a
end
theorem eqH_eq (k : Int) (y : Bool) (c e : Int) (t : ByteArray) (l : List VVal) (k' : Int) (y' : Bool) (c' e' : Int) (t' : ByteArray) (l' : List VVal) : eqH (.mk k y c e t l) (.mk k' y' c' e' t' l') =
    if k = 1 ∨ k' = 1 then (if k = k' then 2 else 0) else if k ≠ k' then 1
    else if k = 2 then hB (y == y') else if k = 3 then hB (decide (c = c' ∧ e = e')) else if k = 4 then hB (t.toList == t'.toList) else if k = 5 then (if l.length = l'.length then eqHs l l' 2 else 0) else 0 := by rw [eqH]
mutual
theorem eqH_eqV : ∀ a b : VVal, okV a → okV b → eqH a b = eqV a b + 1
  | .mk k y c e t l, .mk k' y' c' e' t' l', ha, hb => by
    rw [okV_eq] at ha hb
    rw [eqH_eq, eqV_eq]
    by_cases hk : k = k'
    · subst hk
      by_cases h1 : k = 1
      · subst h1; rfl
      · rw [if_neg (by omega), if_neg (by simp), if_pos rfl]
        simp only [hB_tB]
        split
        · rfl
        · split
          · rfl
          · split
            · rfl
            · split
              · rename_i h5
                split
                · exact eqHs_eqVs l l' 1 (ha.2 h5).2 (hb.2 h5).2
                · rfl
              · rcases ha.1 with h | h | h | h | h <;> contradiction
    · by_cases h1 : k = 1 ∨ k' = 1
      · rw [if_pos h1, if_pos h1, if_neg hk, if_neg hk]; rfl
      · rw [if_neg h1, if_neg h1, if_pos hk, if_neg hk]; rfl
theorem eqHs_eqVs : ∀ (l l' : List VVal) (n : Int), (∀ v ∈ l, okV v) → (∀ v ∈ l', okV v) → eqHs l l' (n + 1) = eqVs l l' n + 1
  | x :: r, y :: s, n, h1, h2 => by
    rw [eqHs, eqVs, eqH_eqV x y (h1 x (by simp)) (h2 y (by simp))]
    rw [show (if eqV x y + 1 < n + 1 then eqV x y + 1 else n + 1) = min n (eqV x y) + 1 by split <;> omega]
    exact eqHs_eqVs r s _ (fun v hv => h1 v (List.mem_cons_of_mem _ hv)) (fun v hv => h2 v (List.mem_cons_of_mem _ hv))
  | [], [], n, _, _ => by simp [eqHs, eqVs]
  | [], _ :: _, n, _, _ => by simp [eqHs, eqVs]
  | _ :: _, [], n, _, _ => by simp [eqHs, eqVs]
end
def lessH : VVal → VVal → Int
  | .mk k _ c e t _, .mk k' _ c' e' t' _ => if k = 3 ∧ k' = 3 then hB (decide (cmpD c e c' e' < 0)) else if k = 4 ∧ k' = 4 then hB (Op.bytesLess t.toList t'.toList) else 1
theorem lessH_lessV {V : ByteArray → Bool} {a b : VVal} (ha : (lookV V a 0 1).2 = 0) (hb : (lookV V b 0 1).2 = 0) : lessH a b = lessV a b + 1 := by
  obtain ⟨k, y, c, e, t, l⟩ := a
  obtain ⟨k', y', c', e', t', l'⟩ := b
  rw [lessV_eq]
  show (if k = 3 ∧ k' = 3 then hB (decide (cmpD c e c' e' < 0)) else if k = 4 ∧ k' = 4 then hB (Op.bytesLess t.toList t'.toList) else 1) = _
  by_cases h3 : k = 3 ∧ k' = 3
  · obtain ⟨rfl, rfl⟩ := h3
    rw [if_pos ⟨rfl, rfl⟩, if_pos ⟨rfl, rfl⟩, if_neg (by rw [lookV_num ha, lookV_num hb]; simp), hB_tB]
  · rw [if_neg h3, if_neg h3]
    split
    · exact hB_tB _
    · rfl
end Go.Pure

