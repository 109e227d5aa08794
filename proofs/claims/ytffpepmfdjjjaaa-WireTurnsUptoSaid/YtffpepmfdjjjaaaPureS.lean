/- A generic layer: a contract over some boxes and arrays is one over more of them. -/
import Derived.Test.YtffpepmfdjjjaaaPureR
namespace Go.Pure
open Go

mutual
/-- A value, its boxes and arrays numbered anew. -/
def ren (ι κ ν : Nat → Option Nat) : PV → PV
  | .g x => .g x
  | .own es id => match κ id with | some id' => .own es id' | none => .g (.sl es)
  | .ptr b off => match ι b with | some b' => .ptr b' off | none => .any
  | .nilp => .nilp
  | .nils => .nils
  | .pat cs => .pat cs
  | .clo f a b => .clo f (renL ι κ ν a) (renL ι κ ν b)
  | .agg cs => .agg (renL ι κ ν cs)
  | .tuple cs => .tuple (renL ι κ ν cs)
  | .mar id n => match ν id with | some id' => .mar id' n | none => .any
  | .mref id n i off => match ν id with | some id' => .mref id' n i off | none => .any
  | .mp id => match ν id with | some id' => .mp id' | none => .any
  | .any => .any
def renL (ι κ ν : Nat → Option Nat) : List PV → List PV
  | [] => []
  | p :: r => ren ι κ ν p :: renL ι κ ν r
end
theorem renL_eq (ι κ ν : Nat → Option Nat) : ∀ l, renL ι κ ν l = l.map (ren ι κ ν)
  | [] => by simp [renL]
  | p :: r => by simp [renL, renL_eq ι κ ν r]

theorem RV_ren {c c1 : Ctx} {ι κ ν : Nat → Option Nat} (hw : c1.w = c.w) (hst : ∀ b p, c.stab b p → c1.stab b p)
    (hι : ∀ b b' blk, ι b = some b' → c.σ[b]? = some blk → c1.σ[b']? = some blk) (hκ : ∀ i i' t, κ i = some i' → c.τ[i]? = some t → c1.τ[i']? = some t) (hν : ∀ i i' t, ν i = some i' → c.μ[i]? = some t → c1.μ[i']? = some t) {p : PV} {v : Value} (h : RV c p v) : RV c1 (ren ι κ ν p) v := by
  have hk : Keeps c.w c1.w c.stab c1.stab := fun a v _ hs hc => ⟨by rw [hw]; exact hc, hst _ _ hs⟩
  induction h with
  | g x v h => simp only [ren]; exact .g x v (h.mono hk)
  | own es id v t h ht hs hl hv =>
    simp only [ren]
    split
    · rename_i id' e; exact .own es id' v t (h.mono hk) (hκ id id' t e ht) hs hl hv
    · exact .g _ _ (h.mono hk)
  | ptr b off blk h =>
    simp only [ren]
    split
    · rename_i b' e; exact .ptr b' off blk (hι b b' blk e h)
    · exact .any _
  | nilp => simp only [ren]; exact .nilp
  | nils => simp only [ren]; exact .nils
  | pat cs a f ha hf h =>
    simp only [ren]
    exact .pat cs a f ha (fun k hk' => ⟨by rw [hw]; exact (hf k hk').1, hst _ _ (hf k hk').2.1, (hf k hk').2.2⟩) (fun j g hj => (h j g hj).mono hk)
  | clo fn ps qs us vs hp hq _ _ h1 h2 =>
    simp only [ren, renL_eq]
    refine .clo fn _ _ us vs (by simpa using hp) (by simpa using hq) (fun i p v hp' hv => ?_) (fun i p v hp' hv => ?_)
    · simp only [List.getElem?_map, Option.map_eq_some_iff] at hp'
      obtain ⟨q, hq', rfl⟩ := hp'
      exact h1 i q v hq' hv
    · simp only [List.getElem?_map, Option.map_eq_some_iff] at hp'
      obtain ⟨q, hq', rfl⟩ := hp'
      exact h2 i q v hq' hv
  | agg cs vs hl h1 _ ih =>
    simp only [ren, renL_eq]
    refine .agg _ vs (by simpa using hl) h1 fun i p v hp' hv => ?_
    simp only [List.getElem?_map, Option.map_eq_some_iff] at hp'
    obtain ⟨q, hq', rfl⟩ := hp'
    exact ih i q v hq' hv
  | tuple cs vs hl _ ih =>
    simp only [ren, renL_eq]
    refine .tuple _ vs (by simpa using hl) fun i p v hp' hv => ?_
    simp only [List.getElem?_map, Option.map_eq_some_iff] at hp'
    obtain ⟨q, hq', rfl⟩ := hp'
    exact ih i q v hq' hv
  | mar id n v t ht hn h1 hv =>
    simp only [ren]
    split
    · rename_i id' e; exact .mar id' n v t (hν id id' t e ht) hn h1 hv
    · exact .any _
  | mref id n i off v t ht hn h1 hv =>
    simp only [ren]
    split
    · rename_i id' e; exact .mref id' n i off v t (hν id id' t e ht) hn h1 hv
    · exact .any _
  | mp id v t ht h1 hv =>
    simp only [ren]
    split
    · rename_i id' e; exact .mp id' v t (hν id id' t e ht) h1 hv
    · exact .any _
  | any v => simp only [ren]; exact .any v

/-- Where a number stands in a list. -/
def posOf : List Nat → Nat → Option Nat
  | [], _ => none
  | i :: I, b => bif Nat.beq b i then some 0 else match posOf I b with | some k => some (k + 1) | none => none
theorem posOf_some : ∀ {I : List Nat} {b k : Nat}, posOf I b = some k → I[k]? = some b
  | [], _, _, h => by cases h
  | i :: I, b, k, h => by
    unfold posOf at h
    cases e : Nat.beq b i with
    | true => rw [e, cond_true] at h; cases h; simp [Nat.eq_of_beq_eq_true e]
    | false =>
      rw [e, cond_false] at h
      split at h
      · rename_i k' hk; cases h; simpa using posOf_some hk
      · cases h
/-- The way back. -/
def backOf (I : List Nat) (n i : Nat) : Option Nat := match I[i]? with | some b => some b | none => some (n + (i - I.length))

def setAll {α : Type} : List α → List Nat → List α → List α
  | l, i :: I, x :: xs => setAll (l.set i x) I xs
  | l, _, _ => l
theorem setAll_length {α : Type} : ∀ (l : List α) (I : List Nat) (xs : List α), (setAll l I xs).length = l.length
  | l, i :: I, x :: xs => by rw [setAll, setAll_length]; simp
  | l, [], _ => by simp [setAll]
  | l, _ :: _, [] => by simp [setAll]
theorem setAll_other {α : Type} : ∀ (l : List α) (I : List Nat) (xs : List α) (k : Nat), k ∉ I → (setAll l I xs)[k]? = l[k]?
  | l, i :: I, x :: xs, k, h => by
    rw [setAll, setAll_other _ I xs k (fun hm => h (by simp [hm])), List.getElem?_set_ne (fun e => h (by simp [e]))]
  | l, [], _, _, _ => by simp [setAll]
  | l, _ :: _, [], _, _ => by simp [setAll]
theorem setAll_at {α : Type} : ∀ (l : List α) (I : List Nat) (xs : List α), I.Nodup → (∀ i ∈ I, i < l.length) → ∀ (j k : Nat) (x : α), I[j]? = some k → xs[j]? = some x → (setAll l I xs)[k]? = some x
  | l, i :: I, x :: xs, hn, hl, j, k, y, hj, hx => by
    rw [setAll]
    have hn' := List.nodup_cons.1 hn
    cases j with
    | zero =>
      simp at hj hx
      subst hj; subst hx
      rw [setAll_other _ _ _ _ hn'.1]
      simp [hl i (by simp)]
    | succ j => exact setAll_at _ I xs hn'.2 (fun i' hi => by simpa using hl i' (by simp [hi])) j k y (by simpa using hj) (by simpa using hx)
  | l, [], _, _, _, j, k, x, hj, _ => by simp at hj
  | l, _ :: _, [], _, _, j, k, x, _, hx => by simp at hx
theorem setAll_mem {α : Type} : ∀ (l : List α) (I : List Nat) (xs : List α) (x : α), x ∈ setAll l I xs → x ∈ l ∨ x ∈ xs
  | l, i :: I, y :: xs, x, h => by
    rw [setAll] at h
    rcases setAll_mem _ I xs x h with h | h
    · rcases List.mem_or_eq_of_mem_set h with h | rfl
      · exact .inl h
      · exact .inr (by simp)
    · exact .inr (by simp [h])
  | l, [], _, x, h => by simp [setAll] at h; exact .inl h
  | l, _ :: _, [], x, h => by simp [setAll] at h; exact .inl h
end Go.Pure
