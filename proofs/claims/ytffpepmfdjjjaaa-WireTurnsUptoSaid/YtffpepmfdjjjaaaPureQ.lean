/- A generic layer: what a value of a type looks like. -/
import Derived.Test.YtffpepmfdjjjaaaPureP
namespace Go.Pure
open Go

section
variable {P : Program} {t : TypeId} {g : GV}
theorem GT.int_inv {k : IntKind} (hu : P.underlying t = some (.int k)) (h : GT P t g) : ∃ n, g = .int k n ∧ (Lit.int k n).wf = true := by
  cases h with
  | int _ k' n hu' hw => rw [hu] at hu'; cases hu'; exact ⟨n, rfl, hw⟩
  | bool _ b hu' => rw [hu] at hu'; cases hu'
  | str _ s hu' => rw [hu] at hu'; cases hu'
  | sl _ e es hu' => rw [hu] at hu'; cases hu'
  | agg _ fs xs hu' => rw [hu] at hu'; cases hu'
theorem GT.bool_inv (hu : P.underlying t = some .bool) (h : GT P t g) : ∃ b, g = .bool b := by
  cases h with
  | int _ k' n hu' hw => rw [hu] at hu'; cases hu'
  | bool _ b hu' => exact ⟨b, rfl⟩
  | str _ s hu' => rw [hu] at hu'; cases hu'
  | sl _ e es hu' => rw [hu] at hu'; cases hu'
  | agg _ fs xs hu' => rw [hu] at hu'; cases hu'
theorem GT.str_inv (hu : P.underlying t = some .string) (h : GT P t g) : ∃ s, g = .str s ∧ s.size ≤ maxLen := by
  cases h with
  | int _ k' n hu' hw => rw [hu] at hu'; cases hu'
  | bool _ b hu' => rw [hu] at hu'; cases hu'
  | str _ s hu' hs => exact ⟨s, rfl, hs⟩
  | sl _ e es hu' => rw [hu] at hu'; cases hu'
  | agg _ fs xs hu' => rw [hu] at hu'; cases hu'
theorem GT.sl_inv {e : TypeId} (hu : P.underlying t = some (.slice e)) (h : GT P t g) : ∃ es, g = .sl es ∧ es.length ≤ maxLen ∧ ∀ x ∈ es, GT P e x := by
  cases h with
  | int _ k' n hu' hw => rw [hu] at hu'; cases hu'
  | bool _ b hu' => rw [hu] at hu'; cases hu'
  | str _ s hu' => rw [hu] at hu'; cases hu'
  | sl _ e' es hu' hl he => rw [hu] at hu'; cases hu'; exact ⟨es, rfl, hl, he⟩
  | agg _ fs xs hu' => rw [hu] at hu'; cases hu'
theorem GT.agg_inv {fs : Array Field} (hu : P.underlying t = some (.struct fs)) (h : GT P t g) : ∃ xs : List GV, g = .agg (xs.flatMap GV.cells) ∧ xs.length = fs.size ∧ ∀ (i : Nat) (f : Field) (x : GV), fs[i]? = some f → xs[i]? = some x → GT P f.type x := by
  cases h with
  | int _ k' n hu' hw => rw [hu] at hu'; cases hu'
  | bool _ b hu' => rw [hu] at hu'; cases hu'
  | str _ s hu' => rw [hu] at hu'; cases hu'
  | sl _ e es hu' => rw [hu] at hu'; cases hu'
  | agg _ fs' xs hu' hl hx => rw [hu] at hu'; cases hu'; exact ⟨xs, rfl, hl, hx⟩
end
end Go.Pure
