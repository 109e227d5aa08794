/- A generic layer: values without memory, and code over them. -/
import Derived.Test.YtffpepmfdjjjaaaPureK
/- A generic layer: nothing appended to a slice written out. -/
namespace Go.Pure
open Go

section
variable {P : Program} {o : Oper} {ρ : Operand → PV} {H : PH}
theorem PO_append_lit0 {x y : Operand} {t e : TypeId} {es : List GV} {size : Nat} (ho : o.op = .call { callee := .builtin .append, args := ⟨[x, y]⟩, argTypes := ⟨[t, t]⟩ })
    (ht : P.underlying t = some (.slice e)) (hs : szB P e = some size) (hx : ρ x = .lit es) (hy : elems (ρ y) = some []) : PO P o ρ H (.lit es) H := by
  intro c ρr hr hxx
  have hx1 := hxx x (by simp [ho, Op.operands, Call.operands])
  have hy1 := elems_ok (hxx y (by simp [ho, Op.operands, Call.operands])) hy
  rw [hx] at hx1
  obtain ⟨i, hi⟩ : ∃ i, P.info? e = some i := by
    unfold szB at hs
    cases h : P.info? e with
    | none => rw [h] at hs; cases hs
    | some i => exact ⟨i, rfl⟩
  generalize hvx : ρr x = v at hx1
  generalize hvy : ρr y = u at hy1
  have hop : (execOp ρr o).run P c.w = ((Builtin.append_ #[t, t] o.type #[v, u]).run P c.w).andThen fun r w => .ok (.value r) w := by
    simp [execOp, ho, resolve, invoke, builtin, hvx, hvy]
  have hu : u = .slice none 0 0 ∨ ∃ a c', u = .slice (some a) 0 c' := by
    cases hy1 with
    | nil => exact .inl rfl
    | sl _ a cap => exact .inr ⟨a, cap, rfl⟩
  unfold OpGoes
  rw [hop]
  cases hx1 with
  | lit _ b hrg =>
  rw [run_append_zero c.w ht hi (some b) es.length es.length (Nat.le_refl _) (.inr ⟨_, rfl⟩) u hu]
  exact ⟨c, rfl, hr, Evo.refl c, .lit _ _ hrg⟩
end
end Go.Pure

