/- A generic layer: a loop that goes no round; what a frame forgets. -/
import Derived.Test.YtffpepmfdjjjaaaPureM
namespace Go.Pure
open Go
section
variable {P : Program} {N : Nat} {Q : Exit → Env → PH → Prop} {env : Env} {H : PH}

theorem PW_of {code : Code} (h : PW P N code Q env H) : PW P N code Q env H := h
theorem PW_loop_none {body : Code} (h : PW P N body (Next (fun _ _ => False) Q) env H) : PW P N (.loop body) Q env H := by
  intro c a hr he
  refine wp_loop_once (wp_mono (h c a hr he) ?_)
  rintro e a' w' ⟨c', env', H', q, rfl, hr', hE, he'⟩
  cases e <;> simp only [Next] at q <;> simp only [Exit.then]
  all_goals first | exact q.elim | exact ⟨c', env', H', q, rfl, hr', hE, he'⟩

/-- A frame that is told slot by slot; what is not told may be anything. -/
def slots : List (Nat × PV) → Env
  | [], _ => .any
  | (k, p) :: r, t => bif Nat.beq t k then p else slots r t

theorem EnvLe.slots_of {l : List (Nat × PV)} (h : ∀ x ∈ l, ∀ (c : Ctx) (v : Value), RV c (env x.1) v → RV c x.2 v) : EnvLe env (slots l) := by
  intro t c v hv
  induction l with
  | nil => exact .any v
  | cons x r ih =>
    obtain ⟨k, p⟩ := x
    simp only [slots]
    cases e : Nat.beq t k with
    | true =>
      rw [cond_true]
      have e' := Nat.eq_of_beq_eq_true e
      subst e'
      exact h _ List.mem_cons_self c v hv
    | false => rw [cond_false]; exact ih fun x hx => h x (List.mem_cons_of_mem _ hx)

/-- Slot by slot: the same, or said without identity. -/
def SlotsOk (env : Env) : List (Nat × PV) → Prop
  | [] => True
  | (k, p) :: r => (env k = p ∨ pack (env k) = p) ∧ SlotsOk env r
theorem SlotsOk.le : ∀ {l : List (Nat × PV)}, SlotsOk env l → EnvLe env (slots l) := by
  intro l h
  refine EnvLe.slots_of ?_
  induction l with
  | nil => simp
  | cons x r ih =>
    intro y hy c v hv
    rcases List.mem_cons.1 hy with rfl | hy
    · rcases h.1 with e | e
      · rw [← e]; exact hv
      · rw [← e]; exact pack_ok hv
    · exact ih h.2 y hy c v hv
theorem HLe.refl (H : PH) : HLe P H H := fun _ h => h
theorem HLe.of_eq {H H' : PH} (h : H = H') : HLe P H H' := h ▸ HLe.refl H
end
end Go.Pure
