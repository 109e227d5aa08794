/- A generic layer: arrays that begin as nil; texts as bytes. -/
import Derived.Test.YtffpepmfdjjjaaaPureX
namespace Go.Pure
open Go

section
variable {P : Program} {c : Ctx} {H : PH}

/-- A place for an array that isn't there yet. -/
theorem Rel.addDead (hr : Rel P c H) {e size : Nat} (hs : szB P e = some size) :
    Rel P ⟨c.σ, c.τ ++ [⟨false, 0, e, size, 0, 0⟩], c.μ, c.hid, c.w⟩ ⟨H.bx, H.tk ++ [(e, 0)], H.mu⟩ ∧ Evo c ⟨c.σ, c.τ ++ [⟨false, 0, e, size, 0, 0⟩], c.μ, c.hid, c.w⟩ := by
  have e2 := evo_ext (Ext.refl c.w) [] [⟨false, 0, e, size, 0, 0⟩] [] (by simp) (by simp) (by simp)
  simp only [List.append_nil] at e2
  have e1 := hr.ext (Ext.refl c.w) [] [⟨false, 0, e, size, 0, 0⟩] [] (by simp) (by simp) (by
    intro i j t1 t2 h1 h2
    have := (List.getElem?_eq_some_iff.1 h1).1
    have := (List.getElem?_eq_some_iff.1 h2).1
    simp at *
    omega) (by
    intro t ht _
    simp at ht
    subst ht
    exact ⟨rfl, hs⟩) (by simp) (by simp) (by simp) (by simp)
  simp only [List.map_cons, List.map_nil, List.append_nil] at e1
  exact ⟨e1, e2⟩

theorem RV.ofNil {v : Value} {id : Nat} {t : Tok} (h : RV c .nils v) (ht : c.τ[id]? = some t) : RV c (.own [] id) v := by
  cases h with
  | nils => exact .own [] id _ t .nil ht (by simp) (by simp) (fun _ => .inr ⟨rfl, rfl⟩)
end

section
variable {P : Program} {N : Nat} {Q : Exit → Env → PH → Prop} {env : Env} {H : PH}

/-- A slot that holds nil from here on is an array without elements. -/
theorem PW_buf {code : Code} (k e : Nat) {size : Nat} (hs : szB P e = some size) (hk : env k = .nils) (h : PW P N code Q (upd env (some k) (.own [] H.tk.length)) ⟨H.bx, H.tk ++ [(e, 0)], H.mu⟩) : PW P N code Q env H := by
  intro c a hr he
  obtain ⟨r1, e1⟩ := hr.addDead hs
  have hlen : c.τ.length = H.tk.length := by rw [← hr.tk]; simp
  have hE : ER ⟨c.σ, c.τ ++ [⟨false, 0, e, size, 0, 0⟩], c.μ, c.hid, c.w⟩ N (upd env (some k) (.own [] H.tk.length)) a := by
    refine ⟨he.defers, he.size, fun t => ?_⟩
    simp only [upd]
    cases ht : Nat.beq t k with
    | true =>
      rw [cond_true]
      have := Nat.eq_of_beq_eq_true ht
      subst this
      have h1 := (he.slot t).mono e1
      rw [hk] at h1
      refine RV.ofNil h1 (t := ⟨false, 0, e, size, 0, 0⟩) ?_
      show (c.τ ++ [_])[H.tk.length]? = _
      rw [← hlen]; simp
    | false => rw [cond_false]; exact (he.slot t).mono e1
  refine wp_mono (h ⟨c.σ, c.τ ++ [⟨false, 0, e, size, 0, 0⟩], c.μ, c.hid, c.w⟩ a r1 hE) ?_
  rintro x a' w' ⟨c', env', H', q, rfl, hr', hE', he'⟩
  exact ⟨c', env', H', q, rfl, hr', e1.trans hE', he'⟩
end

/-- nil in the place of an array without elements. -/
def nilArg (n : Nat) : PV → PV
  | .own [] id => bif Nat.beq id n then .nils else .own [] id
  | p => p
theorem nilArg_ok {c : Ctx} {n : Nat} {t : Tok} (ht : c.τ[n]? = some t) {p : PV} {u : Value} (h : RV c (nilArg n p) u) : RV c p u := by
  unfold nilArg at h
  split at h
  · rename_i id
    cases hb : Nat.beq id n with
    | true =>
      rw [hb, cond_true] at h
      have := Nat.eq_of_beq_eq_true hb
      subst this
      exact RV.ofNil h ht
    | false => rw [hb, cond_false] at h; exact h
  · exact h

/-- A contract over an array without elements is one over nil. -/
theorem PC_nil {P : Program} {f : FuncId} {args args' : List PV} {H H1 : PH} {v : PV} (e : Nat) {size : Nat} (hs : szB P e = some size) (hp : PC P f args ⟨H.bx, H.tk ++ [(e, 0)], H.mu⟩ v H1)
    (ha : args.map (nilArg H.tk.length) = args') : PC P f args' H v H1 := by
  intro c vs hr hargs
  obtain ⟨r1, e1⟩ := hr.addDead hs
  have hlen : c.τ.length = H.tk.length := by rw [← hr.tk]; simp
  have hnew : (c.τ ++ [(⟨false, 0, e, size, 0, 0⟩ : Tok)])[H.tk.length]? = some ⟨false, 0, e, size, 0, 0⟩ := by rw [← hlen]; simp
  refine (hp ⟨c.σ, c.τ ++ [⟨false, 0, e, size, 0, 0⟩], c.μ, c.hid, c.w⟩ vs r1 ⟨?_, fun i p u hp' hu => ?_⟩).mono ?_
  · rw [← hargs.1, ← ha]; simp
  · have h1 : args'[i]? = some (nilArg H.tk.length p) := by rw [← ha]; simp [hp']
    exact nilArg_ok hnew ((hargs.2 i _ u h1 hu).mono e1)
  · rintro x w' ⟨rv, c', rfl, hw, hr', hE, hv'⟩
    exact ⟨rv, c', rfl, hw, hr', e1.trans hE, hv'⟩
end Go.Pure
