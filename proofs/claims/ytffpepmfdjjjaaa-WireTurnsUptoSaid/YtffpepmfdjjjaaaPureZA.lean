/- A generic layer: where ways meet again. -/
import Derived.Test.YtffpepmfdjjjaaaPureZZ
namespace Go.Pure
open Go
section
variable {P : Program} {N : Nat} {Q : Exit → Env → PH → Prop} {env : Env} {H : PH}

/-- Ways meet: what is told of the frame and of the state at the end of the first piece. -/
theorem PW_cut {x y : Code} (E : Env) (H' : PH) (h1 : PW P N x (Next (fun env' H1 => EnvLe env' E ∧ HLe P H1 H') Q) env H) (h2 : PW P N y Q E H') : PW P N (.seq x y) Q env H :=
  PW_seq (PW_mono h1 fun e env' H1 h => by
    cases e <;> simp only [Next] at h ⊢
    case normal => exact PW_weak h.1 h.2 h2
    all_goals exact h)
/-- The same with a frame that is told by cases. -/
theorem PW_cut_ex {S : Type} {x y : Code} (E : S → Env) (H' : S → PH) (I : S → Prop) (h1 : PW P N x (Next (fun env' H1 => ∃ s, I s ∧ EnvLe env' (E s) ∧ HLe P H1 (H' s)) Q) env H) (h2 : ∀ s, I s → PW P N y Q (E s) (H' s)) : PW P N (.seq x y) Q env H :=
  PW_seq (PW_mono h1 fun e env' H1 h => by
    cases e <;> simp only [Next] at h ⊢
    case normal => obtain ⟨s, hs, a, b⟩ := h; exact PW_weak a b (h2 s hs)
    all_goals exact h)

/-- The first region of a piece of code. -/
def headR : Code → Nat
  | .region id _ _ => id
  | .seq x _ => headR x
  | .block _ x => headR x
  | .loop x => headR x
  | _ => 100000
theorem PW_seq_unless (stops : List Nat) {x y : Code} (_h : memB stops (headR x) = false) (k : PW P N x (Next (PW P N y Q) Q) env H) : PW P N (.seq x y) Q env H := PW_seq k
theorem PW_loop_at {body : Code} (h : PW P N (.loop body) Q env H) : PW P N (.loop body) Q env H := h

theorem meet_nil {env : Env} : SlotsOk env [] := trivial
theorem meet_cons {env : Env} {k : Nat} {p : PV} {r : List (Nat × PV)} (h : env k = p ∨ pack (env k) = p) (hr : SlotsOk env r) : SlotsOk env ((k, p) :: r) := ⟨h, hr⟩

/-- A cell of a box that holds nil is an array without elements. -/
theorem PW_bufbox {code : Code} (b off e : Nat) {size : Nat} {cs : List PV} (hs : szB P e = some size) (hb : H.bx[b]? = some cs) (hk : cs[off]? = some .nils)
    (h : PW P N code Q env ⟨H.bx.set b (cs.set off (.own [] H.tk.length)), H.tk ++ [(e, 0)], H.mu⟩) : PW P N code Q env H := by
  intro c a hr he
  obtain ⟨r1, e1⟩ := hr.addDead hs
  have hlen : c.τ.length = H.tk.length := by rw [← hr.tk]; simp
  have hnew : (c.τ ++ [(⟨false, 0, e, size, 0, 0⟩ : Tok)])[H.tk.length]? = some ⟨false, 0, e, size, 0, 0⟩ := by rw [← hlen]; simp
  have r2 : Rel P ⟨c.σ, c.τ ++ [⟨false, 0, e, size, 0, 0⟩], c.μ, c.hid, c.w⟩ ⟨H.bx.set b (cs.set off (.own [] H.tk.length)), H.tk ++ [(e, 0)], H.mu⟩ := by
    refine { r1 with len := by simpa using r1.len, bx := ?_ }
    intro i blk ds hi hds
    by_cases eb : i = b
    · subst eb
      rw [List.getElem?_set_self (List.getElem?_eq_some_iff.1 hb).1] at hds
      cases hds
      obtain ⟨vals, T, a1, a2, a3⟩ := r1.bx i blk cs hi hb
      refine ⟨vals, T, a1, by simpa using a2, fun j p v hp hv => ?_⟩
      by_cases ej : j = off
      · subst ej
        rw [List.getElem?_set_self (List.getElem?_eq_some_iff.1 hk).1] at hp
        cases hp
        have := a3 j _ v hk hv
        exact ⟨RV.ofNil this.1 hnew, this.2⟩
      · rw [List.getElem?_set_ne (fun e => ej e.symm)] at hp
        exact a3 j p v hp hv
    · rw [List.getElem?_set_ne (fun e => eb e.symm)] at hds
      exact r1.bx i blk ds hi hds
  refine wp_mono (h ⟨c.σ, c.τ ++ [⟨false, 0, e, size, 0, 0⟩], c.μ, c.hid, c.w⟩ a r2 (he.mono e1)) ?_
  rintro x a' w' ⟨c', env', H', q, rfl, hr', hE', he'⟩
  exact ⟨c', env', H', q, rfl, hr', e1.trans hE', he'⟩
end

section
variable {P : Program} {o : Oper} {ρ : Operand → PV} {H : PH}
/-- A part of some bytes, told as such. -/
theorem PO_slice_bys (m : List UInt8) {t e : TypeId} {x : Operand} {lo hi : Option Operand} {l : List UInt8} {lw hw : Option (IntKind × Int)} (a b : Nat) (ho : o.op = .slice t x lo hi none) (ht : P.underlying t = some (.slice e)) (hs : szB P e = some 1) (hx : elems (ρ x) = some (bys l)) (hl : boundP ρ lo = some lw) (hh : boundP ρ hi = some hw)
    (ha : loOf lw = a) (hb : hiOf l.length hw = b) (hab : a ≤ b) (hbl : b ≤ l.length) (hm : (l.drop a).take (b - a) = m) : PO P o ρ H (.g (.sl (bys m))) H := by
  have hlen : (bys l).length = l.length := by simp [bys]
  have := PO_slice_sl (H := H) ho ht hs hx hl hh (by rw [ha]; omega) (by rw [hlen, ha, hb]; omega) (by rw [hlen, hb]; omega) (by intro x hx; obtain ⟨v, _, rfl⟩ := List.mem_map.1 hx; rfl)
  rw [hlen, ha, hb] at this
  have e : (List.drop ((a : Int)).toNat (bys l)).take (((b : Int)).toNat - ((a : Int)).toNat) = bys m := by
    rw [← hm]; simp [bys, List.map_drop, List.map_take]
  rw [e] at this
  exact this
end
section
variable {P : Program} {H H' H2 : PH} {v : PV} {env : Env}
/-- The end of a function that keeps boxes and arrays; its result is told without identity. -/
theorem Ret_boxp {rs : List ResultVar} {ps : List PV} {e : Exit} {v' : PV} {B : List (List PV)} {T : List (TypeId × Nat)} (hs : resVs P env H2 rs = some ps) (hv : deepV (retV ps) = some v') (hB : deepB (H2.bx.take H'.bx.length) = some B) (hT : deepT (H2.tk.take H'.tk.length) = some T) {M : List MO} (hM : deepM (H2.mu.take H'.mu.length) = some M)
    (h1 : Nat.ble H.bx.length H'.bx.length = true) (h2 : Nat.ble H.tk.length H'.tk.length = true) (h3 : Nat.ble H.mu.length H'.mu.length = true) (hc : refsOk H'.bx.length H'.tk.length H'.mu.length v' = true) (hb : refsOkB H'.bx.length H'.tk.length H'.mu.length B = true)
    (hvv : v' = v) (hbx : B = H'.bx) (htk : T = H'.tk) (hmu : M = H'.mu) (he : e = .normal ∨ e = .ret := by first | exact .inl rfl | exact .inr rfl) : Ret P rs H v H' e env H2 := by
  rw [deepV_eq] at hv
  rw [deepB_eq] at hB
  rw [deepT_eq] at hT
  rw [deepM_eq] at hM
  cases hv; cases hB; cases hT; cases hM
  subst hvv
  refine ⟨he, ps, .inl hs, rfl, ⟨H2.bx.drop H'.bx.length, ?_⟩, ⟨H2.tk.drop H'.tk.length, ?_⟩, ⟨H2.mu.drop H'.mu.length, ?_⟩, Nat.le_of_ble_eq_true h1, Nat.le_of_ble_eq_true h2, Nat.le_of_ble_eq_true h3, refsOk_spec hc, ?_⟩
  · conv => lhs; rw [← List.take_append_drop H'.bx.length H2.bx]
    rw [hbx]
  · conv => lhs; rw [← List.take_append_drop H'.tk.length H2.tk]
    rw [htk]
  · conv => lhs; rw [← List.take_append_drop H'.mu.length H2.mu]
    rw [hmu]
  · rw [hbx] at hb
    exact refsOkB_spec hb
end
end Go.Pure
