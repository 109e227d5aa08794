/- A generic layer: appending to an array that is being filled. -/
import Derived.Test.YtffpepmfdjjjaaaPureT
namespace Go.Pure
open Go

section
variable {P : Program} {c : Ctx} {H : PH}

/-- An array gets more elements: in place, or in new memory. -/
theorem Rel.setTok (hr : Rel P c H) {id : Nat} {t t' : Tok} (ht : c.τ[id]? = some t) (he : t'.e = t.e) (hsz : t'.size = t.size) (hlt : t.hw < t'.hw) (hlv : t'.live = true) {w' : World}
    (hos : w'.os = c.w.os) (htape : w'.tape = c.w.tape) (hout : w'.output = c.w.output) (hsize : c.w.heap.size ≤ w'.heap.size)
    (hblk : ∀ b, b < c.w.heap.size → (t.live = true → b ≠ t.g) → w'.heap[b]? = c.w.heap[b]?)
    (hown : t.live = true → ∀ k, k < t.hw * t.size → w'.cell? ⟨t.g, k, none⟩ = c.w.cell? ⟨t.g, k, none⟩)
    (hg : (t.live = true ∧ t'.g = t.g) ∨ c.w.heap.size ≤ t'.g)
    (htb : ∃ cur, w'.heap[t'.g]? = some (.cells cur t'.e (0, 0)) ∧ cur.size = t'.cap * t'.size ∧ t'.hw ≤ t'.cap ∧ t'.cap ≤ maxLen ∧ (P.info? t'.e).map (·.size) = some t'.size) :
    Rel P ⟨c.σ, c.τ.set id t', c.μ, c.hid, w'⟩ ⟨H.bx, H.tk.set id (t'.e, t'.hw), H.mu⟩ ∧ Evo c ⟨c.σ, c.τ.set id t', c.μ, c.hid, w'⟩ := by
  have hid := (List.getElem?_eq_some_iff.1 ht).1
  have htm := List.mem_of_getElem? ht
  have mem' : ∀ t2 ∈ c.τ.set id t', t2 = t' ∨ ∃ k, k ≠ id ∧ c.τ[k]? = some t2 := by
    intro t2 h2
    obtain ⟨k, hk⟩ := List.getElem?_of_mem h2
    by_cases e : k = id
    · subst e
      rw [List.getElem?_set_self hid] at hk
      cases hk
      exact .inl rfl
    · rw [List.getElem?_set_ne (fun e' => e e'.symm)] at hk
      exact .inr ⟨k, e, hk⟩
  have hE : Evo c ⟨c.σ, c.τ.set id t', c.μ, c.hid, w'⟩ := by
    refine ⟨hos, htape, hout, hsize, rfl, ⟨[], by simp, by simp⟩, ?_, fun id t ht => ⟨t, ht, rfl, .inl rfl⟩, fun t ht lv => .inl ⟨t, ht, lv, rfl⟩, ?_, ?_, ?_⟩
    · intro k t2 h2
      by_cases e : k = id
      · subst e
        rw [ht] at h2
        cases h2
        exact ⟨t', by simp [hid], hsz, he, .inr hlt⟩
      · exact ⟨t2, by show (c.τ.set id t')[k]? = _; rw [List.getElem?_set_ne (fun e' => e e'.symm)]; exact h2, rfl, rfl, .inl rfl⟩
    · intro t2 h2 lv
      rcases mem' t2 h2 with rfl | ⟨k, hk, hk2⟩
      · rcases hg with ⟨l1, g1⟩ | g1
        · exact .inl ⟨t, htm, l1, g1.symm⟩
        · exact .inr g1
      · exact .inl ⟨t2, List.mem_of_getElem? hk2, lv, rfl⟩
    · intro a v hspot hs hcell
      have hab := World.block_lt_of_cell? c.w a hcell
      refine ⟨?_, hs.1, hs.2.1, fun t2 h2 lv e => ?_, hs.2.2.2⟩
      · by_cases e : t.live = true ∧ a.block = t.g
        · have hp := hs.2.2.1 t htm e.1 e.2.symm
          have ha : a = ⟨t.g, a.off, none⟩ := by cases a; simp_all
          rw [← hcell, ha]
          exact hown e.1 _ hp
        · rw [← hcell]
          exact World.cell?_of_block (hblk a.block hab fun l e' => e ⟨l, e'⟩)
      · rcases mem' t2 h2 with rfl | ⟨k, hk, hk2⟩
        · rcases hg with ⟨l1, g1⟩ | g1
          · have hp := hs.2.2.1 t htm l1 (g1.symm.trans e)
            rw [hsz]
            exact Nat.lt_of_lt_of_le hp (Nat.mul_le_mul_right _ (by omega))
          · omega
        · exact hs.2.2.1 t2 (List.mem_of_getElem? hk2) lv e
    · intro b hb _ h3 _
      exact hblk b hb fun l e => h3 t htm l e.symm
  have hσ : ∀ b ∈ c.σ, w'.heap[b]? = c.w.heap[b]? := fun b hb => hblk b (hr.shid b hb) fun l e => hr.st t htm l (e ▸ hb)
  have hother : ∀ k t2, k ≠ id → c.τ[k]? = some t2 → t2.live = true → w'.heap[t2.g]? = c.w.heap[t2.g]? := fun k t2 hk hk2 lv =>
    hblk t2.g (hr.tlt (List.mem_of_getElem? hk2) lv) fun l e => hk (hr.td k id t2 t hk2 ht lv l e)
  refine ⟨⟨hr.len, ?_, ?_, ?_, hr.nd, ?_, ?_, fun b p h => Nat.lt_of_lt_of_le (hr.hidlt b p h) hsize, ?_, fun b hb => Nat.lt_of_lt_of_le (hr.shid b hb) hsize, ?_, hr.mlen, ?_, fun t ht lv => Nat.lt_of_lt_of_le (hr.mlt t ht lv) hsize, hr.md, hr.ms, ?_, hr.mhid⟩, hE⟩
  · intro i b cs hb hcs
    obtain ⟨vals, T, e1, e2, e3⟩ := hr.bx i b cs hb hcs
    exact ⟨vals, T, (hσ b (List.mem_of_getElem? hb)).trans e1, e2, fun j p v hp hv => ⟨(e3 j p v hp hv).1.mono hE, (e3 j p v hp hv).2⟩⟩
  · show (c.τ.set id t').map _ = H.tk.set id _
    rw [List.map_set, hr.tk]
  · intro t2 h2 lv
    rcases mem' t2 h2 with rfl | ⟨k, hk, hk2⟩
    · exact htb
    · obtain ⟨cur, e1, e2⟩ := hr.tb t2 (List.mem_of_getElem? hk2) lv
      exact ⟨cur, (hother k t2 hk hk2 lv).trans e1, e2⟩
  · intro i j t1 t2 hi hj l1 l2 e
    replace hi : (c.τ.set id t')[i]? = some t1 := hi
    replace hj : (c.τ.set id t')[j]? = some t2 := hj
    by_cases ei : i = id <;> by_cases ej : j = id
    · omega
    · subst ei
      rw [List.getElem?_set_self hid] at hi
      rw [List.getElem?_set_ne (fun e' => ej e'.symm)] at hj
      cases hi
      rcases hg with ⟨lv, g1⟩ | g1
      · exact hr.td _ j t t2 ht hj lv l2 (g1.symm.trans e)
      · have := hr.tlt (List.mem_of_getElem? hj) l2; omega
    · subst ej
      rw [List.getElem?_set_self hid] at hj
      rw [List.getElem?_set_ne (fun e' => ei e'.symm)] at hi
      cases hj
      rcases hg with ⟨lv, g1⟩ | g1
      · exact hr.td i _ t1 t hi ht l1 lv (e.trans g1)
      · have := hr.tlt (List.mem_of_getElem? hi) l1; omega
    · rw [List.getElem?_set_ne (fun e' => ei e'.symm)] at hi
      rw [List.getElem?_set_ne (fun e' => ej e'.symm)] at hj
      exact hr.td i j t1 t2 hi hj l1 l2 e
  · intro t2 h2 lv hm
    rcases mem' t2 h2 with rfl | ⟨k, hk, hk2⟩
    · rcases hg with ⟨l1, g1⟩ | g1
      · exact hr.st t htm l1 (g1 ▸ hm)
      · have := hr.shid _ hm; omega
    · exact hr.st t2 (List.mem_of_getElem? hk2) lv hm
  · intro t2 h2 lv p hp
    rcases mem' t2 h2 with rfl | ⟨k, hk, hk2⟩
    · rcases hg with ⟨l1, g1⟩ | g1
      · exact hr.thid t htm l1 p (g1 ▸ hp)
      · have := hr.hidlt _ _ hp; omega
    · exact hr.thid t2 (List.mem_of_getElem? hk2) lv p hp
  · intro t2 h2 lv
    rcases mem' t2 h2 with rfl | ⟨k, hk, hk2⟩
    · rw [hlv] at lv; cases lv
    · exact hr.dead t2 (List.mem_of_getElem? hk2) lv
  · intro i t2 o h2 ho
    have hm := List.mem_of_getElem? h2
    exact (hr.mu i t2 o h2 ho).mono hE fun lv => hblk _ (hr.mlt t2 hm lv) fun l e => hr.mt t2 hm lv t htm l e
  · intro t2 h2 lv t3 h3 lv3 e
    rcases mem' t3 h3 with rfl | ⟨k, hk, hk2⟩
    · rcases hg with ⟨l1, g1⟩ | g1
      · exact hr.mt t2 h2 lv t htm l1 (e.trans g1)
      · have := hr.mlt t2 h2 lv; omega
    · exact hr.mt t2 h2 lv t3 (List.mem_of_getElem? hk2) lv3 e
end
end Go.Pure
