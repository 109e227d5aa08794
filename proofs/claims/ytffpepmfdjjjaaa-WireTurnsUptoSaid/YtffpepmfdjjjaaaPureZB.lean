/- A generic layer: what may be written changes. -/
import Derived.Test.YtffpepmfdjjjaaaPureZA
namespace Go.Pure
open Go

section
variable {P : Program} {c : Ctx} {H : PH}

/-- Something that may be written is written, moves, or is given up. -/
theorem Rel.setMu (hr : Rel P c H) {id : Nat} {t t' : MTok} {o' : MO} (ht : c.μ[id]? = some t) (hsz : t'.size = t.size) (hd : t' = t ∨ t.gen < t'.gen) {w' : World}
    (hos : w'.os = c.w.os) (htape : w'.tape = c.w.tape) (hout : w'.output = c.w.output) (hsize : c.w.heap.size ≤ w'.heap.size)
    (hblk : ∀ b, b < c.w.heap.size → (t.live = true → b ≠ t.g) → w'.heap[b]? = c.w.heap[b]?)
    (hg : t'.live = true → (t.live = true ∧ t'.g = t.g) ∨ (c.w.heap.size ≤ t'.g ∧ t'.g < w'.heap.size))
    (hmo : Evo c ⟨c.σ, c.τ, c.μ.set id t', c.hid, w'⟩ → MOk P ⟨c.σ, c.τ, c.μ.set id t', c.hid, w'⟩ t' o') :
    Rel P ⟨c.σ, c.τ, c.μ.set id t', c.hid, w'⟩ ⟨H.bx, H.tk, H.mu.set id o'⟩ ∧ Evo c ⟨c.σ, c.τ, c.μ.set id t', c.hid, w'⟩ := by
  have hid := (List.getElem?_eq_some_iff.1 ht).1
  have htm := List.mem_of_getElem? ht
  have mem' : ∀ t2 ∈ c.μ.set id t', t2 = t' ∨ ∃ k, k ≠ id ∧ c.μ[k]? = some t2 := by
    intro t2 h2
    obtain ⟨k, hk⟩ := List.getElem?_of_mem h2
    by_cases e : k = id
    · subst e
      rw [List.getElem?_set_self hid] at hk
      cases hk
      exact .inl rfl
    · rw [List.getElem?_set_ne (fun e' => e e'.symm)] at hk
      exact .inr ⟨k, e, hk⟩
  have hE : Evo c ⟨c.σ, c.τ, c.μ.set id t', c.hid, w'⟩ := by
    refine ⟨hos, htape, hout, hsize, rfl, ⟨[], by simp, by simp⟩, fun id t ht => ⟨t, ht, rfl, rfl, .inl rfl⟩, ?_, ?_, fun t ht lv => .inl ⟨t, ht, lv, rfl⟩, ?_, ?_⟩
    · intro k t2 h2
      by_cases e : k = id
      · subst e
        rw [ht] at h2
        cases h2
        exact ⟨t', by simp [hid], hsz, hd⟩
      · exact ⟨t2, by show (c.μ.set id t')[k]? = _; rw [List.getElem?_set_ne (fun e' => e e'.symm)]; exact h2, rfl, .inl rfl⟩
    · intro t2 h2 lv
      rcases mem' t2 h2 with rfl | ⟨k, hk, hk2⟩
      · rcases hg lv with ⟨l1, g1⟩ | g1
        · exact .inl ⟨t, htm, l1, g1.symm⟩
        · exact .inr g1.1
      · exact .inl ⟨t2, List.mem_of_getElem? hk2, lv, rfl⟩
    · intro a v hspot hs hcell
      have hab := World.block_lt_of_cell? c.w a hcell
      refine ⟨?_, hs.1, hs.2.1, hs.2.2.1, fun t2 h2 lv e => ?_⟩
      · rw [← hcell]
        exact World.cell?_of_block (hblk a.block hab fun l e' => hs.2.2.2 t htm l e'.symm)
      · rcases mem' t2 h2 with rfl | ⟨k, hk, hk2⟩
        · rcases hg lv with ⟨l1, g1⟩ | g1
          · exact hs.2.2.2 t htm l1 (g1.symm.trans e)
          · omega
        · exact hs.2.2.2 t2 (List.mem_of_getElem? hk2) lv e
    · intro b hb _ _ h4
      exact hblk b hb fun l e => h4 t htm l e.symm
  have hσ : ∀ b ∈ c.σ, w'.heap[b]? = c.w.heap[b]? := fun b hb => hblk b (hr.shid b hb) fun l e => hr.ms t htm l (e ▸ hb)
  have hτ : ∀ t2 ∈ c.τ, t2.live = true → w'.heap[t2.g]? = c.w.heap[t2.g]? := fun t2 h2 lv => hblk t2.g (hr.tlt h2 lv) fun l e => hr.mt t htm l t2 h2 lv e.symm
  have hother : ∀ k t2, k ≠ id → c.μ[k]? = some t2 → t2.live = true → w'.heap[t2.g]? = c.w.heap[t2.g]? := fun k t2 hk hk2 lv =>
    hblk t2.g (hr.mlt t2 (List.mem_of_getElem? hk2) lv) fun l e => hk (hr.md k id t2 t hk2 ht lv l e)
  refine ⟨⟨hr.len, ?_, hr.tk, ?_, hr.nd, hr.td, hr.st, fun b p h => Nat.lt_of_lt_of_le (hr.hidlt b p h) hsize, hr.thid, fun b hb => Nat.lt_of_lt_of_le (hr.shid b hb) hsize, hr.dead, ?_, ?_, ?_, ?_, ?_, ?_, ?_⟩, hE⟩
  · intro i b cs hb hcs
    obtain ⟨vals, T, e1, e2, e3⟩ := hr.bx i b cs hb hcs
    exact ⟨vals, T, (hσ b (List.mem_of_getElem? hb)).trans e1, e2, fun j p v hp hv => ⟨(e3 j p v hp hv).1.mono hE, (e3 j p v hp hv).2⟩⟩
  · intro t2 h2 lv
    obtain ⟨cur, e1, e2⟩ := hr.tb t2 h2 lv
    exact ⟨cur, (hτ t2 h2 lv).trans e1, e2⟩
  · show (c.μ.set id t').length = (H.mu.set id o').length
    simp [hr.mlen]
  · intro i t2 o h2 ho
    replace h2 : (c.μ.set id t')[i]? = some t2 := h2
    replace ho : (H.mu.set id o')[i]? = some o := ho
    by_cases e : i = id
    · subst e
      rw [List.getElem?_set_self hid] at h2
      rw [List.getElem?_set_self (by rw [← hr.mlen]; exact hid)] at ho
      cases h2; cases ho
      exact hmo hE
    · rw [List.getElem?_set_ne (fun e' => e e'.symm)] at h2 ho
      exact (hr.mu i t2 o h2 ho).mono hE fun lv => hother i t2 e h2 lv
  · intro t2 h2 lv
    rcases mem' t2 h2 with rfl | ⟨k, hk, hk2⟩
    · rcases hg lv with ⟨l1, g1⟩ | g1
      · rw [g1]; exact Nat.lt_of_lt_of_le (hr.mlt t htm l1) hsize
      · exact g1.2
    · exact Nat.lt_of_lt_of_le (hr.mlt t2 (List.mem_of_getElem? hk2) lv) hsize
  · intro i j t1 t2 hi hj l1 l2 e
    replace hi : (c.μ.set id t')[i]? = some t1 := hi
    replace hj : (c.μ.set id t')[j]? = some t2 := hj
    by_cases ei : i = id <;> by_cases ej : j = id
    · omega
    · subst ei
      rw [List.getElem?_set_self hid] at hi
      rw [List.getElem?_set_ne (fun e' => ej e'.symm)] at hj
      cases hi
      rcases hg l1 with ⟨lv, g1⟩ | g1
      · exact hr.md _ j t t2 ht hj lv l2 (g1.symm.trans e)
      · have := hr.mlt t2 (List.mem_of_getElem? hj) l2; omega
    · subst ej
      rw [List.getElem?_set_self hid] at hj
      rw [List.getElem?_set_ne (fun e' => ei e'.symm)] at hi
      cases hj
      rcases hg l2 with ⟨lv, g1⟩ | g1
      · exact hr.md i _ t1 t hi ht l1 lv (e.trans g1)
      · have := hr.mlt t1 (List.mem_of_getElem? hi) l1; omega
    · rw [List.getElem?_set_ne (fun e' => ei e'.symm)] at hi
      rw [List.getElem?_set_ne (fun e' => ej e'.symm)] at hj
      exact hr.md i j t1 t2 hi hj l1 l2 e
  · intro t2 h2 lv hm
    rcases mem' t2 h2 with rfl | ⟨k, hk, hk2⟩
    · rcases hg lv with ⟨l1, g1⟩ | g1
      · exact hr.ms t htm l1 (g1 ▸ hm)
      · have := hr.shid _ hm; omega
    · exact hr.ms t2 (List.mem_of_getElem? hk2) lv hm
  · intro t2 h2 lv t3 h3 lv3 e
    rcases mem' t2 h2 with rfl | ⟨k, hk, hk2⟩
    · rcases hg lv with ⟨l1, g1⟩ | g1
      · exact hr.mt t htm l1 t3 h3 lv3 (g1.symm.trans e)
      · have := hr.tlt h3 lv3; omega
    · exact hr.mt t2 (List.mem_of_getElem? hk2) lv t3 h3 lv3 e
  · intro t2 h2 lv p hp
    rcases mem' t2 h2 with rfl | ⟨k, hk, hk2⟩
    · rcases hg lv with ⟨l1, g1⟩ | g1
      · exact hr.mhid t htm l1 p (g1 ▸ hp)
      · have := hr.hidlt _ _ hp; omega
    · exact hr.mhid t2 (List.mem_of_getElem? hk2) lv p hp

/-- An array that may be written reads as its elements. -/
theorem MOk.reads {t : MTok} {n : Nat} {e : TypeId} {es : List GV} (h : MOk P c t (.arr n e es)) (lv : t.live = true) {S : Nat → Nat → Prop} {w' : World}
    (hc : ∀ k, w'.cell? ⟨t.g, k, none⟩ = c.w.cell? ⟨t.g, k, none⟩) (hS : ∀ p, p < es.length * t.size → S t.g p) (hk : Keeps c.w w' c.stab S) : RG w' S (.sl es) (.slice (some ⟨t.g, 0, none⟩) t.len t.cap) := by
  obtain ⟨h1, h2, h3, h4⟩ := h
  rcases h4 with ⟨h4, _⟩ | ⟨_, cur, a1, a2, a3, a4, a5, a6⟩
  · rw [lv] at h4; cases h4
  · rw [h2]
    have hcell : ∀ k, c.w.cell? ⟨t.g, k, none⟩ = cur[k]? := fun k => cell_of_row c.w t.g k cur e (0, 0) a1
    have hle : es.length * t.size ≤ cur.size := by rw [a2]; exact Nat.mul_le_mul_right _ a3
    have hat : ∀ k, k < es.length * t.size → ∃ i j, k = i * t.size + j ∧ j < t.size ∧ i < es.length := by
      intro k hk
      have hpos : 0 < t.size := Nat.pos_of_ne_zero fun e => by rw [e, Nat.mul_zero] at hk; omega
      refine ⟨k / t.size, k % t.size, ?_, Nat.mod_lt _ hpos, ?_⟩
      · rw [Nat.mul_comm]; exact (Nat.div_add_mod k t.size).symm
      · exact Nat.div_lt_of_lt_mul (by rw [Nat.mul_comm]; exact hk)
    refine .sl es _ t.cap t.size (fun k => cur.getD k undef) (fun _ => rfl) a3 a4 (fun i x hx => a5 x (List.mem_of_getElem? hx)) (fun k hk' => ?_) (fun i x j g hx hg => ?_)
    · have hlt : k < cur.size := by omega
      obtain ⟨i, j, rfl, hj, hi⟩ := hat k hk'
      have hx := List.getElem?_eq_getElem hi
      have hl := a5 es[i] (List.getElem_mem hi)
      have hg := List.getElem?_eq_getElem (show j < (es[i]).cells.length by rw [hl]; exact hj)
      have hv : cur[i * t.size + j]? = some (cur.getD (i * t.size + j) undef) := by
        rw [Array.getElem?_eq_getElem hlt]
        simp [hlt, Array.getD_eq_getD_getElem?]
      refine ⟨?_, ?_, (a6 i _ j _ _ hx hg hv).2⟩
      · rw [add_eq _ _ rfl]
        simp only [Nat.zero_add]
        rw [hc, hcell]; exact hv
      · simp only [Nat.zero_add]; exact hS _ hk'
    · have hi := (List.getElem?_eq_some_iff.1 hx).1
      have hj := (List.getElem?_eq_some_iff.1 hg).1
      rw [a5 x (List.mem_of_getElem? hx)] at hj
      have hlt : i * t.size + j < cur.size := by
        have : i * t.size + j < es.length * t.size := by
          have h1 : (i + 1) * t.size ≤ es.length * t.size := Nat.mul_le_mul_right _ hi
          rw [Nat.add_mul, Nat.one_mul] at h1
          omega
        omega
      have hv : cur[i * t.size + j]? = some (cur.getD (i * t.size + j) undef) := by
        rw [Array.getElem?_eq_getElem hlt]
        simp [hlt, Array.getD_eq_getD_getElem?]
      exact (a6 i x j g _ hx hg hv).1.mono hk
end
end Go.Pure
