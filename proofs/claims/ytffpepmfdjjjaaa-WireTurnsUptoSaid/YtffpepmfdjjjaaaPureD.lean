/- A generic layer: how memory may grow and be written. -/
import Derived.Test.YtffpepmfdjjjaaaPureC
namespace Go.Pure
open Go

/-- A world with more blocks. -/
structure Ext (w w' : World) : Prop where
  os : w'.os = w.os
  tape : w'.tape = w.tape
  output : w'.output = w.output
  size : w.heap.size ≤ w'.heap.size
  old : ∀ b, b < w.heap.size → w'.heap[b]? = w.heap[b]?

theorem Ext.refl (w : World) : Ext w w := ⟨rfl, rfl, rfl, Nat.le_refl _, fun _ _ => rfl⟩
theorem Ext.drew (w : World) : Ext w w.drew := ⟨rfl, rfl, rfl, Nat.le_refl _, fun _ _ => rfl⟩
theorem Ext.alloc (w : World) (o : Obj) : Ext w (w.alloc o) := ⟨rfl, rfl, rfl, by simp, fun b hb => Go.heap_alloc_old w o b hb⟩
theorem Ext.trans {a b c : World} (h : Ext a b) (k : Ext b c) : Ext a c :=
  ⟨k.os.trans h.os, k.tape.trans h.tape, k.output.trans h.output, Nat.le_trans h.size k.size, fun x hx => (k.old x (Nat.lt_of_lt_of_le hx h.size)).trans (h.old x hx)⟩
theorem Ext.cell {w w' : World} (h : Ext w w') {a : Addr} {v : Value} (hc : w.cell? a = some v) : w'.cell? a = some v :=
  (World.cell?_of_block (h.old a.block (World.block_lt_of_cell? w a hc))).trans hc

/-- More blocks, more boxes, more arrays: all in new memory. -/
theorem evo_ext {c : Ctx} {w' : World} (h : Ext c.w w') (n : List Nat) (m : List Tok) (q : List MTok) (hn : ∀ b ∈ n, c.w.heap.size ≤ b) (hm : ∀ t ∈ m, t.live = true → c.w.heap.size ≤ t.g) (hq : ∀ t ∈ q, t.live = true → c.w.heap.size ≤ t.g) :
    Evo c ⟨c.σ ++ n, c.τ ++ m, c.μ ++ q, c.hid, w'⟩ := by
  refine ⟨h.os, h.tape, h.output, h.size, rfl, ⟨n, rfl, hn⟩, fun id t ht => ⟨t, ?_, rfl, rfl, .inl rfl⟩, fun id t ht => ⟨t, ?_, rfl, .inl rfl⟩, fun t ht lv => ?_, fun t ht lv => ?_, fun a v ha hs hc => ?_, fun b hb _ _ _ => h.old b hb⟩
  · show (c.τ ++ m)[id]? = some t
    rw [List.getElem?_append_left (List.getElem?_eq_some_iff.1 ht).1]; exact ht
  · show (c.μ ++ q)[id]? = some t
    rw [List.getElem?_append_left (List.getElem?_eq_some_iff.1 ht).1]; exact ht
  · rcases List.mem_append.1 ht with ht | ht
    · exact .inl ⟨t, ht, lv, rfl⟩
    · exact .inr (hq t ht lv)
  · rcases List.mem_append.1 ht with ht | ht
    · exact .inl ⟨t, ht, lv, rfl⟩
    · exact .inr (hm t ht lv)
  · have hlt := World.block_lt_of_cell? c.w a hc
    refine ⟨h.cell hc, hs.1, fun hmem => ?_, fun t ht lv e => ?_, fun t ht lv e => ?_⟩
    · rcases List.mem_append.1 hmem with hmem | hmem
      · exact hs.2.1 hmem
      · have := hn _ hmem; omega
    · rcases List.mem_append.1 ht with ht | ht
      · exact hs.2.2.1 t ht lv e
      · have := hm t ht lv; omega
    · rcases List.mem_append.1 ht with ht | ht
      · exact hs.2.2.2 t ht lv e
      · have := hq t ht lv; omega

section
variable {P : Program} {c : Ctx} {H : PH}

theorem Rel.tlt (hr : Rel P c H) {t : Tok} (ht : t ∈ c.τ) (lv : t.live = true) : t.g < c.w.heap.size := by
  obtain ⟨cur, h, _⟩ := hr.tb t ht lv
  exact (Array.getElem?_eq_some_iff.1 h).1

theorem Rel.ext (hr : Rel P c H) {w' : World} (h : Ext c.w w') (n : List (Nat × List PV)) (m : List Tok) (q : List (MTok × MO))
    (hn : ∀ x ∈ n, c.w.heap.size ≤ x.1 ∧ x.1 < w'.heap.size ∧ ∃ (vals : Array Value) (T : TypeId), w'.heap[x.1]? = some (.cells vals T (0, 0)) ∧ vals.size = x.2.length ∧
      ∀ (j : Nat) (p : PV) (v : Value), x.2[j]? = some p → vals[j]? = some v → RV ⟨c.σ ++ n.map (·.1), c.τ ++ m, c.μ ++ q.map (·.1), c.hid, w'⟩ p v ∧ v.oneCell' = true)
    (hnd : (n.map (·.1)).Nodup) (hmd : ∀ (i j : Nat) (t t' : Tok), m[i]? = some t → m[j]? = some t' → t.live = true → t'.live = true → t.g = t'.g → i = j) (hmz : ∀ t ∈ m, t.live = false → t.hw = 0 ∧ (P.info? t.e).map (·.size) = some t.size)
    (hm : ∀ t ∈ m, t.live = true → c.w.heap.size ≤ t.g ∧ t.g ∉ n.map (·.1) ∧ ∃ cur, w'.heap[t.g]? = some (.cells cur t.e (0, 0)) ∧ cur.size = t.cap * t.size ∧ t.hw ≤ t.cap ∧ t.cap ≤ maxLen ∧ (P.info? t.e).map (·.size) = some t.size)
    (hq : ∀ x ∈ q, MOk P ⟨c.σ ++ n.map (·.1), c.τ ++ m, c.μ ++ q.map (·.1), c.hid, w'⟩ x.1 x.2) (hql : ∀ x ∈ q, x.1.live = true → c.w.heap.size ≤ x.1.g ∧ x.1.g < w'.heap.size ∧ x.1.g ∉ n.map (·.1) ∧ ∀ t ∈ m, t.live = true → x.1.g ≠ t.g)
    (hqd : ∀ (i j : Nat) (t t' : MTok), (q.map (·.1))[i]? = some t → (q.map (·.1))[j]? = some t' → t.live = true → t'.live = true → t.g = t'.g → i = j) :
    Rel P ⟨c.σ ++ n.map (·.1), c.τ ++ m, c.μ ++ q.map (·.1), c.hid, w'⟩ ⟨H.bx ++ n.map (·.2), H.tk ++ m.map (fun t => (t.e, t.hw)), H.mu ++ q.map (·.2)⟩ := by
  have hE := evo_ext h (n.map (·.1)) m (q.map (·.1)) (fun b hb => by obtain ⟨x, hx, rfl⟩ := List.mem_map.1 hb; exact (hn x hx).1) (fun t ht lv => (hm t ht lv).1) (fun t ht lv => by obtain ⟨x, hx, rfl⟩ := List.mem_map.1 ht; exact (hql x hx lv).1)
  have slt : ∀ b ∈ c.σ, b < c.w.heap.size := hr.shid
  refine ⟨by simp [hr.len], ?_, by simp [hr.tk], ?_, ?_, ?_, ?_, ?_, ?_, ?_, ?_, by simp [hr.mlen], ?_, ?_, ?_, ?_, ?_, ?_⟩
  · intro i b cs hb hcs
    simp only at hb hcs
    by_cases hi : i < c.σ.length
    · rw [List.getElem?_append_left hi] at hb
      rw [List.getElem?_append_left (by rw [← hr.len]; exact hi)] at hcs
      obtain ⟨vals, T, h1, h2, h3⟩ := hr.bx i b cs hb hcs
      refine ⟨vals, T, ?_, h2, fun j p v hp hv => ⟨(h3 j p v hp hv).1.mono hE, (h3 j p v hp hv).2⟩⟩
      rw [← h1]
      exact h.old b (slt b (List.mem_of_getElem? hb))
    · rw [List.getElem?_append_right (by omega)] at hb
      rw [List.getElem?_append_right (by rw [← hr.len]; omega), ← hr.len] at hcs
      rw [List.getElem?_map, Option.map_eq_some_iff] at hb hcs
      obtain ⟨x, hx, rfl⟩ := hb
      obtain ⟨y, hy, rfl⟩ := hcs
      rw [hx] at hy
      cases hy
      obtain ⟨_, _, vals, T, h1, h2, h3⟩ := hn x (List.mem_of_getElem? hx)
      exact ⟨vals, T, h1, h2, h3⟩
  · intro t ht lv
    rcases List.mem_append.1 ht with ht | ht
    · obtain ⟨cur, h1, h2⟩ := hr.tb t ht lv
      exact ⟨cur, by rw [← h1]; exact h.old t.g (hr.tlt ht lv), h2⟩
    · exact (hm t ht lv).2.2
  · refine List.nodup_append.2 ⟨hr.nd, hnd, fun a ha b hb e => ?_⟩
    obtain ⟨x, hx, rfl⟩ := List.mem_map.1 hb
    have := slt a ha
    have := (hn x hx).1
    omega
  · intro i j t t' hi hj lv lv' e
    replace hi : (c.τ ++ m)[i]? = some t := hi
    replace hj : (c.τ ++ m)[j]? = some t' := hj
    by_cases h1 : i < c.τ.length <;> by_cases h2 : j < c.τ.length
    · rw [List.getElem?_append_left h1] at hi
      rw [List.getElem?_append_left h2] at hj
      exact hr.td i j t t' hi hj lv lv' e
    · rw [List.getElem?_append_left h1] at hi
      rw [List.getElem?_append_right (by omega)] at hj
      have := hr.tlt (List.mem_of_getElem? hi) lv
      have := (hm t' (List.mem_of_getElem? hj) lv').1
      omega
    · rw [List.getElem?_append_right (by omega)] at hi
      rw [List.getElem?_append_left h2] at hj
      have := hr.tlt (List.mem_of_getElem? hj) lv'
      have := (hm t (List.mem_of_getElem? hi) lv).1
      omega
    · rw [List.getElem?_append_right (by omega)] at hi hj
      have := hmd _ _ t t' hi hj lv lv' e
      omega
  · intro t ht lv hmem
    simp only at ht hmem
    rcases List.mem_append.1 ht with ht | ht
    · rcases List.mem_append.1 hmem with hmem | hmem
      · exact hr.st t ht lv hmem
      · obtain ⟨x, hx, e⟩ := List.mem_map.1 hmem
        have := hr.tlt ht lv
        have := (hn x hx).1
        omega
    · rcases List.mem_append.1 hmem with hmem | hmem
      · have := slt _ hmem
        have := (hm t ht lv).1
        omega
      · exact (hm t ht lv).2.1 hmem
  · exact fun b p hb => Nat.lt_of_lt_of_le (hr.hidlt b p hb) h.size
  · intro t ht lv p hp
    rcases List.mem_append.1 ht with ht | ht
    · exact hr.thid t ht lv p hp
    · have := hr.hidlt _ _ hp
      have := (hm t ht lv).1
      omega
  · intro b hb
    rcases List.mem_append.1 hb with hb | hb
    · exact Nat.lt_of_lt_of_le (slt b hb) h.size
    · obtain ⟨x, hx, rfl⟩ := List.mem_map.1 hb
      exact (hn x hx).2.1
  · intro t ht lv
    rcases List.mem_append.1 ht with ht | ht
    · exact hr.dead t ht lv
    · exact hmz t ht lv
  · intro i t o hi ho
    simp only at hi ho
    by_cases h1 : i < c.μ.length
    · rw [List.getElem?_append_left h1] at hi
      rw [List.getElem?_append_left (by rw [← hr.mlen]; exact h1)] at ho
      exact (hr.mu i t o hi ho).mono hE fun lv => h.old _ (hr.mlt t (List.mem_of_getElem? hi) lv)
    · rw [List.getElem?_append_right (by omega)] at hi
      rw [List.getElem?_append_right (by rw [← hr.mlen]; omega), ← hr.mlen] at ho
      rw [List.getElem?_map, Option.map_eq_some_iff] at hi ho
      obtain ⟨x, hx, rfl⟩ := hi
      obtain ⟨y, hy, rfl⟩ := ho
      rw [hx] at hy
      cases hy
      exact hq x (List.mem_of_getElem? hx)
  · intro t ht lv
    rcases List.mem_append.1 ht with ht | ht
    · exact Nat.lt_of_lt_of_le (hr.mlt t ht lv) h.size
    · obtain ⟨x, hx, rfl⟩ := List.mem_map.1 ht
      exact (hql x hx lv).2.1
  · intro i j t t' hi hj lv lv' e
    replace hi : (c.μ ++ q.map (·.1))[i]? = some t := hi
    replace hj : (c.μ ++ q.map (·.1))[j]? = some t' := hj
    have qlt : ∀ t ∈ q.map (·.1), t.live = true → c.w.heap.size ≤ t.g := fun t ht lv => by obtain ⟨x, hx, rfl⟩ := List.mem_map.1 ht; exact (hql x hx lv).1
    by_cases h1 : i < c.μ.length <;> by_cases h2 : j < c.μ.length
    · rw [List.getElem?_append_left h1] at hi
      rw [List.getElem?_append_left h2] at hj
      exact hr.md i j t t' hi hj lv lv' e
    · rw [List.getElem?_append_left h1] at hi
      rw [List.getElem?_append_right (by omega)] at hj
      have := hr.mlt t (List.mem_of_getElem? hi) lv
      have := qlt t' (List.mem_of_getElem? hj) lv'
      omega
    · rw [List.getElem?_append_right (by omega)] at hi
      rw [List.getElem?_append_left h2] at hj
      have := hr.mlt t' (List.mem_of_getElem? hj) lv'
      have := qlt t (List.mem_of_getElem? hi) lv
      omega
    · rw [List.getElem?_append_right (by omega)] at hi hj
      have := hqd _ _ t t' hi hj lv lv' e
      omega
  · intro t ht lv hmem
    simp only at ht hmem
    rcases List.mem_append.1 ht with ht | ht
    · rcases List.mem_append.1 hmem with hmem | hmem
      · exact hr.ms t ht lv hmem
      · obtain ⟨x, hx, e⟩ := List.mem_map.1 hmem
        have := hr.mlt t ht lv
        have := (hn x hx).1
        omega
    · obtain ⟨y, hy, rfl⟩ := List.mem_map.1 ht
      rcases List.mem_append.1 hmem with hmem | hmem
      · have := slt _ hmem
        have := (hql y hy lv).1
        omega
      · exact (hql y hy lv).2.2.1 hmem
  · intro t ht lv t' ht' lv' e
    simp only at ht ht'
    rcases List.mem_append.1 ht with ht | ht
    · rcases List.mem_append.1 ht' with ht' | ht'
      · exact hr.mt t ht lv t' ht' lv' e
      · have := hr.mlt t ht lv
        have := (hm t' ht' lv').1
        omega
    · obtain ⟨y, hy, rfl⟩ := List.mem_map.1 ht
      rcases List.mem_append.1 ht' with ht' | ht'
      · have := hr.tlt ht' lv'
        have := (hql y hy lv).1
        omega
      · exact (hql y hy lv).2.2.2 t' ht' lv' e
  · intro t ht lv p hp
    rcases List.mem_append.1 ht with ht | ht
    · exact hr.mhid t ht lv p hp
    · obtain ⟨y, hy, rfl⟩ := List.mem_map.1 ht
      have := hr.hidlt _ _ hp
      have := (hql y hy lv).1
      omega

theorem Rel.grow (hr : Rel P c H) {w' : World} (h : Ext c.w w') : Rel P ⟨c.σ, c.τ, c.μ, c.hid, w'⟩ H ∧ Evo c ⟨c.σ, c.τ, c.μ, c.hid, w'⟩ := by
  have h1 := hr.ext h [] [] [] (by simp) (by simp) (by simp) (by simp) (by simp) (by simp) (by simp) (by simp)
  have h2 := evo_ext h [] [] [] (by simp) (by simp) (by simp)
  simpa using And.intro h1 h2

theorem Rel.addBox (hr : Rel P c H) {w' : World} (h : Ext c.w w') {blk : Nat} (h1 : c.w.heap.size ≤ blk) (h2 : blk < w'.heap.size) {vals : Array Value} {T : TypeId} {cs : List PV}
    (hb : w'.heap[blk]? = some (.cells vals T (0, 0))) (hl : vals.size = cs.length)
    (hv : ∀ (j : Nat) (p : PV) (v : Value), cs[j]? = some p → vals[j]? = some v → RV c p v ∧ v.oneCell' = true) :
    Rel P ⟨c.σ ++ [blk], c.τ, c.μ, c.hid, w'⟩ ⟨H.bx ++ [cs], H.tk, H.mu⟩ ∧ Evo c ⟨c.σ ++ [blk], c.τ, c.μ, c.hid, w'⟩ := by
  have e2 := evo_ext h [blk] [] [] (by simpa using h1) (by simp) (by simp)
  simp only [List.append_nil] at e2
  have e1 := hr.ext h [(blk, cs)] [] [] (by
    intro x hx
    simp at hx
    subst hx
    refine ⟨h1, h2, vals, T, hb, hl, fun j p v hp hv' => ⟨?_, (hv j p v hp hv').2⟩⟩
    simpa using (hv j p v hp hv').1.mono e2) (by simp) (by simp) (by simp) (by simp) (by simp) (by simp) (by simp)
  simp only [List.map_cons, List.map_nil, List.append_nil] at e1
  exact ⟨e1, e2⟩

theorem Rel.addTok (hr : Rel P c H) {w' : World} (h : Ext c.w w') {t : Tok} (lv : t.live = true) (h1 : c.w.heap.size ≤ t.g) {cur : Array Value}
    (hb : w'.heap[t.g]? = some (.cells cur t.e (0, 0))) (hl : cur.size = t.cap * t.size) (hc : t.hw ≤ t.cap) (hm : t.cap ≤ maxLen) (hz : szB P t.e = some t.size) :
    Rel P ⟨c.σ, c.τ ++ [t], c.μ, c.hid, w'⟩ ⟨H.bx, H.tk ++ [(t.e, t.hw)], H.mu⟩ ∧ Evo c ⟨c.σ, c.τ ++ [t], c.μ, c.hid, w'⟩ := by
  have e2 := evo_ext h [] [t] [] (by simp) (by simp [h1]) (by simp)
  simp only [List.append_nil] at e2
  have e1 := hr.ext h [] [t] [] (by simp) (by simp) (by
    intro i j t1 t2 h1 h2
    have := (List.getElem?_eq_some_iff.1 h1).1
    have := (List.getElem?_eq_some_iff.1 h2).1
    simp at *
    omega) (by simp [lv]) (by
    intro t' ht' _
    simp at ht'
    subst ht'
    exact ⟨h1, by simp, cur, hb, hl, hc, hm, hz⟩) (by simp) (by simp) (by simp)
  simp only [List.map_cons, List.map_nil, List.append_nil] at e1
  exact ⟨e1, e2⟩

/-- Something new that may be written. -/
theorem Rel.addMu (hr : Rel P c H) {w' : World} (h : Ext c.w w') {t : MTok} {o : MO} (h1 : t.live = true → c.w.heap.size ≤ t.g ∧ t.g < w'.heap.size)
    (ho : MOk P ⟨c.σ, c.τ, c.μ ++ [t], c.hid, w'⟩ t o) :
    Rel P ⟨c.σ, c.τ, c.μ ++ [t], c.hid, w'⟩ ⟨H.bx, H.tk, H.mu ++ [o]⟩ ∧ Evo c ⟨c.σ, c.τ, c.μ ++ [t], c.hid, w'⟩ := by
  have e2 := evo_ext h [] [] [t] (by simp) (by simp) (by simpa using fun lv => (h1 lv).1)
  simp only [List.append_nil] at e2
  have e1 := hr.ext h [] [] [(t, o)] (by simp) (by simp) (by simp) (by simp) (by simp) (by
    intro x hx
    simp at hx
    subst hx
    simpa using ho) (by
    intro x hx lv
    simp at hx
    subst hx
    exact ⟨(h1 lv).1, (h1 lv).2, by simp, by simp⟩) (by
    intro i j t1 t2 h1 h2
    have := (List.getElem?_eq_some_iff.1 h1).1
    have := (List.getElem?_eq_some_iff.1 h2).1
    simp at *
    omega)
  simp only [List.map_cons, List.map_nil, List.append_nil] at e1
  exact ⟨e1, e2⟩

/-- The cells of one box are written. -/
theorem Rel.setBox (hr : Rel P c H) {b blk : Nat} {cs cs' : List PV} (hb : c.σ[b]? = some blk) (hc : H.bx[b]? = some cs) {old new : Array Value} {T : TypeId}
    (ho : c.w.heap[blk]? = some (.cells old T (0, 0))) (hl : new.size = cs'.length)
    (hv : ∀ (j : Nat) (p : PV) (v : Value), cs'[j]? = some p → new[j]? = some v → RV c p v ∧ v.oneCell' = true) :
    Rel P ⟨c.σ, c.τ, c.μ, c.hid, c.w.setRow blk new⟩ ⟨H.bx.set b cs', H.tk, H.mu⟩ ∧ Evo c ⟨c.σ, c.τ, c.μ, c.hid, c.w.setRow blk new⟩ := by
  have hmem : blk ∈ c.σ := List.mem_of_getElem? hb
  have hother : ∀ k, k ≠ blk → (c.w.setRow blk new).heap[k]? = c.w.heap[k]? := fun k hk => setRow_other c.w blk k new hk
  have hE : Evo c ⟨c.σ, c.τ, c.μ, c.hid, c.w.setRow blk new⟩ := by
    refine ⟨rfl, rfl, rfl, by simp, rfl, ⟨[], by simp, by simp⟩, fun id t ht => ⟨t, ht, rfl, rfl, .inl rfl⟩, fun id t ht => ⟨t, ht, rfl, .inl rfl⟩, fun t ht lv => .inl ⟨t, ht, lv, rfl⟩, fun t ht lv => .inl ⟨t, ht, lv, rfl⟩, fun a v ha hs hcell => ⟨?_, hs⟩, fun k _ hk _ _ => hother k (fun e => hk (e ▸ hmem))⟩
    rw [← hcell]
    exact World.cell?_of_block (hother a.block (fun e => hs.2.1 (e ▸ hmem)))
  refine ⟨⟨by simp [hr.len], ?_, hr.tk, ?_, hr.nd, hr.td, hr.st, fun x p hx => by simpa using hr.hidlt x p hx, hr.thid, fun x hx => by simpa using hr.shid x hx, hr.dead, hr.mlen, ?_, fun t ht lv => by simpa using hr.mlt t ht lv, hr.md, hr.ms, hr.mt, hr.mhid⟩, hE⟩
  · intro i b' ds hb' hds
    simp only at hb' hds
    by_cases hi : i = b
    · subst hi
      rw [hb] at hb'
      cases hb'
      rw [List.getElem?_set_self (List.getElem?_eq_some_iff.1 hc).1] at hds
      cases hds
      exact ⟨new, T, setRow_heap c.w blk old new T (0, 0) ho, hl, fun j p v hp hv' => ⟨(hv j p v hp hv').1.mono hE, (hv j p v hp hv').2⟩⟩
    · rw [List.getElem?_set_ne (fun e => hi e.symm)] at hds
      obtain ⟨vals, T', h1, h2, h3⟩ := hr.bx i b' ds hb' hds
      have hne : b' ≠ blk := by
        intro e
        subst e
        obtain ⟨l1, e1⟩ := List.getElem?_eq_some_iff.1 hb
        obtain ⟨l2, e2⟩ := List.getElem?_eq_some_iff.1 hb'
        exact hi ((List.getElem_inj hr.nd).1 (e2.trans e1.symm))
      exact ⟨vals, T', by rw [← h1]; exact hother b' hne, h2, fun j p v hp hv' => ⟨(h3 j p v hp hv').1.mono hE, (h3 j p v hp hv').2⟩⟩
  · intro t ht lv
    obtain ⟨cur, h1, h2⟩ := hr.tb t ht lv
    exact ⟨cur, by rw [← h1]; exact hother t.g (fun e => hr.st t ht lv (e ▸ hmem)), h2⟩
  · intro i t o hi ho
    exact (hr.mu i t o hi ho).mono hE fun lv => hother t.g (fun e => hr.ms t (List.mem_of_getElem? hi) lv (e ▸ hmem))
end
end Go.Pure
