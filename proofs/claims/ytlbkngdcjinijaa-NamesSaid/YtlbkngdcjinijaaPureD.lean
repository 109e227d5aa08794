/- A generic layer: how memory may grow and be written. -/
import Derived.Test.YtlbkngdcjinijaaPureC
namespace Go.Pure
open Go

/-- A world with more blocks. -/
structure Ext (w w' : World) : Prop where
  os : w'.os = w.os
  tape : w'.tape = w.tape
  output : w'.output = w.output
  size : w.heap.size ≤ w'.heap.size
  old : ∀ b, b < w.heap.size → w'.heap[b]? = w.heap[b]?

theorem Ext.refl (w : World) : Ext w w := ⟨rfl, rfl, rfl, Nat.le_refl _, fun _ _ => rfl⟩
theorem Ext.drew (w : World) : Ext w w.drew := ⟨rfl, rfl, rfl, Nat.le_refl _, fun _ _ => rfl⟩
theorem Ext.alloc (w : World) (o : Obj) : Ext w (w.alloc o) := ⟨rfl, rfl, rfl, by simp, fun b hb => Go.heap_alloc_old w o b hb⟩
theorem Ext.trans {a b c : World} (h : Ext a b) (k : Ext b c) : Ext a c :=
  ⟨k.os.trans h.os, k.tape.trans h.tape, k.output.trans h.output, Nat.le_trans h.size k.size, fun x hx => (k.old x (Nat.lt_of_lt_of_le hx h.size)).trans (h.old x hx)⟩
theorem Ext.cell {w w' : World} (h : Ext w w') {a : Addr} {v : Value} (hc : w.cell? a = some v) : w'.cell? a = some v :=
  (World.cell?_of_block (h.old a.block (World.block_lt_of_cell? w a hc))).trans hc

/-- More blocks, more boxes, more arrays: all in new memory. -/
theorem evo_ext {c : Ctx} {w' : World} (h : Ext c.w w') (n : List Nat) (m : List Tok) (hn : ∀ b ∈ n, c.w.heap.size ≤ b) (hm : ∀ t ∈ m, c.w.heap.size ≤ t.g) :
    Evo c ⟨c.σ ++ n, c.τ ++ m, c.hid, w'⟩ := by
  refine ⟨h.os, h.tape, h.output, h.size, rfl, ⟨n, rfl, hn⟩, fun id t ht => ⟨t, ?_, rfl, rfl, .inl rfl⟩, fun t ht => ?_, fun a v ha hs hc => ?_, fun b hb _ _ => h.old b hb⟩
  · show (c.τ ++ m)[id]? = some t
    rw [List.getElem?_append_left (List.getElem?_eq_some_iff.1 ht).1]; exact ht
  · rcases List.mem_append.1 ht with ht | ht
    · exact .inl ⟨t, ht, rfl⟩
    · exact .inr (hm t ht)
  · have hlt := World.block_lt_of_cell? c.w a hc
    refine ⟨h.cell hc, hs.1, fun hmem => ?_, fun t ht e => ?_⟩
    · rcases List.mem_append.1 hmem with hmem | hmem
      · exact hs.2.1 hmem
      · have := hn _ hmem; omega
    · rcases List.mem_append.1 ht with ht | ht
      · exact hs.2.2 t ht e
      · have := hm t ht; omega

section
variable {P : Program} {c : Ctx} {H : PH}

theorem Rel.tlt (hr : Rel P c H) {t : Tok} (ht : t ∈ c.τ) : t.g < c.w.heap.size := by
  obtain ⟨cur, h, _⟩ := hr.tb t ht
  exact (Array.getElem?_eq_some_iff.1 h).1

theorem Rel.ext (hr : Rel P c H) {w' : World} (h : Ext c.w w') (n : List (Nat × List PV)) (m : List Tok)
    (hn : ∀ x ∈ n, c.w.heap.size ≤ x.1 ∧ x.1 < w'.heap.size ∧ ∃ (vals : Array Value) (T : TypeId), w'.heap[x.1]? = some (.cells vals T (0, 0)) ∧ vals.size = x.2.length ∧
      ∀ (j : Nat) (p : PV) (v : Value), x.2[j]? = some p → vals[j]? = some v → RV ⟨c.σ ++ n.map (·.1), c.τ ++ m, c.hid, w'⟩ p v ∧ v.oneCell' = true)
    (hnd : (n.map (·.1)).Nodup) (hmd : (m.map (·.g)).Nodup)
    (hm : ∀ t ∈ m, c.w.heap.size ≤ t.g ∧ t.g ∉ n.map (·.1) ∧ ∃ cur, w'.heap[t.g]? = some (.cells cur t.e (0, 0)) ∧ cur.size = t.cap * t.size ∧ t.hw ≤ t.cap ∧ t.cap ≤ maxLen ∧ (P.info? t.e).map (·.size) = some t.size) :
    Rel P ⟨c.σ ++ n.map (·.1), c.τ ++ m, c.hid, w'⟩ ⟨H.bx ++ n.map (·.2), H.tk ++ m.map (fun t => (t.e, t.hw))⟩ := by
  have hE := evo_ext h (n.map (·.1)) m (fun b hb => by obtain ⟨x, hx, rfl⟩ := List.mem_map.1 hb; exact (hn x hx).1) (fun t ht => (hm t ht).1)
  have slt : ∀ b ∈ c.σ, b < c.w.heap.size := hr.shid
  refine ⟨by simp [hr.len], ?_, by simp [hr.tk], ?_, ?_, ?_, ?_, ?_, ?_, ?_⟩
  · intro i b cs hb hcs
    simp only at hb hcs
    by_cases hi : i < c.σ.length
    · rw [List.getElem?_append_left hi] at hb
      rw [List.getElem?_append_left (by rw [← hr.len]; exact hi)] at hcs
      obtain ⟨vals, T, h1, h2, h3⟩ := hr.bx i b cs hb hcs
      refine ⟨vals, T, ?_, h2, fun j p v hp hv => ⟨(h3 j p v hp hv).1.mono hE, (h3 j p v hp hv).2⟩⟩
      rw [← h1]
      exact h.old b (slt b (List.mem_of_getElem? hb))
    · rw [List.getElem?_append_right (by omega)] at hb
      rw [List.getElem?_append_right (by rw [← hr.len]; omega), ← hr.len] at hcs
      rw [List.getElem?_map, Option.map_eq_some_iff] at hb hcs
      obtain ⟨x, hx, rfl⟩ := hb
      obtain ⟨y, hy, rfl⟩ := hcs
      rw [hx] at hy
      cases hy
      obtain ⟨_, _, vals, T, h1, h2, h3⟩ := hn x (List.mem_of_getElem? hx)
      exact ⟨vals, T, h1, h2, h3⟩
  · intro t ht
    rcases List.mem_append.1 ht with ht | ht
    · obtain ⟨cur, h1, h2⟩ := hr.tb t ht
      exact ⟨cur, by rw [← h1]; exact h.old t.g (hr.tlt ht), h2⟩
    · exact (hm t ht).2.2
  · refine List.nodup_append.2 ⟨hr.nd, hnd, fun a ha b hb e => ?_⟩
    obtain ⟨x, hx, rfl⟩ := List.mem_map.1 hb
    have := slt a ha
    have := (hn x hx).1
    omega
  · simp only [List.map_append]
    refine List.nodup_append.2 ⟨hr.td, hmd, fun a ha b hb e => ?_⟩
    obtain ⟨t, ht, rfl⟩ := List.mem_map.1 ha
    obtain ⟨t', ht', rfl⟩ := List.mem_map.1 hb
    have := hr.tlt ht
    have := (hm t' ht').1
    omega
  · intro t ht hmem
    simp only at ht hmem
    rcases List.mem_append.1 ht with ht | ht
    · rcases List.mem_append.1 hmem with hmem | hmem
      · exact hr.st t ht hmem
      · obtain ⟨x, hx, e⟩ := List.mem_map.1 hmem
        have := hr.tlt ht
        have := (hn x hx).1
        omega
    · rcases List.mem_append.1 hmem with hmem | hmem
      · have := slt _ hmem
        have := (hm t ht).1
        omega
      · exact (hm t ht).2.1 hmem
  · exact fun b p hb => Nat.lt_of_lt_of_le (hr.hidlt b p hb) h.size
  · intro t ht p hp
    rcases List.mem_append.1 ht with ht | ht
    · exact hr.thid t ht p hp
    · have := hr.hidlt _ _ hp
      have := (hm t ht).1
      omega
  · intro b hb
    rcases List.mem_append.1 hb with hb | hb
    · exact Nat.lt_of_lt_of_le (slt b hb) h.size
    · obtain ⟨x, hx, rfl⟩ := List.mem_map.1 hb
      exact (hn x hx).2.1

theorem Rel.grow (hr : Rel P c H) {w' : World} (h : Ext c.w w') : Rel P ⟨c.σ, c.τ, c.hid, w'⟩ H ∧ Evo c ⟨c.σ, c.τ, c.hid, w'⟩ := by
  have h1 := hr.ext h [] [] (by simp) (by simp) (by simp) (by simp)
  have h2 := evo_ext h [] [] (by simp) (by simp)
  simpa using And.intro h1 h2

theorem Rel.addBox (hr : Rel P c H) {w' : World} (h : Ext c.w w') {blk : Nat} (h1 : c.w.heap.size ≤ blk) (h2 : blk < w'.heap.size) {vals : Array Value} {T : TypeId} {cs : List PV}
    (hb : w'.heap[blk]? = some (.cells vals T (0, 0))) (hl : vals.size = cs.length)
    (hv : ∀ (j : Nat) (p : PV) (v : Value), cs[j]? = some p → vals[j]? = some v → RV c p v ∧ v.oneCell' = true) :
    Rel P ⟨c.σ ++ [blk], c.τ, c.hid, w'⟩ ⟨H.bx ++ [cs], H.tk⟩ ∧ Evo c ⟨c.σ ++ [blk], c.τ, c.hid, w'⟩ := by
  have e2 := evo_ext h [blk] [] (by simpa using h1) (by simp)
  simp only [List.append_nil] at e2
  have e1 := hr.ext h [(blk, cs)] [] (by
    intro x hx
    simp at hx
    subst hx
    refine ⟨h1, h2, vals, T, hb, hl, fun j p v hp hv' => ⟨?_, (hv j p v hp hv').2⟩⟩
    simpa using (hv j p v hp hv').1.mono e2) (by simp) (by simp) (by simp)
  simp only [List.map_cons, List.map_nil, List.append_nil] at e1
  exact ⟨e1, e2⟩

theorem Rel.addTok (hr : Rel P c H) {w' : World} (h : Ext c.w w') {t : Tok} (h1 : c.w.heap.size ≤ t.g) {cur : Array Value}
    (hb : w'.heap[t.g]? = some (.cells cur t.e (0, 0))) (hl : cur.size = t.cap * t.size) (hc : t.hw ≤ t.cap) (hm : t.cap ≤ maxLen) (hz : szB P t.e = some t.size) :
    Rel P ⟨c.σ, c.τ ++ [t], c.hid, w'⟩ ⟨H.bx, H.tk ++ [(t.e, t.hw)]⟩ ∧ Evo c ⟨c.σ, c.τ ++ [t], c.hid, w'⟩ := by
  have e2 := evo_ext h [] [t] (by simp) (by simpa using h1)
  simp only [List.append_nil] at e2
  have e1 := hr.ext h [] [t] (by simp) (by simp) (by simp) (by
    intro t' ht'
    simp at ht'
    subst ht'
    exact ⟨h1, by simp, cur, hb, hl, hc, hm, hz⟩)
  simp only [List.map_cons, List.map_nil, List.append_nil] at e1
  exact ⟨e1, e2⟩

/-- The cells of one box are written. -/
theorem Rel.setBox (hr : Rel P c H) {b blk : Nat} {cs cs' : List PV} (hb : c.σ[b]? = some blk) (hc : H.bx[b]? = some cs) {old new : Array Value} {T : TypeId}
    (ho : c.w.heap[blk]? = some (.cells old T (0, 0))) (hl : new.size = cs'.length)
    (hv : ∀ (j : Nat) (p : PV) (v : Value), cs'[j]? = some p → new[j]? = some v → RV c p v ∧ v.oneCell' = true) :
    Rel P ⟨c.σ, c.τ, c.hid, c.w.setRow blk new⟩ ⟨H.bx.set b cs', H.tk⟩ ∧ Evo c ⟨c.σ, c.τ, c.hid, c.w.setRow blk new⟩ := by
  have hmem : blk ∈ c.σ := List.mem_of_getElem? hb
  have hother : ∀ k, k ≠ blk → (c.w.setRow blk new).heap[k]? = c.w.heap[k]? := fun k hk => setRow_other c.w blk k new hk
  have hE : Evo c ⟨c.σ, c.τ, c.hid, c.w.setRow blk new⟩ := by
    refine ⟨rfl, rfl, rfl, by simp, rfl, ⟨[], by simp, by simp⟩, fun id t ht => ⟨t, ht, rfl, rfl, .inl rfl⟩, fun t ht => .inl ⟨t, ht, rfl⟩, fun a v ha hs hcell => ⟨?_, hs⟩, fun k _ hk _ => hother k (fun e => hk (e ▸ hmem))⟩
    rw [← hcell]
    exact World.cell?_of_block (hother a.block (fun e => hs.2.1 (e ▸ hmem)))
  refine ⟨⟨by simp [hr.len], ?_, hr.tk, ?_, hr.nd, hr.td, hr.st, fun x p hx => by simpa using hr.hidlt x p hx, hr.thid, fun x hx => by simpa using hr.shid x hx⟩, hE⟩
  · intro i b' ds hb' hds
    simp only at hb' hds
    by_cases hi : i = b
    · subst hi
      rw [hb] at hb'
      cases hb'
      rw [List.getElem?_set_self (List.getElem?_eq_some_iff.1 hc).1] at hds
      cases hds
      exact ⟨new, T, setRow_heap c.w blk old new T (0, 0) ho, hl, fun j p v hp hv' => ⟨(hv j p v hp hv').1.mono hE, (hv j p v hp hv').2⟩⟩
    · rw [List.getElem?_set_ne (fun e => hi e.symm)] at hds
      obtain ⟨vals, T', h1, h2, h3⟩ := hr.bx i b' ds hb' hds
      have hne : b' ≠ blk := by
        intro e
        subst e
        obtain ⟨l1, e1⟩ := List.getElem?_eq_some_iff.1 hb
        obtain ⟨l2, e2⟩ := List.getElem?_eq_some_iff.1 hb'
        exact hi ((List.getElem_inj hr.nd).1 (e2.trans e1.symm))
      exact ⟨vals, T', by rw [← h1]; exact hother b' hne, h2, fun j p v hp hv' => ⟨(h3 j p v hp hv').1.mono hE, (h3 j p v hp hv').2⟩⟩
  · intro t ht
    obtain ⟨cur, h1, h2⟩ := hr.tb t ht
    exact ⟨cur, by rw [← h1]; exact hother t.g (fun e => hr.st t ht (e ▸ hmem)), h2⟩
end
end Go.Pure
