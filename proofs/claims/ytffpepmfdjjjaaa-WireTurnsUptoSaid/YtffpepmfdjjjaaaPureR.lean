/- A generic layer: slices that are made. -/
import Derived.Test.YtffpepmfdjjjaaaPureQ
namespace Go.Pure
open Go

theorem RG.cells_one {w : World} {S : Nat → Nat → Prop} {g : GV} {v : Value} (h : RG w S g v) (h1 : v.oneCell' = true) : g.cells = [g] := by
  cases h with
  | agg => cases h1
  | _ => rfl

/-- A row of cells, parted into elements. -/
def group (b : Bool) (size : Nat) : Nat → List GV → List GV
  | 0, _ => []
  | n + 1, gs => bif b then .agg (gs.take size) :: group b size n (gs.drop size) else (match gs with | g :: r => g :: group b size n r | [] => [])

theorem group_length {size : Nat} : ∀ (n : Nat) (gs : List GV) (b : Bool), (b = false → size = 1) → gs.length = n * size → (group b size n gs).length = n
  | 0, _, _, _, _ => rfl
  | n + 1, gs, true, hb, hl => by
    simp only [group, cond_true, List.length_cons, Nat.add_right_cancel_iff]
    exact group_length n _ true hb (by simp [hl, Nat.add_mul])
  | n + 1, gs, false, hb, hl => by
    have h1 := hb rfl
    subst h1
    cases gs with
    | nil => simp at hl
    | cons g r => simp only [group, cond_false, List.length_cons, Nat.add_right_cancel_iff]; exact group_length n r false hb (by simp at hl; omega)

theorem group_get {size : Nat} : ∀ (n : Nat) (gs : List GV) (b : Bool), (b = false → size = 1 ∧ ∀ g ∈ gs, g.cells = [g]) → gs.length = n * size →
    ∀ (i : Nat) (e : GV), (group b size n gs)[i]? = some e → e.cells.length = size ∧ ∀ j g, e.cells[j]? = some g → gs[i * size + j]? = some g
  | 0, _, _, _, _, i, e, h => by simp [group] at h
  | n + 1, gs, true, hb, hl, i, e, h => by
    simp only [group, cond_true] at h
    cases i with
    | zero =>
      simp at h
      subst h
      refine ⟨by simp [GV.cells, hl, Nat.add_mul], fun j g hj => ?_⟩
      simp only [GV.cells, List.getElem?_take] at hj
      split at hj
      · simpa using hj
      · cases hj
    | succ i =>
      obtain ⟨h1, h2⟩ := group_get (size := size) n (gs.drop size) true (by simp) (by simp [hl, Nat.add_mul]) i e (by simpa using h)
      refine ⟨h1, fun j g hj => ?_⟩
      have := h2 j g hj
      rw [List.getElem?_drop] at this
      rw [← this]
      congr 1
      rw [Nat.add_mul]; omega
  | n + 1, gs, false, hb, hl, i, e, h => by
    obtain ⟨h1, hc⟩ := hb rfl
    subst h1
    cases gs with
    | nil => simp at hl
    | cons g r =>
      simp only [group, cond_false] at h
      cases i with
      | zero =>
        simp at h
        subst h
        rw [hc g (by simp)]
        refine ⟨rfl, fun j g' hj => ?_⟩
        cases j with
        | zero => simpa using hj
        | succ j => simp at hj
      | succ i =>
        obtain ⟨h1, h2⟩ := group_get n r false (fun _ => ⟨rfl, fun g' hg' => hc g' (by simp [hg'])⟩) (by simp at hl; omega) i e (by simpa using h)
        refine ⟨h1, fun j g' hj => ?_⟩
        have := h2 j g' hj
        rw [show (i + 1) * 1 + j = (i * 1 + j) + 1 by omega, List.getElem?_cons_succ]
        exact this

section
variable {P : Program} {o : Oper} {ρ : Operand → PV} {H : PH}

/-- A slice of a new row reads as its elements. -/
theorem RG_row {w : World} {S : Nat → Nat → Prop} {blk : Nat} {cur : Array Value} {e : TypeId} {es : List GV} {size cap : Nat} (hb : w.heap[blk]? = some (.cells cur e (0, 0)))
    (hs : ∀ (i : Nat) (x : GV), es[i]? = some x → x.cells.length = size) (hc : es.length ≤ cap) (hm : cap ≤ maxLen) (_hl : es.length * size ≤ cur.size) (hS : ∀ p, p < es.length * size → S blk p)
    (h1 : ∀ k, k < es.length * size → ∃ v, cur[k]? = some v ∧ v.oneCell' = true)
    (h : ∀ (i : Nat) (x : GV) (j : Nat) (g : GV) (v : Value), es[i]? = some x → x.cells[j]? = some g → cur[i * size + j]? = some v → RG w S g v) :
    RG w S (.sl es) (.slice (some ⟨blk, 0, none⟩) es.length cap) := by
  refine .sl es ⟨blk, 0, none⟩ cap size (fun k => cur[k]?.getD undef) (fun _ => rfl) hc hm hs (fun k hk => ?_) (fun i x j g hx hg => ?_)
  · obtain ⟨v, hv, hv1⟩ := h1 k hk
    rw [add_eq _ _ rfl]
    simp only [Nat.zero_add]
    refine ⟨?_, hS k hk, by rw [hv]; exact hv1⟩
    rw [cell_of_row w blk k cur e (0, 0) hb, hv]; rfl
  · have hi := (List.getElem?_eq_some_iff.1 hx).1
    have hj : j < size := by rw [← hs i x hx]; exact (List.getElem?_eq_some_iff.1 hg).1
    have hlt : i * size + j < es.length * size := by
      calc i * size + j < i * size + size := by omega
        _ = (i + 1) * size := by rw [Nat.add_mul, Nat.one_mul]
        _ ≤ es.length * size := Nat.mul_le_mul_right _ hi
    obtain ⟨v, hv, _⟩ := h1 _ hlt
    show RG w S g (cur[i * size + j]?.getD undef)
    rw [hv]
    exact h i x j g v hx hg hv

theorem fresh_stab {c : Ctx} (hr : Rel P c H) {blk : Nat} (h : c.w.heap.size ≤ blk) {w' : World} (p : Nat) : Ctx.stab ⟨c.σ, c.τ, c.μ, c.hid, w'⟩ blk p := by
  refine ⟨fun hh => ?_, fun hm => ?_, fun t ht lv e => ?_, fun t ht lv e => ?_⟩
  · have := hr.hidlt _ _ hh; omega
  · have := hr.shid _ hm; omega
  · have := hr.tlt ht lv; omega
  · have := hr.mlt t ht lv; omega

def zerosP (z : Value) : Nat → List PV
  | 0 => []
  | n + 1 => z.cells.toList.map constC ++ zerosP z n
theorem zerosP_length (z : Value) (n : Nat) : (zerosP z n).length = n * z.cells.size := by
  induction n with
  | zero => simp [zerosP]
  | succ n ih => simp [zerosP, ih, Nat.add_mul, Nat.add_comm]
theorem zerosP_get {z : Value} (hpos : 0 < z.cells.size) : ∀ (n j : Nat), j < n * z.cells.size → (zerosP z n)[j]? = (z.cells.toList.map constC)[j % z.cells.size]?
  | 0, j, h => by simp at h
  | n + 1, j, h => by
    unfold zerosP
    by_cases hj : j < z.cells.size
    · rw [List.getElem?_append_left (by simpa using hj), Nat.mod_eq_of_lt hj]
    · rw [List.getElem?_append_right (by simpa using hj)]
      simp only [List.length_map, Array.length_toList]
      rw [zerosP_get hpos n _ (by rw [Nat.add_mul] at h; omega), ← Nat.mod_eq_sub_mod (by omega)]

theorem zeros_ok (c : Ctx) {z : Value} (h1 : z.cells.toList.all (·.oneCell') = true) (hpos : 0 < z.cells.size) (n : Nat) :
    RCs c (zerosP z n) ((Array.range (n * z.cells.size)).map (z.cells[· % z.cells.size]!)) := by
  refine ⟨by simp [zerosP_length], fun j p v hp hv => ?_⟩
  have hj : j < n * z.cells.size := by rw [← zerosP_length]; exact (List.getElem?_eq_some_iff.1 hp).1
  rw [zerosP_get hpos n j hj] at hp
  have hmod : j % z.cells.size < z.cells.size := Nat.mod_lt _ hpos
  simp [hj] at hv
  refine (zero_ok c h1).2 (j % z.cells.size) p v hp ?_
  rw [← hv]
  simp [hmod]

theorem PO_buildSlice {t n e size : Nat} {parts : Array (Nat × Operand)} {z : Value} {b : Bool} {cs : List PV} {gs : List GV} (ho : o.op = .buildSlice t n parts) (he : P.underlying t = some (.slice e)) (hs : szB P e = some size) (_ha : aggB P e = some b)
    (hz : zeroB P e = some z) (hz1 : z.cells.toList.all (·.oneCell') = true) (hzs : Nat.beq z.cells.size size = true) (hpos : Nat.ble 1 size = true) (hb : (b || Nat.beq size 1) = true) (hn : Nat.ble (n * size) 16777216 = true)
    (hfill : fillP (fun i => some (i * size, size)) (zerosP z n) (partsP ρ parts.toList) = some cs) (hg : allG cs = some gs) : PO P o ρ H (.g (.sl (group b size n gs))) H := by
  intro c ρr hr hx
  have hzs := Nat.eq_of_beq_eq_true hzs
  have hpos := Nat.le_of_ble_eq_true hpos
  have hn := Nat.le_of_ble_eq_true hn
  subst hzs
  obtain ⟨vs, hv1, hv2⟩ := fill_ok (c := c) (partsP ρ parts.toList) ((parts.map fun (i, x) => (i, ρr x)).toList) (zerosP z n) _ cs (zeros_ok c hz1 hpos n) (by simp [partsP_eq]) (by
    intro k x y hx1 hy
    rw [partsP_eq] at hx1
    simp only [List.getElem?_map, Option.map_eq_some_iff, Array.toList_map] at hx1 hy
    obtain ⟨q, hq, rfl⟩ := hx1
    obtain ⟨q', hq', rfl⟩ := hy
    rw [hq] at hq'
    cases hq'
    exact ⟨rfl, hx q.2 (by
      rw [ho]
      simpa [Op.operands] using ⟨q.1, by simpa using List.mem_of_getElem? hq⟩)⟩) hfill
  have hv1 : Instr.fill (fun i => some (i * z.cells.size, z.cells.size)) ((Array.range (n * z.cells.size)).map (z.cells[· % z.cells.size]!)) (List.map (fun x => (x.1, ρr x.2)) parts.toList) = some vs := by simpa using hv1
  have hrun : (execOp ρr o).run P c.w = .ok (.value (.slice (some ⟨c.w.heap.size, 0, none⟩) n n)) (c.w.alloc (.cells vs e)) := by
    have hne : ¬ (n * z.cells.size > 2 ^ 24) := by simp only [Nat.reducePow]; omega
    by_cases h0 : n * z.cells.size = 0
    · obtain rfl : n = 0 := by
        rcases Nat.mul_eq_zero.1 h0 with h | h
        · exact h
        · omega
      have e0 : ∀ f : Nat → Value, (Array.range (0 * z.cells.size)).map f = #[] := fun f => by simp
      rw [e0] at hv1
      have e1 : Array.map (fun _ : Nat => (default : Value)) (Array.range 0) = #[] := by simp
      simp [execOp, ho, Instr.buildSlice, run_underlying he, run_sizeOf hs, newRow, newObj, e1, hv1, Sem.run]
    · simp [execOp, ho, Instr.buildSlice, run_underlying he, run_sizeOf hs, hne, h0, run_zero hz, newRow, newObj, hv1, Sem.run]
  unfold OpGoes
  rw [hrun]
  obtain ⟨hr', hE⟩ := hr.grow (Ext.alloc c.w (.cells vs e))
  have hcells : gs.length = vs.size := by rw [(allG_ok (c := c) hg).1, hv2.1]
  have hcs : ∀ (k : Nat) (g : GV) (v : Value), gs[k]? = some g → vs[k]? = some v → RG c.w c.stab g v ∧ v.oneCell' = true := by
    intro k g v hgk hvk
    have hlt : k < cs.length := by rw [← (allG_ok (c := c) hg).1]; exact (List.getElem?_eq_some_iff.1 hgk).1
    obtain ⟨r1, r2⟩ := hv2.2 k cs[k] v (List.getElem?_eq_getElem hlt) hvk
    exact ⟨(allG_ok (c := c) hg).2 k g cs[k] hgk (List.getElem?_eq_getElem hlt) v r1, r2⟩
  have hvsz : vs.size = n * z.cells.size := by
    rw [hv2.1]
    have : ∀ (ps : List (Nat × PV)) (l l' : List PV), fillP (fun i => some (i * z.cells.size, z.cells.size)) l ps = some l' → l'.length = l.length := by
      intro ps
      induction ps with
      | nil => intro l l' h; simp [fillP] at h; rw [h]
      | cons p ps ih =>
        obtain ⟨i, p⟩ := p
        intro l l' h
        unfold fillP at h
        split at h
        · rename_i off n' ds hpl hds
          cases hb : (Nat.beq ds.length n' && Nat.ble (off + n') l.length) with
          | false => rw [hb] at h; cases h
          | true =>
            rw [hb, cond_true] at h
            rw [ih _ _ h]
            simp only [Bool.and_eq_true] at hb
            have e1 := Nat.eq_of_beq_eq_true hb.1
            have e2 := Nat.le_of_ble_eq_true hb.2
            simp [splice]; omega
        · cases h
    rw [this _ _ _ hfill, zerosP_length]
  have hone : b = false → z.cells.size = 1 ∧ ∀ g ∈ gs, g.cells = [g] := fun e => by
    subst e
    refine ⟨Nat.eq_of_beq_eq_true (by simpa using hb), fun g hg' => ?_⟩
    obtain ⟨k, hk⟩ := List.getElem?_of_mem hg'
    have hlt : k < vs.size := by rw [← hcells]; exact (List.getElem?_eq_some_iff.1 hk).1
    obtain ⟨r1, r2⟩ := hcs k g vs[k] hk (by simp [hlt])
    exact r1.cells_one r2
  have hlen : (group b z.cells.size n gs).length = n := group_length n gs b (fun e => (hone e).1) (by rw [hcells, hvsz])
  have hget := group_get n gs b hone (by rw [hcells, hvsz])
  refine ⟨_, rfl, hr', hE, .g _ _ ?_⟩
  have := RG_row (w := c.w.alloc (.cells vs e)) (S := Ctx.stab ⟨c.σ, c.τ, c.μ, c.hid, c.w.alloc (.cells vs e)⟩) (es := group b z.cells.size n gs) (size := z.cells.size) (cap := n) (Go.heap_alloc_new c.w _) (fun i x hx => (hget i x hx).1) (by omega) (by
      have : n ≤ n * z.cells.size := Nat.le_mul_of_pos_right _ hpos
      simp only [maxLen]; omega) (by rw [hlen, hvsz]; exact Nat.le_refl _) (fun p _ => fresh_stab hr (Nat.le_refl _) p) (fun k hk => ?_) (fun i x j g v hx hg' hv => ?_)
  · rw [hlen] at this; exact this
  · rw [hlen, ← hvsz] at hk
    refine ⟨vs[k], by simp [hk], ?_⟩
    have hk' : k < gs.length := by rw [hcells]; exact hk
    exact (hcs k gs[k] vs[k] (List.getElem?_eq_getElem hk') (by simp [hk])).2
  · exact (hcs _ g v ((hget i x hx).2 j g hg') hv).1.mono hE.keep
end
end Go.Pure
