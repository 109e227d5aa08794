/- A generic layer: arrays that may be written: made, read, written, given up. -/
import Derived.Test.YtffpepmfdjjjaaaPureZB
namespace Go.Pure
open Go

section
variable {P : Program} {o : Oper} {ρ : Operand → PV} {H : PH}

/-- Slices that are made, and may be written. -/
theorem PO_buildSlice_mar {t n e size : Nat} {parts : Array (Nat × Operand)} {z : Value} {b : Bool} {cs : List PV} {gs : List GV} (ho : o.op = .buildSlice t n parts) (he : P.underlying t = some (.slice e)) (hs : szB P e = some size) (_ha : aggB P e = some b)
    (hz : zeroB P e = some z) (hz1 : z.cells.toList.all (·.oneCell') = true) (hzs : Nat.beq z.cells.size size = true) (hpos : Nat.ble 1 size = true) (hb : (b || Nat.beq size 1) = true) (hn : Nat.ble (n * size) 16777216 = true)
    (hfill : fillP (fun i => some (i * size, size)) (zerosP z n) (partsP ρ parts.toList) = some cs) (hg : allG cs = some gs) : PO P o ρ H (.mar H.mu.length 0) ⟨H.bx, H.tk, H.mu ++ [.arr 0 e (group b size n gs)]⟩ := by
  intro c ρr hr hx
  have hzs := Nat.eq_of_beq_eq_true hzs
  have hpos := Nat.le_of_ble_eq_true hpos
  have hn := Nat.le_of_ble_eq_true hn
  subst hzs
  obtain ⟨vs, hv1, hv2⟩ := fill_ok (c := c) (partsP ρ parts.toList) ((parts.map fun (i, x) => (i, ρr x)).toList) (zerosP z n) _ cs (zeros_ok c hz1 hpos n) (by simp [partsP_eq]) (by
    intro k x y hx1 hy
    rw [partsP_eq] at hx1
    simp only [List.getElem?_map, Option.map_eq_some_iff, Array.toList_map] at hx1 hy
    obtain ⟨q, hq, rfl⟩ := hx1
    obtain ⟨q', hq', rfl⟩ := hy
    rw [hq] at hq'
    cases hq'
    exact ⟨rfl, hx q.2 (by
      rw [ho]
      simpa [Op.operands] using ⟨q.1, by simpa using List.mem_of_getElem? hq⟩)⟩) hfill
  have hv1 : Instr.fill (fun i => some (i * z.cells.size, z.cells.size)) ((Array.range (n * z.cells.size)).map (z.cells[· % z.cells.size]!)) (List.map (fun x => (x.1, ρr x.2)) parts.toList) = some vs := by simpa using hv1
  have hrun : (execOp ρr o).run P c.w = .ok (.value (.slice (some ⟨c.w.heap.size, 0, none⟩) n n)) (c.w.alloc (.cells vs e)) := by
    have hne : ¬ (n * z.cells.size > 2 ^ 24) := by simp only [Nat.reducePow]; omega
    by_cases h0 : n * z.cells.size = 0
    · obtain rfl : n = 0 := by
        rcases Nat.mul_eq_zero.1 h0 with h | h
        · exact h
        · omega
      have e0 : ∀ f : Nat → Value, (Array.range (0 * z.cells.size)).map f = #[] := fun f => by simp
      rw [e0] at hv1
      have e1 : Array.map (fun _ : Nat => (default : Value)) (Array.range 0) = #[] := by simp
      simp [execOp, ho, Instr.buildSlice, run_underlying he, run_sizeOf hs, newRow, newObj, e1, hv1, Sem.run]
    · simp [execOp, ho, Instr.buildSlice, run_underlying he, run_sizeOf hs, hne, h0, run_zero hz, newRow, newObj, hv1, Sem.run]
  unfold OpGoes
  rw [hrun]
  have hcells : gs.length = vs.size := by rw [(allG_ok (c := c) hg).1, hv2.1]
  have hcs : ∀ (k : Nat) (g : GV) (v : Value), gs[k]? = some g → vs[k]? = some v → RG c.w c.stab g v ∧ v.oneCell' = true := by
    intro k g v hgk hvk
    have hlt : k < cs.length := by rw [← (allG_ok (c := c) hg).1]; exact (List.getElem?_eq_some_iff.1 hgk).1
    obtain ⟨r1, r2⟩ := hv2.2 k cs[k] v (List.getElem?_eq_getElem hlt) hvk
    exact ⟨(allG_ok (c := c) hg).2 k g cs[k] hgk (List.getElem?_eq_getElem hlt) v r1, r2⟩
  have hvsz : vs.size = n * z.cells.size := by
    rw [hv2.1]
    have : ∀ (ps : List (Nat × PV)) (l l' : List PV), fillP (fun i => some (i * z.cells.size, z.cells.size)) l ps = some l' → l'.length = l.length := by
      intro ps
      induction ps with
      | nil => intro l l' h; simp [fillP] at h; rw [h]
      | cons p ps ih =>
        obtain ⟨i, p⟩ := p
        intro l l' h
        unfold fillP at h
        split at h
        · rename_i off n' ds hpl hds
          cases hb : (Nat.beq ds.length n' && Nat.ble (off + n') l.length) with
          | false => rw [hb] at h; cases h
          | true =>
            rw [hb, cond_true] at h
            rw [ih _ _ h]
            simp only [Bool.and_eq_true] at hb
            have e1 := Nat.eq_of_beq_eq_true hb.1
            have e2 := Nat.le_of_ble_eq_true hb.2
            simp [splice]; omega
        · cases h
    rw [this _ _ _ hfill, zerosP_length]
  have hone : b = false → z.cells.size = 1 ∧ ∀ g ∈ gs, g.cells = [g] := fun e => by
    subst e
    refine ⟨Nat.eq_of_beq_eq_true (by simpa using hb), fun g hg' => ?_⟩
    obtain ⟨k, hk⟩ := List.getElem?_of_mem hg'
    have hlt : k < vs.size := by rw [← hcells]; exact (List.getElem?_eq_some_iff.1 hk).1
    obtain ⟨r1, r2⟩ := hcs k g vs[k] hk (by simp [hlt])
    exact r1.cells_one r2
  have hlen : (group b z.cells.size n gs).length = n := group_length n gs b (fun e => (hone e).1) (by rw [hcells, hvsz])
  have hget := group_get n gs b hone (by rw [hcells, hvsz])
  have hle : n ≤ n * z.cells.size := Nat.le_mul_of_pos_right _ hpos
  have hk : Keeps c.w (c.w.alloc (.cells vs e)) c.stab (Ctx.stab ⟨c.σ, c.τ, c.μ ++ [⟨true, c.w.heap.size, z.cells.size, 0, n, n⟩], c.hid, c.w.alloc (.cells vs e)⟩) := by
    have := (evo_ext (c := c) (Ext.alloc c.w (.cells vs e)) [] [] [⟨true, c.w.heap.size, z.cells.size, 0, n, n⟩] (by simp) (by simp) (by simp)).keep
    simpa using this
  have hmok : MOk P ⟨c.σ, c.τ, c.μ ++ [⟨true, c.w.heap.size, z.cells.size, 0, n, n⟩], c.hid, c.w.alloc (.cells vs e)⟩ ⟨true, c.w.heap.size, z.cells.size, 0, n, n⟩ (.arr 0 e (group b z.cells.size n gs)) := by
    refine ⟨rfl, hlen.symm, hs, .inr ⟨rfl, vs, Go.heap_alloc_new c.w _, hvsz, Nat.le_of_eq hlen, ?_, ?_, ?_⟩⟩
    · simp only [maxLen]; omega
    · intro x hx
      obtain ⟨i, hi⟩ := List.getElem?_of_mem hx
      exact (hget i x hi).1
    · intro i x j g v hx hg' hv
      have := hcs _ g v ((hget i x hx).2 j g hg') hv
      exact ⟨this.1.mono hk, this.2⟩
  obtain ⟨r1, r2⟩ := hr.addMu (Ext.alloc c.w (.cells vs e)) (t := ⟨true, c.w.heap.size, z.cells.size, 0, n, n⟩) (o := .arr 0 e (group b z.cells.size n gs)) (fun _ => ⟨Nat.le_refl _, by simp⟩) hmok
  refine ⟨_, rfl, r1, r2, .mar H.mu.length 0 _ ⟨true, c.w.heap.size, z.cells.size, 0, n, n⟩ ?_ (Nat.le_refl _) rfl (fun _ => .inl ⟨rfl, rfl⟩)⟩
  show (c.μ ++ [_])[H.mu.length]? = _
  rw [← hr.mlen]; simp

/-- The place of an element. -/
theorem PO_mindex {x y : Operand} {t e e' : TypeId} {id n m : Nat} {es : List GV} {k : IntKind} {i : Int} (ho : o.op = .indexAddr t x y) (ht : P.underlying t = some (.slice e)) (hs : szB P e = some m) (hx' : ρ x = .mar id n) (hi : ρ y = .g (.int k i))
    (hm : H.mu[id]? = some (.arr n e' es)) (he : szB P e' = some m) (h0 : 0 ≤ i) (hlt : i < es.length) : PO P o ρ H (.mref id n i.toNat 0) H :=
  PO_val fun c ρr hr hx => by
    have h1 := hx x (by simp [ho, Op.operands])
    have h2 := hx y (by simp [ho, Op.operands])
    rw [hx'] at h1
    rw [hi] at h2
    have h2 := RV_int h2
    generalize hv : ρr x = v at h1
    cases h1 with
    | mar _ _ _ t' ht' hn h1' hv' =>
      obtain ⟨a1, a2, a3, a4⟩ := hr.mu id t' _ ht' hm
      have hsz : t'.size = m := by unfold szB at he; rw [a3] at he; exact Option.some.inj he
      rcases hv' a1.symm with ⟨lv, rfl⟩ | ⟨lv, rfl⟩
      · refine ⟨.pointer (some ((⟨t'.g, 0, none⟩ : Addr).add (i.toNat * m))), ?_, .mref id n i.toNat 0 _ t' ht' hn (add_spot _ _ rfl) (fun _ => by rw [add_eq _ _ rfl, hsz]; simp)⟩
        have hlt' : i.toNat < t'.len := by rw [a2]; omega
        have hidx : 0 ≤ i ∧ i < (t'.len : Int) := ⟨h0, by omega⟩
        simp only [execOp, ho, hv, h2]
        simp [Instr.indexAt, asIntOf, run_underlying ht, hidx, run_sizeOf hs]
      · rcases a4 with ⟨_, rfl⟩ | ⟨lv', _⟩
        · simp at hlt; omega
        · rw [lv] at lv'; cases lv'

/-- An element's cells, read. -/
theorem PO_load_mref_one {t : TypeId} {x : Operand} {id n i off : Nat} {e : TypeId} {es : List GV} {x' g : GV} (ho : o.op = .load t x) (h1 : aggB P t = some false) (hp : ρ x = .mref id n i off)
    (hm : H.mu[id]? = some (.arr n e es)) (hx' : es[i]? = some x') (hg : x'.cells[off]? = some g) : PO P o ρ H (.g g) H :=
  PO_val fun c ρr hr hx => by
    have hx1 := hx x (by simp [ho, Op.operands])
    rw [hp] at hx1
    generalize hrx : ρr x = u at hx1
    cases hx1 with
    | mref _ _ _ _ a t' ht' hn hs hv' =>
      obtain ⟨a1, a2, a3, a4⟩ := hr.mu id t' _ ht' hm
      rcases a4 with ⟨_, rfl⟩ | ⟨lv, cur, b1, b2, b3, b4, b5, b6⟩
      · simp at hx'
      · have hi := (List.getElem?_eq_some_iff.1 hx').1
        have hj := (List.getElem?_eq_some_iff.1 hg).1
        rw [b5 x' (List.mem_of_getElem? hx')] at hj
        have hlt : i * t'.size + off < cur.size := by
          have h1 : (i + 1) * t'.size ≤ t'.cap * t'.size := Nat.mul_le_mul_right _ (by omega)
          rw [Nat.add_mul, Nat.one_mul] at h1
          omega
        have hv : cur[i * t'.size + off]? = some cur[i * t'.size + off] := Array.getElem?_eq_getElem hlt
        have hc : c.w.cell? a = some cur[i * t'.size + off] := by
          rw [hv' a1.symm, cell_of_row c.w t'.g _ cur e (0, 0) b1]; exact hv
        refine ⟨cur[i * t'.size + off], by simp only [execOp, ho, hrx, Instr.loadAt, Instr.sureAddr]; simp [run_loadVar_one h1 _ _ hc], .g _ _ (b6 i x' off g _ hx' hg hv).1⟩
theorem PO_load_mref_agg {t : TypeId} {x : Operand} {id n i off m : Nat} {e : TypeId} {es : List GV} {x' : GV} (ho : o.op = .load t x) (h1 : aggB P t = some true) (h2 : szB P t = some m) (hp : ρ x = .mref id n i off)
    (hm : H.mu[id]? = some (.arr n e es)) (hx' : es[i]? = some x') (hg : off + m ≤ x'.cells.length) : PO P o ρ H (.g (.agg ((x'.cells.drop off).take m))) H :=
  PO_val fun c ρr hr hx => by
    have hx1 := hx x (by simp [ho, Op.operands])
    rw [hp] at hx1
    generalize hrx : ρr x = u at hx1
    cases hx1 with
    | mref _ _ _ _ a t' ht' hn hs hv' =>
      obtain ⟨a1, a2, a3, a4⟩ := hr.mu id t' _ ht' hm
      rcases a4 with ⟨_, rfl⟩ | ⟨lv, cur, b1, b2, b3, b4, b5, b6⟩
      · simp at hx'
      · have hi := (List.getElem?_eq_some_iff.1 hx').1
        have hcl := b5 x' (List.mem_of_getElem? hx')
        have hlt : ∀ j, j < m → i * t'.size + (off + j) < cur.size := by
          intro j hj
          have h1 : (i + 1) * t'.size ≤ t'.cap * t'.size := Nat.mul_le_mul_right _ (by omega)
          rw [Nat.add_mul, Nat.one_mul] at h1
          omega
        have hv : ∀ j, j < m → cur[i * t'.size + (off + j)]? = some (cur.getD (i * t'.size + (off + j)) undef) := fun j hj => by
          have := hlt j hj
          rw [Array.getElem?_eq_getElem this]
          simp [this, Array.getD_eq_getD_getElem?]
        have hl := run_loadVar_agg (w := c.w) h1 h2 a (fun j => cur.getD (i * t'.size + (off + j)) undef) (fun j hj => by
          rw [add_eq _ _ hs, hv' a1.symm, cell_of_row c.w t'.g _ cur e (0, 0) b1]
          simp only [Nat.add_assoc]; exact hv j hj)
        refine ⟨_, by simp only [execOp, ho, hrx, Instr.loadAt, Instr.sureAddr]; simp [hl]; rfl, .g _ _ (.agg _ _ (by simp; omega) ?_ ?_)⟩
        · intro v hv2
          simp at hv2
          obtain ⟨j, hj, rfl⟩ := hv2
          have := (b6 i x' (off + j) (x'.cells[off + j]'(by omega)) _ hx' (by simp) (hv j hj)).2
          simpa [Array.getD_eq_getD_getElem?] using this
        · intro j p v hi2 hv2
          simp [List.getElem?_take] at hi2 hv2
          obtain ⟨hlt2, hi2⟩ := hi2
          obtain ⟨i', h0, rfl⟩ := hv2
          obtain ⟨h0, rfl⟩ := List.getElem?_eq_some_iff.1 h0
          rw [List.getElem_range]
          have := (b6 i x' (off + j) p _ hx' hi2 (hv j hlt2)).1
          simpa [Array.getD_eq_getD_getElem?] using this

/-- An element with some cells in the place of others. -/
def setCells (x : GV) (off : Nat) (cs : List GV) : GV :=
  match x with
  | .agg ds => .agg (ds.take off ++ cs ++ ds.drop (off + cs.length))
  | _ => match cs with | [g] => g | _ => x
theorem setCells_cells {x : GV} {off : Nat} {cs : List GV} (h : off + cs.length ≤ x.cells.length) (hpos : 0 < cs.length) (h1 : ∀ g ∈ cs, g.cells = [g]) : (setCells x off cs).cells = x.cells.take off ++ cs ++ x.cells.drop (off + cs.length) := by
  have one : ∀ y : GV, y.cells = [y] → off + cs.length ≤ y.cells.length → ∃ g, cs = [g] ∧ off = 0 := by
    intro y hy hl
    rw [hy] at hl
    simp at hl
    match cs, hpos, hl with
    | [g], _, hl => exact ⟨g, rfl, by simp at hl; omega⟩
    | g :: g' :: r, _, hl => simp at hl; omega
  cases x with
  | agg ds => rfl
  | _ => obtain ⟨g, rfl, rfl⟩ := one _ rfl h; simp [setCells, GV.cells]; exact h1 g (by simp)

theorem setCells_len {x : GV} {off : Nat} {cs : List GV} (h : off + cs.length ≤ x.cells.length) (hpos : 0 < cs.length) (h1 : ∀ g ∈ cs, g.cells = [g]) : (setCells x off cs).cells.length = x.cells.length := by
  rw [setCells_cells h hpos h1]
  simp
  omega

/-- An element's cells, written. -/
theorem PO_store_mref {t : TypeId} {x y : Operand} {id n i off m : Nat} {e : TypeId} {es : List GV} {x' : GV} {ps : List PV} {cs : List GV} (ho : o.op = .store t x y) (hs : szB P t = some m) (hp : ρ x = .mref id n i off) (hc : pvCells (ρ y) = some ps) (hg : allG ps = some cs) (hn : cs.length = m) (hpos : 0 < m)
    (hm : H.mu[id]? = some (.arr n e es)) (hx' : es[i]? = some x') (hfit : off + m ≤ x'.cells.length) :
    PO P o ρ H undefP ⟨H.bx, H.tk, H.mu.set id (.arr n e (es.set i (setCells x' off cs)))⟩ := by
  intro c ρr hr hx
  have hx1 := hx x (by simp [ho, Op.operands])
  have hy1 := hx y (by simp [ho, Op.operands])
  rw [hp] at hx1
  generalize hrx : ρr x = u at hx1
  obtain ⟨f1, f2⟩ := pvCells_ok hy1 hc
  obtain ⟨g1, g2⟩ := allG_ok (c := c) hg
  have hval : ∀ (j : Nat) (g : GV) (v : Value), cs[j]? = some g → (ρr y).cells[j]? = some v → RG c.w c.stab g v ∧ v.oneCell' = true := by
    intro j g v hj hv
    have hlt : j < ps.length := by rw [← g1]; exact (List.getElem?_eq_some_iff.1 hj).1
    obtain ⟨r1, r2⟩ := f2 j ps[j] v (List.getElem?_eq_getElem hlt) hv
    exact ⟨g2 j g ps[j] hj (List.getElem?_eq_getElem hlt) v r1, r2⟩
  have hcsz : (ρr y).cells.size = m := by rw [← f1, ← g1, hn]
  have hone : ∀ g ∈ cs, g.cells = [g] := by
    intro g hgm
    obtain ⟨j, hj⟩ := List.getElem?_of_mem hgm
    have hlt : j < (ρr y).cells.size := by rw [hcsz, ← hn]; exact (List.getElem?_eq_some_iff.1 hj).1
    obtain ⟨r1, r2⟩ := hval j g _ hj (Array.getElem?_eq_getElem hlt)
    exact r1.cells_one r2
  cases hx1 with
  | mref _ _ _ _ a t' ht' hgn hsp hv' =>
    obtain ⟨a1, a2, a3, a4⟩ := hr.mu id t' _ ht' hm
    rcases a4 with ⟨_, rfl⟩ | ⟨lv, cur, b1, b2, b3, b4, b5, b6⟩
    · simp at hx'
    · have hi := (List.getElem?_eq_some_iff.1 hx').1
      have hcl := b5 x' (List.mem_of_getElem? hx')
      have hend : i * t'.size + t'.size ≤ cur.size := by
        have h1 : (i + 1) * t'.size ≤ t'.cap * t'.size := Nat.mul_le_mul_right _ (by omega)
        rw [Nat.add_mul, Nat.one_mul] at h1
        omega
      have hone' : ∀ v ∈ (ρr y).cells.toList, v.oneCell' = true := by
        intro v hv
        obtain ⟨j, hj, rfl⟩ := List.mem_iff_getElem.1 hv
        have hj' : j < cs.length := by rw [hn, ← hcsz]; simpa using hj
        exact (hval j cs[j] _ (List.getElem?_eq_getElem hj') (by simp)).2
      have hst := run_storeCells_at P t'.g (i * t'.size + off) e (ρr y).cells.toList 0 cur c.w b1 (by simp <;> omega) hone'
      simp only [Nat.add_zero] at hst
      have hrun : (execOp ρr o).run P c.w = .ok .skip (c.w.setRow t'.g (cur.toList.take (i * t'.size + off) ++ (ρr y).cells.toList ++ cur.toList.drop (i * t'.size + off + (ρr y).cells.size)).toArray) := by
        rw [Array.length_toList] at hst
        rw [hcsz] at hst ⊢
        simp [execOp, ho, hrx, Instr.storeAt, Instr.sureAddr, storeVar, run_sizeOf hs, hcsz, hv' a1.symm, hst]
      unfold OpGoes
      rw [hrun]
      generalize hnew : (cur.toList.take (i * t'.size + off) ++ (ρr y).cells.toList ++ cur.toList.drop (i * t'.size + off + (ρr y).cells.size)).toArray = new
      have hnsz : new.size = cur.size := by rw [← hnew]; simp [hcsz]; omega
      have hread : ∀ k v, new[k]? = some v → (k < i * t'.size + off ∧ cur[k]? = some v) ∨ (i * t'.size + off ≤ k ∧ k < i * t'.size + off + m ∧ (ρr y).cells[k - (i * t'.size + off)]? = some v) ∨ (i * t'.size + off + m ≤ k ∧ cur[k]? = some v) := by
        intro k v hk
        rw [← hnew] at hk
        simp only [List.getElem?_toArray] at hk
        by_cases h1 : k < i * t'.size + off
        · rw [List.append_assoc, List.getElem?_append_left (by simp; omega)] at hk
          simp only [List.getElem?_take, h1, if_true] at hk
          exact .inl ⟨h1, by simpa using hk⟩
        · by_cases h2 : k < i * t'.size + off + m
          · rw [List.append_assoc, List.getElem?_append_right (by simp; omega), List.getElem?_append_left (by simp [hcsz]; omega)] at hk
            have l2 : (cur.toList.take (i * t'.size + off)).length = i * t'.size + off := by simp; omega
            rw [l2] at hk
            exact .inr (.inl ⟨by omega, h2, by simpa using hk⟩)
          · rw [List.getElem?_append_right (by simp [hcsz]; omega)] at hk
            have l2 : (cur.toList.take (i * t'.size + off) ++ (ρr y).cells.toList).length = i * t'.size + off + m := by simp [hcsz]; omega
            rw [l2, List.getElem?_drop, hcsz] at hk
            have e : i * t'.size + off + m + (k - (i * t'.size + off + m)) = k := by omega
            rw [e] at hk
            exact .inr (.inr ⟨by omega, by simpa using hk⟩)
      have := hr.setMu ht' (t' := t') (o' := .arr n e (es.set i (setCells x' off cs))) rfl (.inl rfl) (w' := c.w.setRow t'.g new) rfl rfl rfl (by simp) (fun b hb h => setRow_other c.w t'.g b _ (h lv)) (fun _ => .inl ⟨lv, rfl⟩) (fun hE => ?_)
      · exact ⟨_, rfl, this.1, this.2, .g _ _ (.raw _)⟩
      · have hpos' : 0 < cs.length := by omega
        have hfit' : off + cs.length ≤ x'.cells.length := by omega
        refine ⟨a1, by rw [List.length_set]; exact a2, a3, .inr ⟨lv, new, setRow_heap c.w t'.g cur new e (0, 0) b1, by rw [hnsz]; exact b2, by rw [List.length_set]; exact b3, b4, ?_, ?_⟩⟩
        · intro z hz
          rcases List.mem_or_eq_of_mem_set hz with h | rfl
          · exact b5 z h
          · rw [setCells_len hfit' hpos' hone]; exact hcl
        · intro i2 x2 j g v hx2 hg2 hv2
          by_cases hij : i2 = i
          · subst hij
            rw [List.getElem?_set_self hi] at hx2
            cases hx2
            rw [setCells_cells hfit' hpos' hone] at hg2
            have hj := (List.getElem?_eq_some_iff.1 hg2).1
            rcases hread _ v hv2 with ⟨k1, k2⟩ | ⟨k1, k2, k3⟩ | ⟨k1, k2⟩
            · rw [List.append_assoc, List.getElem?_append_left (by simp; omega)] at hg2
              simp only [List.getElem?_take] at hg2
              rw [if_pos (by omega)] at hg2
              exact ⟨(b6 i2 x' j g v hx' hg2 k2).1.mono hE.keep, (b6 i2 x' j g v hx' hg2 k2).2⟩
            · rw [List.append_assoc, List.getElem?_append_right (by simp; omega), List.getElem?_append_left (by simp; omega)] at hg2
              have l1 : (x'.cells.take off).length = off := by simp; omega
              rw [l1] at hg2
              rw [show i2 * t'.size + j - (i2 * t'.size + off) = j - off by omega] at k3
              exact ⟨(hval _ g v hg2 k3).1.mono hE.keep, (hval _ g v hg2 k3).2⟩
            · rw [List.getElem?_append_right (by simp; omega)] at hg2
              have l1 : (x'.cells.take off ++ cs).length = off + cs.length := by simp; omega
              rw [l1, List.getElem?_drop, show off + cs.length + (j - (off + cs.length)) = j by omega] at hg2
              exact ⟨(b6 i2 x' j g v hx' hg2 k2).1.mono hE.keep, (b6 i2 x' j g v hx' hg2 k2).2⟩
          · rw [List.getElem?_set_ne (fun h => hij h.symm)] at hx2
            have hj := (List.getElem?_eq_some_iff.1 hg2).1
            rw [b5 x2 (List.mem_of_getElem? hx2)] at hj
            have hcur : cur[i2 * t'.size + j]? = some v := by
              rcases hread _ v hv2 with ⟨_, k2⟩ | ⟨k1, k2, _⟩ | ⟨_, k2⟩
              · exact k2
              · exfalso
                rcases Nat.lt_or_gt_of_ne hij with h | h
                · have : (i2 + 1) * t'.size ≤ i * t'.size := Nat.mul_le_mul_right _ h
                  rw [Nat.add_mul, Nat.one_mul] at this
                  omega
                · have : (i + 1) * t'.size ≤ i2 * t'.size := Nat.mul_le_mul_right _ h
                  rw [Nat.add_mul, Nat.one_mul] at this
                  omega
              · exact k2
            exact ⟨(b6 i2 x2 j g v hx2 hg2 hcur).1.mono hE.keep, (b6 i2 x2 j g v hx2 hg2 hcur).2⟩

theorem PO_mlen {x : Operand} {t e e' : TypeId} {id n : Nat} {es : List GV} (ho : o.op = .call { callee := .builtin .len, args := #[x], argTypes := #[t] }) (ht : P.underlying t = some (.slice e)) (hx' : ρ x = .mar id n) (hm : H.mu[id]? = some (.arr n e' es)) :
    PO P o ρ H (.g (.int .i64 es.length)) H :=
  PO_val fun c ρr hr hx => by
    have h1 := hx x (by simp [ho, Op.operands, Call.operands])
    rw [hx'] at h1
    generalize hv : ρr x = v at h1
    cases h1 with
    | mar _ _ _ t' ht' hn h1' hv' =>
      obtain ⟨a1, a2, a3, a4⟩ := hr.mu id t' _ ht' hm
      refine ⟨.int .i64 es.length, ?_, .g _ _ (.int _ _)⟩
      rcases hv' a1.symm with ⟨lv, rfl⟩ | ⟨lv, rfl⟩
      · rw [← a2]
        simp [execOp, ho, resolve, invoke, builtin, hv, Builtin.len_, run_underlying ht, goInt]
      · rcases a4 with ⟨_, rfl⟩ | ⟨lv', _⟩
        · simp [execOp, ho, resolve, invoke, builtin, hv, Builtin.len_, run_underlying ht, goInt]
        · rw [lv] at lv'; cases lv'
end
end Go.Pure
