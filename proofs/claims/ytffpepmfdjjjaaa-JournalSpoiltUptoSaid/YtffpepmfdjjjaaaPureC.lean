/- A generic layer: values without memory, and code over them. -/
import Derived.Test.YtffpepmfdjjjaaaPureB
import Derived.Laws.MakeOwn
/- A generic layer: arrays that may be written: made, read, written, given up. -/
namespace Go.Pure
open Go

section
variable {P : Program} {o : Oper} {ρ : Operand → PV} {H : PH}

/-- Slices that are made, and may be written. -/
theorem PO_buildSlice_mar {t n e size : Nat} {parts : Array (Nat × Operand)} {z : Value} {b : Bool} {cs : List PV} {gs : List GV} (ho : o.op = .buildSlice t n parts) (he : P.underlying t = some (.slice e)) (hs : szB P e = some size) (_ha : aggB P e = some b)
    (hz : zeroB P e = some z) (hz1 : z.cells.toList.all (·.oneCell') = true) (hzs : Nat.beq z.cells.size size = true) (hpos : Nat.ble 1 size = true) (hb : (b || Nat.beq size 1) = true) (hn : Nat.ble (n * size) 16777216 = true)
    (hfill : fillP (fun i => some (i * size, size)) (zerosP z n) (partsP ρ parts.toList) = some cs) (hg : allG cs = some gs) : PO P o ρ H (.mar H.mu.length 0) ⟨H.bx, H.tk, H.mu ++ [.arr 0 e (group b size n gs)]⟩ := by
  intro c ρr hr hx
  have hzs := Nat.eq_of_beq_eq_true hzs
  have hpos := Nat.le_of_ble_eq_true hpos
  have hn := Nat.le_of_ble_eq_true hn
  subst hzs
  obtain ⟨vs, hv1, hv2⟩ := fill_ok (c := c) (partsP ρ parts.toList) ((parts.map fun (i, x) => (i, ρr x)).toList) (zerosP z n) _ cs (zeros_ok c hz1 hpos n) (by simp [partsP_eq]) (by
    intro k x y hx1 hy
    rw [partsP_eq] at hx1
    simp only [List.getElem?_map, Option.map_eq_some_iff, Array.toList_map] at hx1 hy
    obtain ⟨q, hq, rfl⟩ := hx1
    obtain ⟨q', hq', rfl⟩ := hy
    rw [hq] at hq'
    cases hq'
    exact ⟨rfl, hx q.2 (by
      rw [ho]
      simpa [Op.operands] using ⟨q.1, by simpa using List.mem_of_getElem? hq⟩)⟩) hfill
  have hv1 : Instr.fill (fun i => some (i * z.cells.size, z.cells.size)) ((Array.range (n * z.cells.size)).map (z.cells[· % z.cells.size]!)) (List.map (fun x => (x.1, ρr x.2)) parts.toList) = some vs := by simpa using hv1
  have hrun : (execOp ρr o).run P c.w = .ok (.value (.slice (some ⟨c.w.heap.size, 0, none⟩) n n)) (c.w.alloc (.cells vs e)) := by
    have hne : ¬ (n * z.cells.size > 2 ^ 24) := by simp only [Nat.reducePow]; omega
    by_cases h0 : n * z.cells.size = 0
    · obtain rfl : n = 0 := by
        rcases Nat.mul_eq_zero.1 h0 with h | h
        · exact h
        · omega
      have e0 : ∀ f : Nat → Value, (Array.range (0 * z.cells.size)).map f = #[] := fun f => by simp
      rw [e0] at hv1
      have e1 : Array.map (fun _ : Nat => (default : Value)) (Array.range 0) = #[] := by simp
      simp [execOp, ho, Instr.buildSlice, run_underlying he, run_sizeOf hs, newRow, newObj, e1, hv1, Sem.run]
    · simp [execOp, ho, Instr.buildSlice, run_underlying he, run_sizeOf hs, hne, h0, run_zero hz, newRow, newObj, hv1, Sem.run]
  unfold OpGoes
  rw [hrun]
  have hcells : gs.length = vs.size := by rw [(allG_ok (c := c) hg).1, hv2.1]
  have hcs : ∀ (k : Nat) (g : GV) (v : Value), gs[k]? = some g → vs[k]? = some v → RG c.w c.stab g v ∧ v.oneCell' = true := by
    intro k g v hgk hvk
    have hlt : k < cs.length := by rw [← (allG_ok (c := c) hg).1]; exact (List.getElem?_eq_some_iff.1 hgk).1
    obtain ⟨r1, r2⟩ := hv2.2 k cs[k] v (List.getElem?_eq_getElem hlt) hvk
    exact ⟨(allG_ok (c := c) hg).2 k g cs[k] hgk (List.getElem?_eq_getElem hlt) v r1, r2⟩
  have hvsz : vs.size = n * z.cells.size := by
    rw [hv2.1]
    have : ∀ (ps : List (Nat × PV)) (l l' : List PV), fillP (fun i => some (i * z.cells.size, z.cells.size)) l ps = some l' → l'.length = l.length := by
      intro ps
      induction ps with
      | nil => intro l l' h; simp [fillP] at h; rw [h]
      | cons p ps ih =>
        obtain ⟨i, p⟩ := p
        intro l l' h
        unfold fillP at h
        split at h
        · rename_i off n' ds hpl hds
          cases hb : (Nat.beq ds.length n' && Nat.ble (off + n') l.length) with
          | false => rw [hb] at h; cases h
          | true =>
            rw [hb, cond_true] at h
            rw [ih _ _ h]
            simp only [Bool.and_eq_true] at hb
            have e1 := Nat.eq_of_beq_eq_true hb.1
            have e2 := Nat.le_of_ble_eq_true hb.2
            simp [splice]; omega
        · cases h
    rw [this _ _ _ hfill, zerosP_length]
  have hone : b = false → z.cells.size = 1 ∧ ∀ g ∈ gs, g.cells = [g] := fun e => by
    subst e
    refine ⟨Nat.eq_of_beq_eq_true (by simpa using hb), fun g hg' => ?_⟩
    obtain ⟨k, hk⟩ := List.getElem?_of_mem hg'
    have hlt : k < vs.size := by rw [← hcells]; exact (List.getElem?_eq_some_iff.1 hk).1
    obtain ⟨r1, r2⟩ := hcs k g vs[k] hk (by simp [hlt])
    exact r1.cells_one r2
  have hlen : (group b z.cells.size n gs).length = n := group_length n gs b (fun e => (hone e).1) (by rw [hcells, hvsz])
  have hget := group_get n gs b hone (by rw [hcells, hvsz])
  have hle : n ≤ n * z.cells.size := Nat.le_mul_of_pos_right _ hpos
  have hk : Keeps c.w (c.w.alloc (.cells vs e)) c.stab (Ctx.stab ⟨c.σ, c.τ, c.μ ++ [⟨true, c.w.heap.size, z.cells.size, 0, n, n⟩], c.hid, c.w.alloc (.cells vs e)⟩) := by
    have := (evo_ext (c := c) (Ext.alloc c.w (.cells vs e)) [] [] [⟨true, c.w.heap.size, z.cells.size, 0, n, n⟩] (by simp) (by simp) (by simp)).keep
    simpa using this
  have hmok : MOk P ⟨c.σ, c.τ, c.μ ++ [⟨true, c.w.heap.size, z.cells.size, 0, n, n⟩], c.hid, c.w.alloc (.cells vs e)⟩ ⟨true, c.w.heap.size, z.cells.size, 0, n, n⟩ (.arr 0 e (group b z.cells.size n gs)) := by
    refine ⟨rfl, hlen.symm, hs, .inr ⟨rfl, vs, Go.heap_alloc_new c.w _, hvsz, Nat.le_of_eq hlen, ?_, ?_, ?_⟩⟩
    · simp only [maxLen]; omega
    · intro x hx
      obtain ⟨i, hi⟩ := List.getElem?_of_mem hx
      exact (hget i x hi).1
    · intro i x j g v hx hg' hv
      have := hcs _ g v ((hget i x hx).2 j g hg') hv
      exact ⟨this.1.mono hk, this.2⟩
  obtain ⟨r1, r2⟩ := hr.addMu (Ext.alloc c.w (.cells vs e)) (t := ⟨true, c.w.heap.size, z.cells.size, 0, n, n⟩) (o := .arr 0 e (group b z.cells.size n gs)) (fun _ => ⟨Nat.le_refl _, by simp⟩) hmok
  refine ⟨_, rfl, r1, r2, .mar H.mu.length 0 _ ⟨true, c.w.heap.size, z.cells.size, 0, n, n⟩ ?_ (Nat.le_refl _) rfl (fun _ => .inl ⟨rfl, rfl⟩)⟩
  show (c.μ ++ [_])[H.mu.length]? = _
  rw [← hr.mlen]; simp

/-- The place of an element. -/
theorem PO_mindex {x y : Operand} {t e e' : TypeId} {id n m : Nat} {es : List GV} {k : IntKind} {i : Int} (ho : o.op = .indexAddr t x y) (ht : P.underlying t = some (.slice e)) (hs : szB P e = some m) (hx' : ρ x = .mar id n) (hi : ρ y = .g (.int k i))
    (hm : H.mu[id]? = some (.arr n e' es)) (he : szB P e' = some m) (h0 : 0 ≤ i) (hlt : i < es.length) : PO P o ρ H (.mref id n i.toNat 0) H :=
  PO_val fun c ρr hr hx => by
    have h1 := hx x (by simp [ho, Op.operands])
    have h2 := hx y (by simp [ho, Op.operands])
    rw [hx'] at h1
    rw [hi] at h2
    have h2 := RV_int h2
    generalize hv : ρr x = v at h1
    cases h1 with
    | mar _ _ _ t' ht' hn h1' hv' =>
      obtain ⟨a1, a2, a3, a4⟩ := hr.mu id t' _ ht' hm
      have hsz : t'.size = m := by unfold szB at he; rw [a3] at he; exact Option.some.inj he
      rcases hv' a1.symm with ⟨lv, rfl⟩ | ⟨lv, rfl⟩
      · refine ⟨.pointer (some ((⟨t'.g, 0, none⟩ : Addr).add (i.toNat * m))), ?_, .mref id n i.toNat 0 _ t' ht' hn (add_spot _ _ rfl) (fun _ => by rw [add_eq _ _ rfl, hsz]; simp)⟩
        have hlt' : i.toNat < t'.len := by rw [a2]; omega
        have hidx : 0 ≤ i ∧ i < (t'.len : Int) := ⟨h0, by omega⟩
        simp only [execOp, ho, hv, h2]
        simp [Instr.indexAt, asIntOf, run_underlying ht, hidx, run_sizeOf hs]
      · rcases a4 with ⟨_, rfl⟩ | ⟨lv', _⟩
        · simp at hlt; omega
        · rw [lv] at lv'; cases lv'

/-- An element's cells, read. -/
theorem PO_load_mref_one {t : TypeId} {x : Operand} {id n i off : Nat} {e : TypeId} {es : List GV} {x' g : GV} (ho : o.op = .load t x) (h1 : aggB P t = some false) (hp : ρ x = .mref id n i off)
    (hm : H.mu[id]? = some (.arr n e es)) (hx' : es[i]? = some x') (hg : x'.cells[off]? = some g) : PO P o ρ H (.g g) H :=
  PO_val fun c ρr hr hx => by
    have hx1 := hx x (by simp [ho, Op.operands])
    rw [hp] at hx1
    generalize hrx : ρr x = u at hx1
    cases hx1 with
    | mref _ _ _ _ a t' ht' hn hs hv' =>
      obtain ⟨a1, a2, a3, a4⟩ := hr.mu id t' _ ht' hm
      rcases a4 with ⟨_, rfl⟩ | ⟨lv, cur, b1, b2, b3, b4, b5, b6⟩
      · simp at hx'
      · have hi := (List.getElem?_eq_some_iff.1 hx').1
        have hj := (List.getElem?_eq_some_iff.1 hg).1
        rw [b5 x' (List.mem_of_getElem? hx')] at hj
        have hlt : i * t'.size + off < cur.size := by
          have h1 : (i + 1) * t'.size ≤ t'.cap * t'.size := Nat.mul_le_mul_right _ (by omega)
          rw [Nat.add_mul, Nat.one_mul] at h1
          omega
        have hv : cur[i * t'.size + off]? = some cur[i * t'.size + off] := Array.getElem?_eq_getElem hlt
        have hc : c.w.cell? a = some cur[i * t'.size + off] := by
          rw [hv' a1.symm, cell_of_row c.w t'.g _ cur e (0, 0) b1]; exact hv
        refine ⟨cur[i * t'.size + off], by simp only [execOp, ho, hrx, Instr.loadAt, Instr.sureAddr]; simp [run_loadVar_one h1 _ _ hc], .g _ _ (b6 i x' off g _ hx' hg hv).1⟩
theorem PO_load_mref_agg {t : TypeId} {x : Operand} {id n i off m : Nat} {e : TypeId} {es : List GV} {x' : GV} (ho : o.op = .load t x) (h1 : aggB P t = some true) (h2 : szB P t = some m) (hp : ρ x = .mref id n i off)
    (hm : H.mu[id]? = some (.arr n e es)) (hx' : es[i]? = some x') (hg : off + m ≤ x'.cells.length) : PO P o ρ H (.g (.agg ((x'.cells.drop off).take m))) H :=
  PO_val fun c ρr hr hx => by
    have hx1 := hx x (by simp [ho, Op.operands])
    rw [hp] at hx1
    generalize hrx : ρr x = u at hx1
    cases hx1 with
    | mref _ _ _ _ a t' ht' hn hs hv' =>
      obtain ⟨a1, a2, a3, a4⟩ := hr.mu id t' _ ht' hm
      rcases a4 with ⟨_, rfl⟩ | ⟨lv, cur, b1, b2, b3, b4, b5, b6⟩
      · simp at hx'
      · have hi := (List.getElem?_eq_some_iff.1 hx').1
        have hcl := b5 x' (List.mem_of_getElem? hx')
        have hlt : ∀ j, j < m → i * t'.size + (off + j) < cur.size := by
          intro j hj
          have h1 : (i + 1) * t'.size ≤ t'.cap * t'.size := Nat.mul_le_mul_right _ (by omega)
          rw [Nat.add_mul, Nat.one_mul] at h1
          omega
        have hv : ∀ j, j < m → cur[i * t'.size + (off + j)]? = some (cur.getD (i * t'.size + (off + j)) undef) := fun j hj => by
          have := hlt j hj
          rw [Array.getElem?_eq_getElem this]
          simp [this, Array.getD_eq_getD_getElem?]
        have hl := run_loadVar_agg (w := c.w) h1 h2 a (fun j => cur.getD (i * t'.size + (off + j)) undef) (fun j hj => by
          rw [add_eq _ _ hs, hv' a1.symm, cell_of_row c.w t'.g _ cur e (0, 0) b1]
          simp only [Nat.add_assoc]; exact hv j hj)
        refine ⟨_, by simp only [execOp, ho, hrx, Instr.loadAt, Instr.sureAddr]; simp [hl]; rfl, .g _ _ (.agg _ _ (by simp; omega) ?_ ?_)⟩
        · intro v hv2
          simp at hv2
          obtain ⟨j, hj, rfl⟩ := hv2
          have := (b6 i x' (off + j) (x'.cells[off + j]'(by omega)) _ hx' (by simp) (hv j hj)).2
          simpa [Array.getD_eq_getD_getElem?] using this
        · intro j p v hi2 hv2
          simp [List.getElem?_take] at hi2 hv2
          obtain ⟨hlt2, hi2⟩ := hi2
          obtain ⟨i', h0, rfl⟩ := hv2
          obtain ⟨h0, rfl⟩ := List.getElem?_eq_some_iff.1 h0
          rw [List.getElem_range]
          have := (b6 i x' (off + j) p _ hx' hi2 (hv j hlt2)).1
          simpa [Array.getD_eq_getD_getElem?] using this

/-- An element with some cells in the place of others. -/
def setCells (x : GV) (off : Nat) (cs : List GV) : GV :=
  match x with
  | .agg ds => .agg (ds.take off ++ cs ++ ds.drop (off + cs.length))
  | _ => match cs with | [g] => g | _ => x
theorem setCells_cells {x : GV} {off : Nat} {cs : List GV} (h : off + cs.length ≤ x.cells.length) (hpos : 0 < cs.length) (h1 : ∀ g ∈ cs, g.cells = [g]) : (setCells x off cs).cells = x.cells.take off ++ cs ++ x.cells.drop (off + cs.length) := by
  have one : ∀ y : GV, y.cells = [y] → off + cs.length ≤ y.cells.length → ∃ g, cs = [g] ∧ off = 0 := by
    intro y hy hl
    rw [hy] at hl
    simp at hl
    match cs, hpos, hl with
    | [g], _, hl => exact ⟨g, rfl, by simp at hl; omega⟩
    | g :: g' :: r, _, hl => simp at hl; omega
  cases x with
  | agg ds => rfl
  | _ => obtain ⟨g, rfl, rfl⟩ := one _ rfl h; simp [setCells, GV.cells]; exact h1 g (by simp)

theorem setCells_len {x : GV} {off : Nat} {cs : List GV} (h : off + cs.length ≤ x.cells.length) (hpos : 0 < cs.length) (h1 : ∀ g ∈ cs, g.cells = [g]) : (setCells x off cs).cells.length = x.cells.length := by
  rw [setCells_cells h hpos h1]
  simp
  omega

/-- An element's cells, written. -/
theorem PO_store_mref {t : TypeId} {x y : Operand} {id n i off m : Nat} {e : TypeId} {es : List GV} {x' : GV} {ps : List PV} {cs : List GV} (ho : o.op = .store t x y) (hs : szB P t = some m) (hp : ρ x = .mref id n i off) (hc : pvCells (ρ y) = some ps) (hg : allG ps = some cs) (hn : cs.length = m) (hpos : 0 < m)
    (hm : H.mu[id]? = some (.arr n e es)) (hx' : es[i]? = some x') (hfit : off + m ≤ x'.cells.length) :
    PO P o ρ H undefP ⟨H.bx, H.tk, H.mu.set id (.arr n e (es.set i (setCells x' off cs)))⟩ := by
  intro c ρr hr hx
  have hx1 := hx x (by simp [ho, Op.operands])
  have hy1 := hx y (by simp [ho, Op.operands])
  rw [hp] at hx1
  generalize hrx : ρr x = u at hx1
  obtain ⟨f1, f2⟩ := pvCells_ok hy1 hc
  obtain ⟨g1, g2⟩ := allG_ok (c := c) hg
  have hval : ∀ (j : Nat) (g : GV) (v : Value), cs[j]? = some g → (ρr y).cells[j]? = some v → RG c.w c.stab g v ∧ v.oneCell' = true := by
    intro j g v hj hv
    have hlt : j < ps.length := by rw [← g1]; exact (List.getElem?_eq_some_iff.1 hj).1
    obtain ⟨r1, r2⟩ := f2 j ps[j] v (List.getElem?_eq_getElem hlt) hv
    exact ⟨g2 j g ps[j] hj (List.getElem?_eq_getElem hlt) v r1, r2⟩
  have hcsz : (ρr y).cells.size = m := by rw [← f1, ← g1, hn]
  have hone : ∀ g ∈ cs, g.cells = [g] := by
    intro g hgm
    obtain ⟨j, hj⟩ := List.getElem?_of_mem hgm
    have hlt : j < (ρr y).cells.size := by rw [hcsz, ← hn]; exact (List.getElem?_eq_some_iff.1 hj).1
    obtain ⟨r1, r2⟩ := hval j g _ hj (Array.getElem?_eq_getElem hlt)
    exact r1.cells_one r2
  cases hx1 with
  | mref _ _ _ _ a t' ht' hgn hsp hv' =>
    obtain ⟨a1, a2, a3, a4⟩ := hr.mu id t' _ ht' hm
    rcases a4 with ⟨_, rfl⟩ | ⟨lv, cur, b1, b2, b3, b4, b5, b6⟩
    · simp at hx'
    · have hi := (List.getElem?_eq_some_iff.1 hx').1
      have hcl := b5 x' (List.mem_of_getElem? hx')
      have hend : i * t'.size + t'.size ≤ cur.size := by
        have h1 : (i + 1) * t'.size ≤ t'.cap * t'.size := Nat.mul_le_mul_right _ (by omega)
        rw [Nat.add_mul, Nat.one_mul] at h1
        omega
      have hone' : ∀ v ∈ (ρr y).cells.toList, v.oneCell' = true := by
        intro v hv
        obtain ⟨j, hj, rfl⟩ := List.mem_iff_getElem.1 hv
        have hj' : j < cs.length := by rw [hn, ← hcsz]; simpa using hj
        exact (hval j cs[j] _ (List.getElem?_eq_getElem hj') (by simp)).2
      have hst := run_storeCells_at P t'.g (i * t'.size + off) e (ρr y).cells.toList 0 cur c.w b1 (by simp <;> omega) hone'
      simp only [Nat.add_zero] at hst
      have hrun : (execOp ρr o).run P c.w = .ok .skip (c.w.setRow t'.g (cur.toList.take (i * t'.size + off) ++ (ρr y).cells.toList ++ cur.toList.drop (i * t'.size + off + (ρr y).cells.size)).toArray) := by
        rw [Array.length_toList] at hst
        rw [hcsz] at hst ⊢
        simp [execOp, ho, hrx, Instr.storeAt, Instr.sureAddr, storeVar, run_sizeOf hs, hcsz, hv' a1.symm, hst]
      unfold OpGoes
      rw [hrun]
      generalize hnew : (cur.toList.take (i * t'.size + off) ++ (ρr y).cells.toList ++ cur.toList.drop (i * t'.size + off + (ρr y).cells.size)).toArray = new
      have hnsz : new.size = cur.size := by rw [← hnew]; simp [hcsz]; omega
      have hread : ∀ k v, new[k]? = some v → (k < i * t'.size + off ∧ cur[k]? = some v) ∨ (i * t'.size + off ≤ k ∧ k < i * t'.size + off + m ∧ (ρr y).cells[k - (i * t'.size + off)]? = some v) ∨ (i * t'.size + off + m ≤ k ∧ cur[k]? = some v) := by
        intro k v hk
        rw [← hnew] at hk
        simp only [List.getElem?_toArray] at hk
        by_cases h1 : k < i * t'.size + off
        · rw [List.append_assoc, List.getElem?_append_left (by simp; omega)] at hk
          simp only [List.getElem?_take, h1, if_true] at hk
          exact .inl ⟨h1, by simpa using hk⟩
        · by_cases h2 : k < i * t'.size + off + m
          · rw [List.append_assoc, List.getElem?_append_right (by simp; omega), List.getElem?_append_left (by simp [hcsz]; omega)] at hk
            have l2 : (cur.toList.take (i * t'.size + off)).length = i * t'.size + off := by simp; omega
            rw [l2] at hk
            exact .inr (.inl ⟨by omega, h2, by simpa using hk⟩)
          · rw [List.getElem?_append_right (by simp [hcsz]; omega)] at hk
            have l2 : (cur.toList.take (i * t'.size + off) ++ (ρr y).cells.toList).length = i * t'.size + off + m := by simp [hcsz]; omega
            rw [l2, List.getElem?_drop, hcsz] at hk
            have e : i * t'.size + off + m + (k - (i * t'.size + off + m)) = k := by omega
            rw [e] at hk
            exact .inr (.inr ⟨by omega, by simpa using hk⟩)
      have := hr.setMu ht' (t' := t') (o' := .arr n e (es.set i (setCells x' off cs))) rfl (.inl rfl) (w' := c.w.setRow t'.g new) rfl rfl rfl (by simp) (fun b hb h => setRow_other c.w t'.g b _ (h lv)) (fun _ => .inl ⟨lv, rfl⟩) (fun hE => ?_)
      · exact ⟨_, rfl, this.1, this.2, .g _ _ (.raw _)⟩
      · have hpos' : 0 < cs.length := by omega
        have hfit' : off + cs.length ≤ x'.cells.length := by omega
        refine ⟨a1, by rw [List.length_set]; exact a2, a3, .inr ⟨lv, new, setRow_heap c.w t'.g cur new e (0, 0) b1, by rw [hnsz]; exact b2, by rw [List.length_set]; exact b3, b4, ?_, ?_⟩⟩
        · intro z hz
          rcases List.mem_or_eq_of_mem_set hz with h | rfl
          · exact b5 z h
          · rw [setCells_len hfit' hpos' hone]; exact hcl
        · intro i2 x2 j g v hx2 hg2 hv2
          by_cases hij : i2 = i
          · subst hij
            rw [List.getElem?_set_self hi] at hx2
            cases hx2
            rw [setCells_cells hfit' hpos' hone] at hg2
            have hj := (List.getElem?_eq_some_iff.1 hg2).1
            rcases hread _ v hv2 with ⟨k1, k2⟩ | ⟨k1, k2, k3⟩ | ⟨k1, k2⟩
            · rw [List.append_assoc, List.getElem?_append_left (by simp; omega)] at hg2
              simp only [List.getElem?_take] at hg2
              rw [if_pos (by omega)] at hg2
              exact ⟨(b6 i2 x' j g v hx' hg2 k2).1.mono hE.keep, (b6 i2 x' j g v hx' hg2 k2).2⟩
            · rw [List.append_assoc, List.getElem?_append_right (by simp; omega), List.getElem?_append_left (by simp; omega)] at hg2
              have l1 : (x'.cells.take off).length = off := by simp; omega
              rw [l1] at hg2
              rw [show i2 * t'.size + j - (i2 * t'.size + off) = j - off by omega] at k3
              exact ⟨(hval _ g v hg2 k3).1.mono hE.keep, (hval _ g v hg2 k3).2⟩
            · rw [List.getElem?_append_right (by simp; omega)] at hg2
              have l1 : (x'.cells.take off ++ cs).length = off + cs.length := by simp; omega
              rw [l1, List.getElem?_drop, show off + cs.length + (j - (off + cs.length)) = j by omega] at hg2
              exact ⟨(b6 i2 x' j g v hx' hg2 k2).1.mono hE.keep, (b6 i2 x' j g v hx' hg2 k2).2⟩
          · rw [List.getElem?_set_ne (fun h => hij h.symm)] at hx2
            have hj := (List.getElem?_eq_some_iff.1 hg2).1
            rw [b5 x2 (List.mem_of_getElem? hx2)] at hj
            have hcur : cur[i2 * t'.size + j]? = some v := by
              rcases hread _ v hv2 with ⟨_, k2⟩ | ⟨k1, k2, _⟩ | ⟨_, k2⟩
              · exact k2
              · exfalso
                rcases Nat.lt_or_gt_of_ne hij with h | h
                · have : (i2 + 1) * t'.size ≤ i * t'.size := Nat.mul_le_mul_right _ h
                  rw [Nat.add_mul, Nat.one_mul] at this
                  omega
                · have : (i + 1) * t'.size ≤ i2 * t'.size := Nat.mul_le_mul_right _ h
                  rw [Nat.add_mul, Nat.one_mul] at this
                  omega
              · exact k2
            exact ⟨(b6 i2 x2 j g v hx2 hg2 hcur).1.mono hE.keep, (b6 i2 x2 j g v hx2 hg2 hcur).2⟩

theorem PO_mlen {x : Operand} {t e e' : TypeId} {id n : Nat} {es : List GV} (ho : o.op = .call { callee := .builtin .len, args := #[x], argTypes := #[t] }) (ht : P.underlying t = some (.slice e)) (hx' : ρ x = .mar id n) (hm : H.mu[id]? = some (.arr n e' es)) :
    PO P o ρ H (.g (.int .i64 es.length)) H :=
  PO_val fun c ρr hr hx => by
    have h1 := hx x (by simp [ho, Op.operands, Call.operands])
    rw [hx'] at h1
    generalize hv : ρr x = v at h1
    cases h1 with
    | mar _ _ _ t' ht' hn h1' hv' =>
      obtain ⟨a1, a2, a3, a4⟩ := hr.mu id t' _ ht' hm
      refine ⟨.int .i64 es.length, ?_, .g _ _ (.int _ _)⟩
      rcases hv' a1.symm with ⟨lv, rfl⟩ | ⟨lv, rfl⟩
      · rw [← a2]
        simp [execOp, ho, resolve, invoke, builtin, hv, Builtin.len_, run_underlying ht, goInt]
      · rcases a4 with ⟨_, rfl⟩ | ⟨lv', _⟩
        · simp [execOp, ho, resolve, invoke, builtin, hv, Builtin.len_, run_underlying ht, goInt]
        · rw [lv] at lv'; cases lv'
end
end Go.Pure

/- A generic layer: arrays that may be written: given up, marked, appended to. -/
namespace Go.Pure
open Go

mutual
/-- An array that is given up reads as its elements for good. -/
def frz (id n : Nat) (es : List GV) : PV → PV
  | .mar id' n' => bif Nat.beq id' id && Nat.beq n' n then .g (.sl es) else .mar id' n'
  | .clo f a b => .clo f (frzL id n es a) (frzL id n es b)
  | .agg cs => .agg (frzL id n es cs)
  | .tuple cs => .tuple (frzL id n es cs)
  | .g x => .g x
  | .own es' id' => .own es' id'
  | .ptr b off => .ptr b off
  | .nilp => .nilp
  | .nils => .nils
  | .pat cs => .pat cs
  | .lit es' => .lit es'
  | .mref a b c d => .mref a b c d
  | .mp a => .mp a
  | .any => .any
def frzL (id n : Nat) (es : List GV) : List PV → List PV
  | [] => []
  | p :: r => frz id n es p :: frzL id n es r
end
theorem frzL_eq (id n : Nat) (es : List GV) : ∀ l, frzL id n es l = l.map (frz id n es)
  | [] => by simp [frzL]
  | p :: r => by simp [frzL, frzL_eq id n es r]
def frzB (id n : Nat) (es : List GV) : List (List PV) → List (List PV)
  | [] => []
  | l :: r => frzL id n es l :: frzB id n es r
theorem frzB_eq (id n : Nat) (es : List GV) : ∀ l, frzB id n es l = l.map (·.map (frz id n es))
  | [] => rfl
  | p :: r => by simp [frzB, frzL_eq, frzB_eq id n es r]

section
variable {P : Program} {c : Ctx} {H : PH}

theorem RV_frz {c c' : Ctx} (hE : Evo c c') {id n : Nat} {es : List GV} (hread : ∀ v, RV c (.mar id n) v → RG c'.w c'.stab (.sl es) v) {p : PV} {v : Value} (h : RV c p v) : RV c' (frz id n es p) v := by
  induction h with
  | mar id' n' v t ht hn h1 hv =>
    simp only [frz]
    cases hb : (Nat.beq id' id && Nat.beq n' n) with
    | true =>
      rw [cond_true]
      simp only [Bool.and_eq_true] at hb
      have e1 := Nat.eq_of_beq_eq_true hb.1
      have e2 := Nat.eq_of_beq_eq_true hb.2
      subst e1; subst e2
      exact .g _ _ (hread v (.mar _ _ v t ht hn h1 hv))
    | false => rw [cond_false]; exact (RV.mar id' n' v t ht hn h1 hv).mono hE
  | g x v h => simp only [frz]; exact (RV.g x v h).mono hE
  | own es id v t h ht hs hl hv => simp only [frz]; exact (RV.own es id v t h ht hs hl hv).mono hE
  | ptr b off blk h => simp only [frz]; exact (RV.ptr b off blk h).mono hE
  | nilp => simp only [frz]; exact .nilp
  | nils => simp only [frz]; exact .nils
  | pat cs a f ha hf h => simp only [frz]; exact (RV.pat cs a f ha hf h).mono hE
  | clo fn ps qs us vs hp hq _ _ h1 h2 =>
    simp only [frz, frzL_eq]
    refine .clo fn _ _ us vs (by simpa using hp) (by simpa using hq) (fun i p v hp' hv => ?_) (fun i p v hp' hv => ?_)
    · simp only [List.getElem?_map, Option.map_eq_some_iff] at hp'
      obtain ⟨q, hq', rfl⟩ := hp'
      exact h1 i q v hq' hv
    · simp only [List.getElem?_map, Option.map_eq_some_iff] at hp'
      obtain ⟨q, hq', rfl⟩ := hp'
      exact h2 i q v hq' hv
  | agg cs vs hl h1 _ ih =>
    simp only [frz, frzL_eq]
    refine .agg _ vs (by simpa using hl) h1 fun i p v hp' hv => ?_
    simp only [List.getElem?_map, Option.map_eq_some_iff] at hp'
    obtain ⟨q, hq', rfl⟩ := hp'
    exact ih i q v hq' hv
  | tuple cs vs hl _ ih =>
    simp only [frz, frzL_eq]
    refine .tuple _ vs (by simpa using hl) fun i p v hp' hv => ?_
    simp only [List.getElem?_map, Option.map_eq_some_iff] at hp'
    obtain ⟨q, hq', rfl⟩ := hp'
    exact ih i q v hq' hv
  | lit es a h => simp only [frz]; exact (RV.lit es a h).mono hE
  | mref id n i off a t ht hn h1 hv => simp only [frz]; exact (RV.mref id n i off a t ht hn h1 hv).mono hE
  | mp id v t ht h1 hv => simp only [frz]; exact (RV.mp id v t ht h1 hv).mono hE
  | any v => simp only [frz]; exact .any v

/-- Nobody will write this array any more. -/
theorem Rel.freeze (hr : Rel P c H) {id n : Nat} {e : TypeId} {es : List GV} (hm : H.mu[id]? = some (.arr n e es)) :
    ∃ c', c'.w = c.w ∧ Rel P c' ⟨frzB id n es H.bx, H.tk, H.mu.set id (.gone (n + 1))⟩ ∧ Evo c c' ∧ ∀ p v, RV c p v → RV c' (frz id n es p) v := by
  have hid : id < c.μ.length := by rw [hr.mlen]; exact (List.getElem?_eq_some_iff.1 hm).1
  have ht := List.getElem?_eq_getElem hid
  generalize c.μ[id] = t at ht
  have hmk := hr.mu id t _ ht hm
  obtain ⟨a1, a2, a3, a4⟩ := hmk
  obtain ⟨r1, r2⟩ := hr.setMu ht (t' := { t with live := false, gen := n + 1 }) (o' := .gone (n + 1)) rfl (.inr (by dsimp only; omega)) (w' := c.w) rfl rfl rfl (Nat.le_refl _) (fun _ _ _ => rfl) (fun h => by cases h) (fun _ => ⟨rfl, rfl⟩)
  refine ⟨⟨c.σ, c.τ, c.μ.set id { t with live := false, gen := n + 1 }, c.hid, c.w⟩, rfl, ?_, r2, ?_⟩
  all_goals
    have hread : ∀ v, RV c (.mar id n) v → RG c.w (Ctx.stab ⟨c.σ, c.τ, c.μ.set id { t with live := false, gen := n + 1 }, c.hid, c.w⟩) (.sl es) v := by
      intro v hv
      cases hv with
      | mar _ _ _ t2 ht2 hn h1 hv =>
        rw [ht] at ht2
        cases ht2
        rcases hv a1.symm with ⟨lv, rfl⟩ | ⟨lv, rfl⟩
        · refine MOk.reads (hr.mu id t _ ht hm) lv (fun _ => rfl) (fun p _ => ?_) r2.keep
          have htm := List.mem_of_getElem? ht
          refine ⟨fun h => hr.mhid t htm lv p h, fun h => hr.ms t htm lv h, fun t3 h3 lv3 e3 => absurd e3.symm (hr.mt t htm lv t3 h3 lv3), fun t3 h3 lv3 e3 => ?_⟩
          obtain ⟨k, hk⟩ := List.getElem?_of_mem h3
          replace hk : (c.μ.set id { t with live := false, gen := n + 1 })[k]? = some t3 := hk
          by_cases ek : k = id
          · subst ek
            rw [List.getElem?_set_self hid] at hk
            cases hk
            cases lv3
          · rw [List.getElem?_set_ne (fun h => ek h.symm)] at hk
            exact ek (hr.md k id t3 t hk ht lv3 lv e3)
        · rcases a4 with ⟨_, rfl⟩ | ⟨lv', _⟩
          · exact .nil
          · rw [lv] at lv'; cases lv'
  · refine { r1 with len := by rw [frzB_eq]; simpa using r1.len, bx := ?_ }
    intro i b cs hb hcs
    rw [frzB_eq] at hcs
    simp only [List.getElem?_map, Option.map_eq_some_iff] at hcs
    obtain ⟨ds, hds, rfl⟩ := hcs
    obtain ⟨vals, T, e1, e2, e3⟩ := hr.bx i b ds hb hds
    refine ⟨vals, T, e1, by simpa using e2, fun j p v hp hv => ?_⟩
    simp only [List.getElem?_map, Option.map_eq_some_iff] at hp
    obtain ⟨q, hq, rfl⟩ := hp
    exact ⟨RV_frz r2 hread (e3 j q v hq hv).1, (e3 j q v hq hv).2⟩
  · exact fun p v h => RV_frz r2 hread h
end

section
variable {P : Program} {N : Nat} {Q : Exit → Env → PH → Prop} {env : Env} {H : PH}
theorem PW_freeze {code : Code} (id : Nat) {n : Nat} {e : TypeId} {es : List GV} (hm : H.mu[id]? = some (.arr n e es)) (h : PW P N code Q (fun t => frz id n es (env t)) ⟨frzB id n es H.bx, H.tk, H.mu.set id (.gone (n + 1))⟩) : PW P N code Q env H := by
  intro c a hr he
  obtain ⟨c', hw, r1, e1, r2⟩ := hr.freeze hm
  have := h c' a r1 ⟨he.defers, he.size, fun t => r2 _ _ (he.slot t)⟩
  rw [hw] at this
  refine wp_mono this ?_
  rintro x a' w' ⟨c2, env', H', q, rfl, hr', hE', he'⟩
  exact ⟨c2, env', H', q, rfl, hr', e1.trans hE', he'⟩
end

section
variable {P : Program} {o : Oper} {ρ : Operand → PV} {H : PH}

theorem run_convert_mark {w : World} {g n cap : Nat} {t e : TypeId} {C : Array Value} (hg : w.heap[g]? = some (.cells C e (0, 0))) (ht : P.underlying t = some (.slice e)) (he : P.underlying e = some (.int .u8)) :
    (convert t t (.slice (some ⟨g, 0, none⟩) n cap)).run P w = .ok (.slice (some ⟨g, 0, none⟩) n cap) (w.freeze ⟨g, C.size, none⟩ 1) := by
  have hsh : w.shape? g = some (e, C.size) := by unfold World.shape?; rw [hg]
  simp [convert, run_underlying ht, run_underlying he, markStringish, hsh]
theorem freeze_other (w : World) (g k b : Nat) (h : b ≠ g) : (w.freeze ⟨g, k, none⟩ 1).heap[b]? = w.heap[b]? := by
  simp [World.freeze, Array.getElem?_modify, Ne.symm h]
theorem freeze_cell (w : World) (g k : Nat) (a : Addr) : (w.freeze ⟨g, k, none⟩ 1).cell? a = w.cell? a := by
  by_cases h : a.block = g
  · unfold World.cell? World.freeze
    rw [if_neg (by decide)]
    simp only [Array.getElem?_modify]
    subst h
    simp only [if_true]
    cases w.heap[a.block]? with
    | none => rfl
    | some o => cases o <;> rfl
  · exact World.cell?_of_block (freeze_other w g k a.block h)

/-- '[]byte("..")' of a constant: the array is marked, and isn't written any more. -/
theorem PO_conv_mark {t e : TypeId} {x : Operand} {id n : Nat} {es : List GV} (ho : o.op = .convert t t x) (ht : P.underlying t = some (.slice e)) (he : intB P e = some .u8) (hx' : ρ x = .mar id n) (hm : H.mu[id]? = some (.arr n e es)) (hne : Nat.ble 1 es.length = true) :
    PO P o ρ H (.g (.sl es)) ⟨H.bx, H.tk, H.mu.set id (.gone (n + 1))⟩ := by
  intro c ρr hr hx
  have h1 := hx x (by simp [ho, Op.operands])
  rw [hx'] at h1
  generalize hv : ρr x = v at h1
  cases h1 with
  | mar _ _ _ t' ht' hn h1' hv' =>
    have hmk := hr.mu id t' _ ht' hm
    obtain ⟨a1, a2, a3, a4⟩ := hmk
    rcases a4 with ⟨_, rfl⟩ | ⟨lv, cur, b1, b2, b3, b4, b5, b6⟩
    · cases hne
    · rcases hv' a1.symm with ⟨_, rfl⟩ | ⟨lv', _⟩
      · have hrun : (execOp ρr o).run P c.w = .ok (.value (.slice (some ⟨t'.g, 0, none⟩) t'.len t'.cap)) (c.w.freeze ⟨t'.g, cur.size, none⟩ 1) := by
          have := run_convert_mark (n := t'.len) (cap := t'.cap) b1 ht (intB_ok he)
          simp [execOp, ho, hv, this]
        unfold OpGoes
        rw [hrun]
        have htm := List.mem_of_getElem? ht'
        have hid := (List.getElem?_eq_some_iff.1 ht').1
        obtain ⟨r1, r2⟩ := hr.setMu ht' (t' := { t' with live := false, gen := n + 1 }) (o' := .gone (n + 1)) rfl (.inr (by dsimp only; omega)) (w' := c.w.freeze ⟨t'.g, cur.size, none⟩ 1) rfl rfl rfl (by simp [World.freeze]) (fun b hb h => freeze_other c.w t'.g _ b (h lv)) (fun h => by cases h) (fun _ => ⟨rfl, rfl⟩)
        refine ⟨_, rfl, r1, r2, .g _ _ (MOk.reads (hr.mu id t' _ ht' hm) lv (fun k => freeze_cell _ _ _ _) (fun p _ => ?_) r2.keep)⟩
        refine ⟨fun h => hr.mhid t' htm lv p h, fun h => hr.ms t' htm lv h, fun t3 h3 lv3 e3 => absurd e3.symm (hr.mt t' htm lv t3 h3 lv3), fun t3 h3 lv3 e3 => ?_⟩
        obtain ⟨k, hk⟩ := List.getElem?_of_mem h3
        replace hk : (c.μ.set id { t' with live := false, gen := n + 1 })[k]? = some t3 := hk
        by_cases ek : k = id
        · subst ek
          rw [List.getElem?_set_self hid] at hk
          cases hk
          cases lv3
        · rw [List.getElem?_set_ne (fun h => ek h.symm)] at hk
          exact ek (hr.md k id t3 t' hk ht' lv3 lv e3)
      · rw [lv] at lv'; cases lv'
end
end Go.Pure

/- A generic layer: arrays that may be written: appended to. -/
namespace Go.Pure
open Go

section
variable {P : Program} {o : Oper} {ρ : Operand → PV} {H : PH}

theorem set_same {α : Type} {l : List α} {i : Nat} {x : α} (h : l[i]? = some x) : l.set i x = l := by
  refine List.ext_getElem? fun k => ?_
  by_cases ek : k = i
  · subst ek; rw [h, List.getElem?_set_self (List.getElem?_eq_some_iff.1 h).1]
  · rw [List.getElem?_set_ne (fun e' => ek e'.symm)]

theorem PO_mappend {x y : Operand} {t e : TypeId} {es xs : List GV} {id n size bytes : Nat} {z : Value} (ho : o.op = .call { callee := .builtin .append, args := ⟨[x, y]⟩, argTypes := ⟨[t, t]⟩ })
    (ht : P.underlying t = some (.slice e)) (hs : szB P e = some size) (hby : bytesB P e = some bytes) (hz : zeroB P e = some z) (hzs : Nat.beq z.cells.size size = true) (hx : ρ x = .mar id n) (hy : elems (ρ y) = some xs)
    (hm : H.mu[id]? = some (.arr n e es)) (hxs : ∀ x ∈ xs, x.cells.length = size) (hfit : (es.length + xs.length) * bytes ≤ 140737488355328) (hmax : es.length + xs.length ≤ maxLen) :
    PO P o ρ H (.mar id (n + xs.length)) ⟨H.bx, H.tk, H.mu.set id (.arr (n + xs.length) e (es ++ xs))⟩ := by
  intro c ρr hr hxx
  have hx1 := hxx x (by simp [ho, Op.operands, Call.operands])
  have hy1 := elems_ok (hxx y (by simp [ho, Op.operands, Call.operands])) hy
  rw [hx] at hx1
  have hzs := Nat.eq_of_beq_eq_true hzs
  obtain ⟨i, hi⟩ : ∃ i, P.info? e = some i := by
    unfold szB at hs
    cases h : P.info? e with
    | none => rw [h] at hs; cases hs
    | some i => exact ⟨i, rfl⟩
  have hisz : i.size = size := by unfold szB at hs; rw [hi] at hs; simpa using hs
  have hiby : i.bytes = bytes := by unfold bytesB at hby; rw [hi] at hby; simpa using hby
  have hiz : i.zero = some z := by
    unfold zeroB at hz; rw [hi] at hz; simpa using hz
  subst hisz; subst hiby
  generalize hvx : ρr x = v at hx1
  generalize hvy : ρr y = u at hy1
  have hop : (execOp ρr o).run P c.w = ((Builtin.append_ #[t, t] o.type #[v, u]).run P c.w).andThen fun r w => .ok (.value r) w := by
    simp [execOp, ho, resolve, invoke, builtin, hvx, hvy]
  unfold OpGoes
  rw [hop]
  cases hx1 with
  | mar _ _ _ tk htk hn h1' hv =>
  have hmk := hr.mu id tk _ htk hm
  obtain ⟨a1, a2, a3, a4⟩ := hmk
  have hid := (List.getElem?_eq_some_iff.1 htk).1
  have htm := List.mem_of_getElem? htk
  have hsame : tk.size = i.size := by rw [hi] at a3; simpa using a3.symm
  by_cases hne : xs = []
  · subst hne
    have hu : u = .slice none 0 0 ∨ ∃ a c', u = .slice (some a) 0 c' := by
      cases hy1 with
      | nil => exact .inl rfl
      | sl _ a cap => exact .inr ⟨a, cap, rfl⟩
    have hrun : (Builtin.append_ #[t, t] o.type #[v, u]).run P c.w = .ok v c.w := by
      rcases hv a1.symm with ⟨lv, rfl⟩ | ⟨_, rfl⟩
      · rcases a4 with ⟨lv', _⟩ | ⟨_, cur, b1, b2, b3, b4, b5, b6⟩
        · rw [lv] at lv'; cases lv'
        · exact run_append_zero c.w ht hi _ _ _ (by rw [a2]; exact b3) (.inr ⟨_, rfl⟩) u hu
      · exact run_append_zero c.w ht hi none 0 0 (Nat.le_refl _) (.inl rfl) u hu
    rw [hrun]
    refine ⟨c, rfl, ?_, Evo.refl c, .mar id _ v tk htk hn h1' hv⟩
    rw [List.append_nil]
    show Rel P c ⟨H.bx, H.tk, H.mu.set id (.arr n e es)⟩
    rw [set_same hm]
    exact hr
  · obtain ⟨a, m, news, rfl, ln, hnews, hn1, hnrg⟩ := slice_cells hy1 hxs hne
    have hpos : 0 < xs.length := List.length_pos_iff.2 hne
    have fin : ∀ (w' : World) (t' : MTok) (olds rest : List Value) (cur : Array Value),
        t'.size = i.size → t'.gen = n + xs.length → t'.len = es.length + xs.length → t'.live = true → w'.os = c.w.os → w'.tape = c.w.tape → w'.output = c.w.output → c.w.heap.size ≤ w'.heap.size →
        (∀ b, b < c.w.heap.size → (tk.live = true → b ≠ tk.g) → w'.heap[b]? = c.w.heap[b]?) → ((tk.live = true ∧ t'.g = tk.g) ∨ (c.w.heap.size ≤ t'.g ∧ t'.g < w'.heap.size)) →
        w'.heap[t'.g]? = some (.cells cur e (0, 0)) → cur = (olds ++ news ++ rest).toArray → cur.size = t'.cap * i.size → t'.cap ≤ maxLen → es.length + xs.length ≤ t'.cap → olds.length = es.length * i.size → (∀ x ∈ es, x.cells.length = i.size) →
        (∀ (k : Nat) (x : GV) (j : Nat) (g : GV) (v : Value), es[k]? = some x → x.cells[j]? = some g → olds[k * i.size + j]? = some v → RG c.w c.stab g v ∧ v.oneCell' = true) →
        ∃ c' : Ctx, c'.w = w' ∧ Rel P c' ⟨H.bx, H.tk, H.mu.set id (.arr (n + xs.length) e (es ++ xs))⟩ ∧ Evo c c' ∧ RV c' (.mar id (n + xs.length)) (.slice (some ⟨t'.g, 0, none⟩) (es.length + xs.length) t'.cap) := by
      intro w' t' olds rest cur e2 e3 e4 e5 o1 o2 o3 o4 o5 o7 hh hcur hcs hcm hcap lo hes horg
      obtain ⟨g1, g2⟩ := hr.setMu htk (t' := t') (o' := .arr (n + xs.length) e (es ++ xs)) (by rw [e2, hsame]) (.inr (by omega)) o1 o2 o3 o4 o5 (fun _ => o7) (fun hE => by
        refine ⟨e3, by rw [e4]; simp, by rw [e2, hi]; rfl, .inr ⟨e5, cur, hh, by rw [e2]; exact hcs, by simpa using hcap, hcm, ?_, ?_⟩⟩
        · intro x hx
          rw [e2]
          rcases List.mem_append.1 hx with h | h
          · exact hes x h
          · exact hxs x h
        · intro k x j g v hx hg hv'
          rw [e2, hcur] at hv'
          simp only [List.getElem?_toArray] at hv'
          have hjl := (List.getElem?_eq_some_iff.1 hg).1
          by_cases hk : k < es.length
          · rw [List.getElem?_append_left hk] at hx
            rw [hes x (List.mem_of_getElem? hx)] at hjl
            have hlt : k * i.size + j < olds.length := by
              have h1 : (k + 1) * i.size ≤ es.length * i.size := Nat.mul_le_mul_right _ hk
              rw [Nat.add_mul, Nat.one_mul] at h1
              omega
            rw [List.append_assoc, List.getElem?_append_left hlt] at hv'
            exact ⟨(horg k x j g v hx hg hv').1.mono hE.keep, (horg k x j g v hx hg hv').2⟩
          · rw [List.getElem?_append_right (by omega)] at hx
            have hk2 := (List.getElem?_eq_some_iff.1 hx).1
            rw [hxs x (List.mem_of_getElem? hx)] at hjl
            have hsub : k * i.size = es.length * i.size + (k - es.length) * i.size := by rw [← Nat.add_mul]; congr 1; omega
            have hlt : (k - es.length) * i.size + j < news.length := by
              have h1 : (k - es.length + 1) * i.size ≤ xs.length * i.size := Nat.mul_le_mul_right _ hk2
              rw [Nat.add_mul, Nat.one_mul] at h1
              omega
            rw [List.append_assoc, List.getElem?_append_right (by omega), List.getElem?_append_left (by omega), show k * i.size + j - olds.length = (k - es.length) * i.size + j by omega] at hv'
            exact ⟨(hnrg (k - es.length) x j g v hx hg hv').mono hE.keep, hn1 v (List.mem_of_getElem? hv')⟩)
      refine ⟨_, rfl, g1, g2, .mar id _ _ t' (List.getElem?_set_self hid) (by omega) rfl (fun _ => .inl ⟨e5, by rw [e4]⟩)⟩
    rcases hv a1.symm with ⟨lv, rfl⟩ | ⟨lv, rfl⟩
    · rcases a4 with ⟨lv', _⟩ | ⟨_, cur, b1, b2, b3, b4, b5, b6⟩
      · rw [lv] at lv'; cases lv'
      · rw [a2]
        rw [hsame] at b2 b5
        have hle : es.length * i.size ≤ cur.size := by rw [b2]; exact Nat.mul_le_mul_right _ b3
        have lo : (cur.toList.take (es.length * i.size)).length = es.length * i.size := by simp; omega
        have horg : ∀ (k : Nat) (x : GV) (j : Nat) (g : GV) (v : Value), es[k]? = some x → x.cells[j]? = some g → (cur.toList.take (es.length * i.size))[k * i.size + j]? = some v → RG c.w c.stab g v ∧ v.oneCell' = true := by
          intro k x j g v hx hg hv'
          rw [List.getElem?_take] at hv'
          split at hv'
          · have := b6 k x j g v hx hg (by rw [hsame]; simpa using hv')
            exact this
          · cases hv'
        by_cases hroom : es.length + xs.length ≤ tk.cap
        · have hfit' : es.length * i.size + news.length ≤ cur.size := by
            rw [ln, b2, ← Nat.add_mul]; exact Nat.mul_le_mul_right _ hroom
          rw [run_append_room c.w t o.type e i ht hi tk.g es.length tk.cap cur b1 a xs.length m news ln hnews hn1 hroom hfit']
          have := fin (c.w.setRow tk.g (cur.toList.take (es.length * i.size) ++ news ++ cur.toList.drop (es.length * i.size + news.length)).toArray) { tk with gen := n + xs.length, len := es.length + xs.length } (cur.toList.take (es.length * i.size)) (cur.toList.drop (es.length * i.size + news.length)) _ hsame rfl rfl lv rfl rfl rfl (by simp) (fun b hb h => setRow_other c.w tk.g b _ (h lv)) (.inl ⟨lv, rfl⟩) (setRow_heap c.w tk.g cur _ e (0, 0) b1) rfl ?_ b4 hroom lo b5 horg
          · exact this
          · simp only [List.size_toArray, List.length_append, lo, List.length_drop, Array.length_toList]
            rw [b2] at hfit' ⊢
            show _ = tk.cap * i.size
            omega
        · have hg : tk.cap < es.length + xs.length := by omega
          have h63 : ((es.length + xs.length : Nat) : Int) ≤ 9223372036854775807 := by simp only [maxLen] at hmax; omega
          have hocell : ∀ j v, (cur.toList.take (es.length * i.size))[j]? = some v → c.w.cell? ((⟨tk.g, 0, none⟩ : Addr).add j) = some v := by
            intro j v hj
            rw [List.getElem?_take] at hj
            split at hj
            · rw [add_eq _ _ rfl]
              rw [show ((⟨tk.g, 0, none⟩ : Addr).off + j) = j by simp]
              show c.w.cell? ⟨tk.g, j, none⟩ = some v
              rw [cell_of_row c.w tk.g j cur e (0, 0) b1]
              simpa using hj
            · cases hj
          rw [run_append_grow c.w t o.type e i z ht hi hiz ⟨tk.g, 0, none⟩ es.length tk.cap (cur.toList.take (es.length * i.size)) lo hocell a xs.length m news ln hnews hg h63 (growslice_fits hg hfit)]
          have hge := grownCap_ge c.w (es.length + xs.length) tk.cap e
          have := fin (c.w.drew.alloc (.cells ((cur.toList.take (es.length * i.size)).toArray ++ news.toArray ++ Builtin.zeroCells z.cells (grownCap c.w (es.length + xs.length) tk.cap e - (es.length + xs.length))) e)) ⟨true, c.w.heap.size, i.size, n + xs.length, es.length + xs.length, grownCap c.w (es.length + xs.length) tk.cap e⟩ (cur.toList.take (es.length * i.size)) (Builtin.zeroCells z.cells (grownCap c.w (es.length + xs.length) tk.cap e - (es.length + xs.length))).toList _ rfl rfl rfl rfl rfl rfl rfl (by simp) (fun b hb _ => Go.heap_alloc_old c.w.drew _ b hb) (.inr ⟨Nat.le_refl _, by simp⟩) (Go.heap_alloc_new c.w.drew _) (by simp) ?_ (grownCap_le_maxLen _ _ _ _ hmax) hge lo b5 horg
          · exact this
          · simp only [Array.size_append, List.size_toArray, size_zeroCells, hzs, lo, ln]
            rw [← Nat.add_mul, ← Nat.add_mul]
            congr 1
            omega
    · have he0 : es = [] := by
        rcases a4 with ⟨_, h⟩ | ⟨lv', _⟩
        · exact h
        · rw [lv] at lv'; cases lv'
      subst he0
      have h63 : (xs.length : Int) ≤ 9223372036854775807 := by simp only [maxLen, List.length_nil] at hmax; omega
      have hfit' : xs.length * i.bytes ≤ 140737488355328 := by simpa using hfit
      rw [run_append_nil c.w t o.type e i z ht hi hiz a xs.length m news ln hnews hpos h63 (by omega)]
      have hge := grownCap_ge c.w xs.length 0 e
      have := fin (c.w.drew.alloc (.cells (news.toArray ++ Builtin.zeroCells z.cells (grownCap c.w xs.length 0 e - xs.length)) e)) ⟨true, c.w.heap.size, i.size, n + xs.length, xs.length, grownCap c.w xs.length 0 e⟩ [] (Builtin.zeroCells z.cells (grownCap c.w xs.length 0 e - xs.length)).toList _ rfl rfl (by simp) rfl rfl rfl rfl (by simp) (fun b hb _ => Go.heap_alloc_old c.w.drew _ b hb) (.inr ⟨Nat.le_refl _, by simp⟩) (Go.heap_alloc_new c.w.drew _) (by simp) (by
        simp only [Array.size_append, List.size_toArray, size_zeroCells, hzs, ln]
        rw [← Nat.add_mul]
        congr 1
        omega) (grownCap_le_maxLen _ _ _ _ (by simpa using hmax)) (by simpa using hge) (by simp) (by simp) (by simp)
      simpa using this

/-- The same of bytes. -/
theorem PO_mappb {x y : Operand} {t e : TypeId} {b : List UInt8} {xs : List GV} {id n bytes : Nat} {z : Value} (l : List UInt8) (ho : o.op = .call { callee := .builtin .append, args := ⟨[x, y]⟩, argTypes := ⟨[t, t]⟩ })
    (ht : P.underlying t = some (.slice e)) (hs : szB P e = some 1) (hby : bytesB P e = some bytes) (hz : zeroB P e = some z) (hzs : Nat.beq z.cells.size 1 = true) (hx : ρ x = .mar id n) (hy : elems (ρ y) = some xs)
    (hm : H.mu[id]? = some (.arr n e (bys b))) (hxs : xs = bys l) (hfit : (b.length + l.length) * bytes ≤ 140737488355328) (hmax : b.length + l.length ≤ maxLen) :
    PO P o ρ H (.mar id (n + l.length)) ⟨H.bx, H.tk, H.mu.set id (.arr (n + l.length) e (bys (b ++ l)))⟩ := by
  subst hxs
  have h1 : (bys b).length = b.length := by simp [bys]
  have h2 : (bys l).length = l.length := by simp [bys]
  have := PO_mappend (ρ := ρ) (H := H) ho ht hs hby hz hzs hx hy hm (by intro x hx; obtain ⟨v, _, rfl⟩ := List.mem_map.1 hx; rfl) (by rw [h1, h2]; exact hfit) (by rw [h1, h2]; exact hmax)
  rw [h2] at this
  have e : bys b ++ bys l = bys (b ++ l) := by simp [bys]
  rw [e] at this
  exact this
end
end Go.Pure

/- A generic layer: arrays that may be written, in regions that draw their order. -/
namespace Go.Pure
open Go

section
variable {P : Program} {o : Oper} {env : Env} {H : PH} {K : List Nat}

theorem sh_arr {x : Option MO} {n e len : Nat} (h : shM x = some (1, n, e, len)) : ∃ es, x = some (.arr n e es) ∧ es.length = len := by
  unfold shM at h
  split at h
  · cases h
  · cases h
  · cases h; exact ⟨_, rfl, rfl⟩
  · cases h
theorem KSh.set {id n e : Nat} {es es' : List GV} (hm : H.mu[id]? = some (.arr n e es)) (hl : es'.length = es.length) : ∀ K : List Nat, KSh K H ⟨H.bx, H.tk, H.mu.set id (.arr n e es')⟩
  | [] => trivial
  | b :: K => by
    refine ⟨?_, KSh.set hm hl K⟩
    unfold KSo
    cases Nat.ble 30000 b
    · cases Nat.ble 20000 b
      · cases Nat.ble 10000 b
        · trivial
        · simp only [cond_true, cond_false]
          by_cases h : b - 10000 = id
          · rw [h, hm, List.getElem?_set_self (List.getElem?_eq_some_iff.1 hm).1]
            simp [shM, hl]
          · rw [List.getElem?_set_ne (fun e => h e.symm)]
      · rfl
    · trivial
theorem KSh.arr {H1 : PH} (h : KSh K H H1) {id n e len : Nat} (hK : memB K (10000 + id) = true) (hKl : Nat.ble 10000 id = false) (hm : shM H.mu[id]? = some (1, n, e, len)) : ∃ es, H1.mu[id]? = some (.arr n e es) ∧ es.length = len :=
  sh_arr ((h.at id (memB_iff.1 hK) hKl).symm.trans hm)

theorem Cond_mindex {x y : Operand} {t e e' : TypeId} {id n m len : Nat} {k : IntKind} {i : Int} (hK : memB K (10000 + id) = true) (ho : o.op = .indexAddr t x y) (ht : P.underlying t = some (.slice e)) (hs : szB P e = some m) (hx' : env.eval x = .mar id n) (hi : env.eval y = .g (.int k i))
    (hm : shM H.mu[id]? = some (1, n, e', len)) (he : szB P e' = some m) (h0 : 0 ≤ i) (hlt : i < len) (hKl : Nat.ble 10000 id = false := by rfl) : Cond P K o env H (.mref id n i.toNat 0) H :=
  Cond_i (hk := by rw [ho]; rfl) fun H1 hq => by
    obtain ⟨es, h1, h2⟩ := hq.arr hK hKl hm
    exact PO_mindex ho ht hs hx' hi h1 he h0 (by rw [h2]; exact hlt)
theorem Cond_mlen {x : Operand} {t e e' : TypeId} {id n len : Nat} (hK : memB K (10000 + id) = true) (ho : o.op = .call { callee := .builtin .len, args := #[x], argTypes := #[t] }) (ht : P.underlying t = some (.slice e)) (hx' : env.eval x = .mar id n) (hm : shM H.mu[id]? = some (1, n, e', len)) (hKl : Nat.ble 10000 id = false := by rfl) :
    Cond P K o env H (.g (.int .i64 len)) H :=
  Cond_i (hk := by rw [ho]; rfl) fun H1 hq => by
    obtain ⟨es, h1, h2⟩ := hq.arr hK hKl hm
    rw [← h2]
    exact PO_mlen ho ht hx' h1
theorem Cond_mload {t : TypeId} {x : Operand} {id n i off : Nat} {e : TypeId} {es : List GV} {x' g : GV} (hK : memB K (10000 + id) = true) (ho : o.op = .load t x) (h1 : aggB P t = some false) (hp : env.eval x = .mref id n i off)
    (hm : H.mu[id]? = some (.arr n e es)) (hx' : es[i]? = some x') (hg : x'.cells[off]? = some g) (hKl : Nat.ble 10000 id = false := by rfl) (hf : frB K o = false := by rfl) : Cond P K o env H (.g g) H :=
  Cond_m (fun H1 hq => PO_load_mref_one ho h1 hp ((hq.mu id (memB_iff.1 hK) hKl) ▸ hm) hx' hg) (by rw [ho]; rfl) hf
theorem Cond_mstore {t : TypeId} {x y : Operand} {id n i off m : Nat} {e : TypeId} {es : List GV} {x' : GV} {ps : List PV} {cs : List GV} (ho : o.op = .store t x y) (hs : szB P t = some m) (hp : env.eval x = .mref id n i off) (hc : pvCells (env.eval y) = some ps) (hg : allG ps = some cs) (hn : cs.length = m) (hpos : 0 < m)
    (hm : H.mu[id]? = some (.arr n e es)) (hx' : es[i]? = some x') (hfit : off + m ≤ x'.cells.length) (hf : plB K o = true := by rfl) :
    Cond P K o env H undefP ⟨H.bx, H.tk, H.mu.set id (.arr n e (es.set i (setCells x' off cs)))⟩ :=
  Cond_s (PO_store_mref ho hs hp hc hg hn hpos hm hx' hfit) (KSh.set hm (by simp) K) (by rw [ho]; rfl) hf
end
end Go.Pure

/- A generic layer: boxes and arrays that are forgotten at a round's end, and where ways meet. -/
namespace Go.Pure
open Go

theorem slots_refs {nb nt nm : Nat} : ∀ {l : List (Nat × PV)}, refsOkL nb nt nm (l.map (·.2)) = true → ∀ t, RefsIn nb nt nm (slots l t)
  | [], _, t => by simp only [slots]; exact .any
  | (k, p) :: r, h, t => by
    simp only [List.map_cons, refsOkL, Bool.and_eq_true] at h
    simp only [slots]
    cases Nat.beq t k
    · rw [cond_false]; exact slots_refs h.2 t
    · rw [cond_true]; exact refsOk_spec h.1

section
variable {P : Program} {N : Nat} {Q : Exit → Env → PH → Prop} {env : Env} {H : PH}

/-- More is there than is told. -/
def Drops (P : Program) (H1 H' : PH) : Prop := ∃ x y z, HLe P H1 ⟨H'.bx ++ x, H'.tk ++ y, H'.mu ++ z⟩
theorem Drops.of_le {H1 H' : PH} (h : HLe P H1 H') : Drops P H1 H' := ⟨[], [], [], by simpa using h⟩
theorem Drops.mk {H1 H' : PH} (x : List (List PV)) (y : List (TypeId × Nat)) (z : List MO) (h : H1 = ⟨H'.bx ++ x, H'.tk ++ y, H'.mu ++ z⟩) : Drops P H1 H' := ⟨x, y, z, HLe.of_eq h⟩

/-- What a frame and a state tell alone. -/
def fitB (H H' : PH) (E : List (Nat × PV)) : Bool :=
  Nat.ble H.bx.length H'.bx.length && (Nat.ble H.tk.length H'.tk.length && (Nat.ble H.mu.length H'.mu.length && (refsOkL H'.bx.length H'.tk.length H'.mu.length (E.map (·.2)) && refsOkB H'.bx.length H'.tk.length H'.mu.length H'.bx)))

theorem cut_back {c c2 : Ctx} {H' H2 : PH} {E : List (Nat × PV)} {env2 : Env} {a : Act} (hr : Rel P c H) (hf : fitB H H' E = true) (hr2 : Rel P c2 H2) (hE : Evo c c2) (he : ER c2 N env2 a) (hle : EnvLe env2 (slots E)) (hd : Drops P H2 H') :
    ∃ c3, c3.w = c2.w ∧ Rel P c3 H' ∧ Evo c c3 ∧ ER c3 N (slots E) a := by
  unfold fitB at hf
  simp only [Bool.and_eq_true] at hf
  obtain ⟨f1, f2, f3, f4, f5⟩ := hf
  obtain ⟨x, y, z, hx⟩ := hd
  have hr3 := hx c2 hr2
  have he3 := hle.er he
  refine ⟨c2.cut H'.bx.length H'.tk.length H'.mu.length, rfl, hr3.cut ⟨x, rfl⟩ ⟨y, rfl⟩ ⟨z, rfl⟩ (refsOkB_spec f5), hE.cut ?_ ?_ ?_, ⟨he3.defers, he3.size, fun t => (he3.slot t).cut (slots_refs f4 t)⟩⟩
  · rw [hr.len]; exact Nat.le_of_ble_eq_true f1
  · have := congrArg List.length hr.tk; simp at this; have := Nat.le_of_ble_eq_true f2; omega
  · rw [hr.mlen]; exact Nat.le_of_ble_eq_true f3

/-- A LOOP whose rounds leave boxes and arrays behind that nobody names any more. -/
theorem PW_loop_cut {S : Type} {body : Code} (E : S → List (Nat × PV)) (F : S → PH) (Inv : S → Prop) (μ : S → Nat) (s0 : S) (hi : Inv s0) (h1 : EnvLe env (slots (E s0))) (h2 : HLe P H (F s0)) (hf : ∀ s, fitB H (F s) (E s) = true)
    (round : ∀ s, Inv s → PW P N body (Next (fun env' H' => ∃ s', Inv s' ∧ μ s' < μ s ∧ EnvLe env' (slots (E s')) ∧ Drops P H' (F s')) Q) (slots (E s)) (F s)) : PW P N (.loop body) Q env H := by
  intro c a hr he
  refine wp_loop_ghost (fun n a w => ∃ s c', Inv s ∧ μ s = n ∧ c'.w = w ∧ Rel P c' (F s) ∧ Evo c c' ∧ ER c' N (slots (E s)) a) (μ s0) ⟨s0, c, hi, rfl, rfl, h2 c hr, Evo.refl c, h1.er he⟩ ?_
  rintro n a w ⟨s, c1, hInv, rfl, rfl, hr1, hE1, he1⟩
  refine wp_mono (round s hInv c1 a hr1 he1) ?_
  rintro e a' w' ⟨c2, env2, H2, q, rfl, hr2, hE2, he2⟩
  cases e <;> simp only [Next] at q <;> simp only [Exit.then]
  case normal =>
    obtain ⟨s', hi', hlt, e1, e2⟩ := q
    obtain ⟨c3, w3, r3, v3, x3⟩ := cut_back hr (hf s') hr2 (hE1.trans hE2) he2 e1 e2
    exact ⟨μ s', hlt, s', c3, hi', rfl, w3, r3, v3, x3⟩
  all_goals exact ⟨c2, env2, H2, q, rfl, hr2, hE1.trans hE2, he2⟩

/-- Ways meet; what they leave behind is forgotten. -/
theorem PW_cutd {x y : Code} (E : List (Nat × PV)) (H' : PH) (hf : fitB H H' E = true) (h1 : PW P N x (Next (fun env' H1 => EnvLe env' (slots E) ∧ Drops P H1 H') Q) env H) (h2 : PW P N y Q (slots E) H') : PW P N (.seq x y) Q env H := by
  intro c a hr he
  refine wp_seq (wp_mono (h1 c a hr he) ?_)
  rintro e a' w' ⟨c', env', H1, q, rfl, hr', hE, he'⟩
  cases e <;> simp only [Next] at q <;> simp only [Exit.then]
  case normal =>
    obtain ⟨c3, w3, r3, v3, x3⟩ := cut_back hr hf hr' hE he' q.1 q.2
    have := h2 c3 a' r3 x3
    rw [w3] at this
    exact wp_mono this fun _ _ _ h => QR.mono v3 (fun _ _ _ h => h) h
  all_goals exact ⟨c', env', H1, q, rfl, hr', hE, he'⟩
end
end Go.Pure

/- A generic layer: slices that are made, and appended to. -/
namespace Go.Pure
open Go

section
variable {P : Program} {o : Oper} {ρ : Operand → PV} {H : PH}

theorem PO_buildSlice_own {t n e size : Nat} {parts : Array (Nat × Operand)} {z : Value} {b : Bool} {cs : List PV} {gs : List GV} (ho : o.op = .buildSlice t n parts) (he : P.underlying t = some (.slice e)) (hs : szB P e = some size) (_ha : aggB P e = some b)
    (hz : zeroB P e = some z) (hz1 : z.cells.toList.all (·.oneCell') = true) (hzs : Nat.beq z.cells.size size = true) (hpos : Nat.ble 1 size = true) (hb : (b || Nat.beq size 1) = true) (hn : Nat.ble (n * size) 16777216 = true)
    (hfill : fillP (fun i => some (i * size, size)) (zerosP z n) (partsP ρ parts.toList) = some cs) (hg : allG cs = some gs) : PO P o ρ H (.own (group b size n gs) H.tk.length) ⟨H.bx, H.tk ++ [(e, n)], H.mu⟩ := by
  intro c ρr hr hx
  have hzs := Nat.eq_of_beq_eq_true hzs
  have hpos := Nat.le_of_ble_eq_true hpos
  have hn := Nat.le_of_ble_eq_true hn
  subst hzs
  obtain ⟨vs, hv1, hv2⟩ := fill_ok (c := c) (partsP ρ parts.toList) ((parts.map fun (i, x) => (i, ρr x)).toList) (zerosP z n) _ cs (zeros_ok c hz1 hpos n) (by simp [partsP_eq]) (by
    intro k x y hx1 hy
    rw [partsP_eq] at hx1
    simp only [List.getElem?_map, Option.map_eq_some_iff, Array.toList_map] at hx1 hy
    obtain ⟨q, hq, rfl⟩ := hx1
    obtain ⟨q', hq', rfl⟩ := hy
    rw [hq] at hq'
    cases hq'
    exact ⟨rfl, hx q.2 (by
      rw [ho]
      simpa [Op.operands] using ⟨q.1, by simpa using List.mem_of_getElem? hq⟩)⟩) hfill
  have hv1 : Instr.fill (fun i => some (i * z.cells.size, z.cells.size)) ((Array.range (n * z.cells.size)).map (z.cells[· % z.cells.size]!)) (List.map (fun x => (x.1, ρr x.2)) parts.toList) = some vs := by simpa using hv1
  have hrun : (execOp ρr o).run P c.w = .ok (.value (.slice (some ⟨c.w.heap.size, 0, none⟩) n n)) (c.w.alloc (.cells vs e)) := by
    have hne : ¬ (n * z.cells.size > 2 ^ 24) := by simp only [Nat.reducePow]; omega
    by_cases h0 : n * z.cells.size = 0
    · obtain rfl : n = 0 := by
        rcases Nat.mul_eq_zero.1 h0 with h | h
        · exact h
        · omega
      have e0 : ∀ f : Nat → Value, (Array.range (0 * z.cells.size)).map f = #[] := fun f => by simp
      rw [e0] at hv1
      have e1 : Array.map (fun _ : Nat => (default : Value)) (Array.range 0) = #[] := by simp
      simp [execOp, ho, Instr.buildSlice, run_underlying he, run_sizeOf hs, newRow, newObj, e1, hv1, Sem.run]
    · simp [execOp, ho, Instr.buildSlice, run_underlying he, run_sizeOf hs, hne, h0, run_zero hz, newRow, newObj, hv1, Sem.run]
  unfold OpGoes
  rw [hrun]
  have hcells : gs.length = vs.size := by rw [(allG_ok (c := c) hg).1, hv2.1]
  have hcs : ∀ (k : Nat) (g : GV) (v : Value), gs[k]? = some g → vs[k]? = some v → RG c.w c.stab g v ∧ v.oneCell' = true := by
    intro k g v hgk hvk
    have hlt : k < cs.length := by rw [← (allG_ok (c := c) hg).1]; exact (List.getElem?_eq_some_iff.1 hgk).1
    obtain ⟨r1, r2⟩ := hv2.2 k cs[k] v (List.getElem?_eq_getElem hlt) hvk
    exact ⟨(allG_ok (c := c) hg).2 k g cs[k] hgk (List.getElem?_eq_getElem hlt) v r1, r2⟩
  have hvsz : vs.size = n * z.cells.size := by
    rw [hv2.1]
    have : ∀ (ps : List (Nat × PV)) (l l' : List PV), fillP (fun i => some (i * z.cells.size, z.cells.size)) l ps = some l' → l'.length = l.length := by
      intro ps
      induction ps with
      | nil => intro l l' h; simp [fillP] at h; rw [h]
      | cons p ps ih =>
        obtain ⟨i, p⟩ := p
        intro l l' h
        unfold fillP at h
        split at h
        · rename_i off n' ds hpl hds
          cases hb : (Nat.beq ds.length n' && Nat.ble (off + n') l.length) with
          | false => rw [hb] at h; cases h
          | true =>
            rw [hb, cond_true] at h
            rw [ih _ _ h]
            simp only [Bool.and_eq_true] at hb
            have e1 := Nat.eq_of_beq_eq_true hb.1
            have e2 := Nat.le_of_ble_eq_true hb.2
            simp [splice]; omega
        · cases h
    rw [this _ _ _ hfill, zerosP_length]
  have hone : b = false → z.cells.size = 1 ∧ ∀ g ∈ gs, g.cells = [g] := fun e => by
    subst e
    refine ⟨Nat.eq_of_beq_eq_true (by simpa using hb), fun g hg' => ?_⟩
    obtain ⟨k, hk⟩ := List.getElem?_of_mem hg'
    have hlt : k < vs.size := by rw [← hcells]; exact (List.getElem?_eq_some_iff.1 hk).1
    obtain ⟨r1, r2⟩ := hcs k g vs[k] hk (by simp [hlt])
    exact r1.cells_one r2
  have hlen : (group b z.cells.size n gs).length = n := group_length n gs b (fun e => (hone e).1) (by rw [hcells, hvsz])
  have hget := group_get n gs b hone (by rw [hcells, hvsz])
  have hle : n ≤ n * z.cells.size := Nat.le_mul_of_pos_right _ hpos
  obtain ⟨hr', hE⟩ := hr.addTok (Ext.alloc c.w (.cells vs e)) (t := ⟨true, c.w.heap.size, e, z.cells.size, n, n⟩) rfl (Nat.le_refl _) (Go.heap_alloc_new c.w _) hvsz (Nat.le_refl _) (by simp only [maxLen]; omega) hs
  have hR : RG (c.w.alloc (.cells vs e)) (Ctx.stab ⟨c.σ, c.τ ++ [⟨true, c.w.heap.size, e, z.cells.size, n, n⟩], c.μ, c.hid, c.w.alloc (.cells vs e)⟩) (.sl (group b z.cells.size n gs)) (.slice (some ⟨c.w.heap.size, 0, none⟩) n n) := by
    have := RG_row (w := c.w.alloc (.cells vs e)) (S := Ctx.stab ⟨c.σ, c.τ ++ [⟨true, c.w.heap.size, e, z.cells.size, n, n⟩], c.μ, c.hid, c.w.alloc (.cells vs e)⟩) (es := group b z.cells.size n gs) (size := z.cells.size) (cap := n) (Go.heap_alloc_new c.w _) (fun i x hx => (hget i x hx).1) (by omega) (by simp only [maxLen]; omega) (by rw [hlen, hvsz]; exact Nat.le_refl _) (fun p hp => by
      rw [hlen] at hp
      refine ⟨fun h => ?_, fun h => ?_, fun t ht lv e' => ?_, fun t ht lv e' => ?_⟩
      · have := hr.hidlt _ _ h; omega
      · have := hr.shid _ h; omega
      · rcases List.mem_append.1 ht with ht | ht
        · have := hr.tlt ht lv; omega
        · simp only [List.mem_singleton] at ht; subst ht; exact hp
      · have := hr.mlt t ht lv; omega) (fun k hk => ?_) (fun i x j g v hx hg' hv => ?_)
    · rw [hlen] at this; exact this
    · rw [hlen, ← hvsz] at hk
      refine ⟨vs[k], by simp [hk], ?_⟩
      have hk' : k < gs.length := by rw [hcells]; exact hk
      exact (hcs k gs[k] vs[k] (List.getElem?_eq_getElem hk') (by simp [hk])).2
    · exact (hcs _ g v ((hget i x hx).2 j g hg') hv).1.mono hE.keep
  refine ⟨_, rfl, hr', hE, .own _ _ _ ⟨true, c.w.heap.size, e, z.cells.size, n, n⟩ hR ?_ (fun i x hx => (hget i x hx).1) (Nat.le_of_eq hlen) (fun _ => .inl ⟨rfl, by rw [hlen]⟩)⟩
  show (c.τ ++ [_])[H.tk.length]? = _
  have : c.τ.length = H.tk.length := by rw [← hr.tk]; simp
  rw [← this]; simp

/-- What an operation makes, and nobody writes any more. -/
theorem PO_frz {id n : Nat} {e : TypeId} {es : List GV} {H1 : PH} (h : PO P o ρ H (.mar id n) H1) (hm : H1.mu[id]? = some (.arr n e es)) : PO P o ρ H (.g (.sl es)) ⟨frzB id n es H1.bx, H1.tk, H1.mu.set id (.gone (n + 1))⟩ := by
  intro c ρr hr hx
  have := h c ρr hr hx
  unfold OpGoes at this ⊢
  have key : ∀ rv w', (∃ c', c'.w = w' ∧ Rel P c' H1 ∧ Evo c c' ∧ RV c' (.mar id n) rv) → ∃ c', c'.w = w' ∧ Rel P c' ⟨frzB id n es H1.bx, H1.tk, H1.mu.set id (.gone (n + 1))⟩ ∧ Evo c c' ∧ RV c' (.g (.sl es)) rv := by
    rintro rv w' ⟨c', rfl, hr', hE, hv⟩
    obtain ⟨c2, hw, r2, e2, f2⟩ := hr'.freeze hm
    have h3 := f2 _ _ hv
    simp only [frz, Nat.beq_refl, Bool.and_self, cond_true] at h3
    exact ⟨c2, hw, r2, hE.trans e2, h3⟩
  generalize (execOp ρr o).run P c.w = r at this ⊢
  cases r with
  | ok nx w' =>
    cases nx
    case value v => exact key _ _ this
    case skip => exact key _ _ this
    case enter f args => exact this.mono fun e w'' ⟨rv, he, hR⟩ => ⟨rv, he, key _ _ hR⟩
    all_goals exact this.elim
  | halt x w' => exact this.elim
end
end Go.Pure

/- A generic layer: slices that are written out, and appended to. -/
namespace Go.Pure
open Go

section
variable {P : Program} {o : Oper} {ρ : Operand → PV} {H : PH}

theorem PO_buildSlice_lit {t n e size : Nat} {parts : Array (Nat × Operand)} {z : Value} {b : Bool} {cs : List PV} {gs : List GV} (ho : o.op = .buildSlice t n parts) (he : P.underlying t = some (.slice e)) (hs : szB P e = some size) (_ha : aggB P e = some b)
    (hz : zeroB P e = some z) (hz1 : z.cells.toList.all (·.oneCell') = true) (hzs : Nat.beq z.cells.size size = true) (hpos : Nat.ble 1 size = true) (hb : (b || Nat.beq size 1) = true) (hn : Nat.ble (n * size) 16777216 = true)
    (hfill : fillP (fun i => some (i * size, size)) (zerosP z n) (partsP ρ parts.toList) = some cs) (hg : allG cs = some gs) : PO P o ρ H (.lit (group b size n gs)) H := by
  intro c ρr hr hx
  have hzs := Nat.eq_of_beq_eq_true hzs
  have hpos := Nat.le_of_ble_eq_true hpos
  have hn := Nat.le_of_ble_eq_true hn
  subst hzs
  obtain ⟨vs, hv1, hv2⟩ := fill_ok (c := c) (partsP ρ parts.toList) ((parts.map fun (i, x) => (i, ρr x)).toList) (zerosP z n) _ cs (zeros_ok c hz1 hpos n) (by simp [partsP_eq]) (by
    intro k x y hx1 hy
    rw [partsP_eq] at hx1
    simp only [List.getElem?_map, Option.map_eq_some_iff, Array.toList_map] at hx1 hy
    obtain ⟨q, hq, rfl⟩ := hx1
    obtain ⟨q', hq', rfl⟩ := hy
    rw [hq] at hq'
    cases hq'
    exact ⟨rfl, hx q.2 (by
      rw [ho]
      simpa [Op.operands] using ⟨q.1, by simpa using List.mem_of_getElem? hq⟩)⟩) hfill
  have hv1 : Instr.fill (fun i => some (i * z.cells.size, z.cells.size)) ((Array.range (n * z.cells.size)).map (z.cells[· % z.cells.size]!)) (List.map (fun x => (x.1, ρr x.2)) parts.toList) = some vs := by simpa using hv1
  have hrun : (execOp ρr o).run P c.w = .ok (.value (.slice (some ⟨c.w.heap.size, 0, none⟩) n n)) (c.w.alloc (.cells vs e)) := by
    have hne : ¬ (n * z.cells.size > 2 ^ 24) := by simp only [Nat.reducePow]; omega
    by_cases h0 : n * z.cells.size = 0
    · obtain rfl : n = 0 := by
        rcases Nat.mul_eq_zero.1 h0 with h | h
        · exact h
        · omega
      have e0 : ∀ f : Nat → Value, (Array.range (0 * z.cells.size)).map f = #[] := fun f => by simp
      rw [e0] at hv1
      have e1 : Array.map (fun _ : Nat => (default : Value)) (Array.range 0) = #[] := by simp
      simp [execOp, ho, Instr.buildSlice, run_underlying he, run_sizeOf hs, newRow, newObj, e1, hv1, Sem.run]
    · simp [execOp, ho, Instr.buildSlice, run_underlying he, run_sizeOf hs, hne, h0, run_zero hz, newRow, newObj, hv1, Sem.run]
  unfold OpGoes
  rw [hrun]
  obtain ⟨hr', hE⟩ := hr.grow (Ext.alloc c.w (.cells vs e))
  have hcells : gs.length = vs.size := by rw [(allG_ok (c := c) hg).1, hv2.1]
  have hcs : ∀ (k : Nat) (g : GV) (v : Value), gs[k]? = some g → vs[k]? = some v → RG c.w c.stab g v ∧ v.oneCell' = true := by
    intro k g v hgk hvk
    have hlt : k < cs.length := by rw [← (allG_ok (c := c) hg).1]; exact (List.getElem?_eq_some_iff.1 hgk).1
    obtain ⟨r1, r2⟩ := hv2.2 k cs[k] v (List.getElem?_eq_getElem hlt) hvk
    exact ⟨(allG_ok (c := c) hg).2 k g cs[k] hgk (List.getElem?_eq_getElem hlt) v r1, r2⟩
  have hvsz : vs.size = n * z.cells.size := by
    rw [hv2.1]
    have : ∀ (ps : List (Nat × PV)) (l l' : List PV), fillP (fun i => some (i * z.cells.size, z.cells.size)) l ps = some l' → l'.length = l.length := by
      intro ps
      induction ps with
      | nil => intro l l' h; simp [fillP] at h; rw [h]
      | cons p ps ih =>
        obtain ⟨i, p⟩ := p
        intro l l' h
        unfold fillP at h
        split at h
        · rename_i off n' ds hpl hds
          cases hb : (Nat.beq ds.length n' && Nat.ble (off + n') l.length) with
          | false => rw [hb] at h; cases h
          | true =>
            rw [hb, cond_true] at h
            rw [ih _ _ h]
            simp only [Bool.and_eq_true] at hb
            have e1 := Nat.eq_of_beq_eq_true hb.1
            have e2 := Nat.le_of_ble_eq_true hb.2
            simp [splice]; omega
        · cases h
    rw [this _ _ _ hfill, zerosP_length]
  have hone : b = false → z.cells.size = 1 ∧ ∀ g ∈ gs, g.cells = [g] := fun e => by
    subst e
    refine ⟨Nat.eq_of_beq_eq_true (by simpa using hb), fun g hg' => ?_⟩
    obtain ⟨k, hk⟩ := List.getElem?_of_mem hg'
    have hlt : k < vs.size := by rw [← hcells]; exact (List.getElem?_eq_some_iff.1 hk).1
    obtain ⟨r1, r2⟩ := hcs k g vs[k] hk (by simp [hlt])
    exact r1.cells_one r2
  have hlen : (group b z.cells.size n gs).length = n := group_length n gs b (fun e => (hone e).1) (by rw [hcells, hvsz])
  have hget := group_get n gs b hone (by rw [hcells, hvsz])
  have hR : RG (c.w.alloc (.cells vs e)) (Ctx.stab ⟨c.σ, c.τ, c.μ, c.hid, c.w.alloc (.cells vs e)⟩) (.sl (group b z.cells.size n gs)) (.slice (some ⟨c.w.heap.size, 0, none⟩) (group b z.cells.size n gs).length (group b z.cells.size n gs).length) := by
    have := RG_row (w := c.w.alloc (.cells vs e)) (S := Ctx.stab ⟨c.σ, c.τ, c.μ, c.hid, c.w.alloc (.cells vs e)⟩) (es := group b z.cells.size n gs) (size := z.cells.size) (cap := n) (Go.heap_alloc_new c.w _) (fun i x hx => (hget i x hx).1) (by omega) (by
        have : n ≤ n * z.cells.size := Nat.le_mul_of_pos_right _ hpos
        simp only [maxLen]; omega) (by rw [hlen, hvsz]; exact Nat.le_refl _) (fun p _ => fresh_stab hr (Nat.le_refl _) p) (fun k hk => ?_) (fun i x j g v hx hg' hv => ?_)
    · rw [hlen] at this ⊢; exact this
    · rw [hlen, ← hvsz] at hk
      refine ⟨vs[k], by simp [hk], ?_⟩
      have hk' : k < gs.length := by rw [hcells]; exact hk
      exact (hcs k gs[k] vs[k] (List.getElem?_eq_getElem hk') (by simp [hk])).2
    · exact (hcs _ g v ((hget i x hx).2 j g hg') hv).1.mono hE.keep
  have hv : RV ⟨c.σ, c.τ, c.μ, c.hid, c.w.alloc (.cells vs e)⟩ (.lit (group b z.cells.size n gs)) (.slice (some ⟨c.w.heap.size, 0, none⟩) n n) := by
    have := RV.lit (c := ⟨c.σ, c.τ, c.μ, c.hid, c.w.alloc (.cells vs e)⟩) _ _ hR
    rw [hlen] at this
    exact this
  exact ⟨_, rfl, hr', hE, hv⟩

/-- What is appended to a slice without room is a new array. -/
theorem PO_append_lit {x y : Operand} {t e : TypeId} {es xs : List GV} {size bytes : Nat} {z : Value} (ho : o.op = .call { callee := .builtin .append, args := ⟨[x, y]⟩, argTypes := ⟨[t, t]⟩ })
    (ht : P.underlying t = some (.slice e)) (hs : szB P e = some size) (hby : bytesB P e = some bytes) (hz : zeroB P e = some z) (hzs : Nat.beq z.cells.size size = true) (hx : ρ x = .lit es) (hy : elems (ρ y) = some xs)
    (hes : ∀ x ∈ es, x.cells.length = size) (hxs : ∀ x ∈ xs, x.cells.length = size) (hpos : 0 < xs.length) (hfit : (es.length + xs.length) * bytes ≤ 140737488355328) (hmax : es.length + xs.length ≤ maxLen) :
    PO P o ρ H (.own (es ++ xs) H.tk.length) ⟨H.bx, H.tk ++ [(e, es.length + xs.length)], H.mu⟩ := by
  intro c ρr hr hxx
  have hx1 := hxx x (by simp [ho, Op.operands, Call.operands])
  have hy1 := elems_ok (hxx y (by simp [ho, Op.operands, Call.operands])) hy
  rw [hx] at hx1
  have hzs := Nat.eq_of_beq_eq_true hzs
  obtain ⟨i, hi⟩ : ∃ i, P.info? e = some i := by
    unfold szB at hs
    cases h : P.info? e with
    | none => rw [h] at hs; cases hs
    | some i => exact ⟨i, rfl⟩
  have hisz : i.size = size := by unfold szB at hs; rw [hi] at hs; simpa using hs
  have hiby : i.bytes = bytes := by unfold bytesB at hby; rw [hi] at hby; simpa using hby
  have hiz : i.zero = some z := by
    unfold zeroB at hz; rw [hi] at hz; simpa using hz
  subst hisz; subst hiby
  generalize hvx : ρr x = v at hx1
  generalize hvy : ρr y = u at hy1
  have hop : (execOp ρr o).run P c.w = ((Builtin.append_ #[t, t] o.type #[v, u]).run P c.w).andThen fun r w => .ok (.value r) w := by
    simp [execOp, ho, resolve, invoke, builtin, hvx, hvy]
  unfold OpGoes
  rw [hop]
  obtain ⟨a, m, news, rfl, ln, hnews, hn1, hnrg⟩ := slice_cells hy1 hxs (by rintro rfl; simp at hpos)
  cases hx1 with
  | lit _ b hrg =>
  obtain ⟨olds, lo, hocell, ho1, horg⟩ : ∃ olds : List Value, olds.length = es.length * i.size ∧ (∀ j v, olds[j]? = some v → c.w.cell? (b.add j) = some v) ∧ (∀ v ∈ olds, v.oneCell' = true) ∧
      ∀ (k : Nat) (x : GV) (j : Nat) (g : GV) (v : Value), es[k]? = some x → x.cells[j]? = some g → olds[k * i.size + j]? = some v → RG c.w c.stab g v := by
    by_cases hes0 : es = []
    · subst hes0; exact ⟨[], by simp, by simp, by simp, by simp⟩
    · obtain ⟨a', m', olds, e1, l1, l2, l3, l4⟩ := slice_cells hrg hes hes0
      cases e1
      exact ⟨olds, l1, l2, l3, l4⟩
  have hg : es.length < es.length + xs.length := by omega
  have h63 : ((es.length + xs.length : Nat) : Int) ≤ 9223372036854775807 := by simp only [maxLen] at hmax; omega
  rw [run_append_grow c.w t o.type e i z ht hi hiz b es.length es.length olds lo hocell a xs.length m news ln hnews hg h63 (growslice_fits hg hfit)]
  have hge := grownCap_ge c.w (es.length + xs.length) es.length e
  generalize hw' : c.w.drew.alloc (.cells (olds.toArray ++ news.toArray ++ Builtin.zeroCells z.cells (grownCap c.w (es.length + xs.length) es.length e - (es.length + xs.length))) e) = w'
  have hext : Ext c.w w' := by rw [← hw']; exact (Ext.drew c.w).trans (Ext.alloc _ _)
  have hblk : w'.heap[c.w.heap.size]? = some (.cells (olds.toArray ++ news.toArray ++ Builtin.zeroCells z.cells (grownCap c.w (es.length + xs.length) es.length e - (es.length + xs.length))) e (0, 0)) := by
    rw [← hw']; exact Go.heap_alloc_new c.w.drew _
  have hsz : (olds.toArray ++ news.toArray ++ Builtin.zeroCells z.cells (grownCap c.w (es.length + xs.length) es.length e - (es.length + xs.length))).size = grownCap c.w (es.length + xs.length) es.length e * i.size := by
    simp only [Array.size_append, List.size_toArray, size_zeroCells, hzs, lo, ln]
    rw [← Nat.add_mul, ← Nat.add_mul]
    congr 1
    omega
  have hcm := grownCap_le_maxLen c.w (es.length + xs.length) es.length e hmax
  obtain ⟨hr', hE⟩ := hr.addTok hext (t := ⟨true, c.w.heap.size, e, i.size, grownCap c.w (es.length + xs.length) es.length e, es.length + xs.length⟩) rfl (Nat.le_refl _) hblk hsz hge hcm hs
  have hR := RG_appended (w := w') (S := Ctx.stab ⟨c.σ, c.τ ++ [⟨true, c.w.heap.size, e, i.size, grownCap c.w (es.length + xs.length) es.length e, es.length + xs.length⟩], c.μ, c.hid, w'⟩) (es := es) (xs := xs) (size := i.size) (olds := olds) (news := news)
    (rest := (Builtin.zeroCells z.cells (grownCap c.w (es.length + xs.length) es.length e - (es.length + xs.length))).toList) hblk (by simp) lo ln hes hxs hge hcm (fun p hp => by
      refine ⟨fun h => ?_, fun h => ?_, fun t ht lv e' => ?_, fun t ht lv e' => ?_⟩
      · have := hr.hidlt _ _ h; omega
      · have := hr.shid _ h; omega
      · rcases List.mem_append.1 ht with ht | ht
        · have := hr.tlt ht lv; omega
        · simp only [List.mem_singleton] at ht; subst ht; exact hp
      · have := hr.mlt t ht lv; omega) (fun k x j g v h1 h2 h3 => (horg k x j g v h1 h2 h3).mono hE.keep) (fun k x j g v h1 h2 h3 => (hnrg k x j g v h1 h2 h3).mono hE.keep) ho1 hn1
  refine ⟨_, rfl, hr', hE, .own _ _ _ ⟨true, c.w.heap.size, e, i.size, grownCap c.w (es.length + xs.length) es.length e, es.length + xs.length⟩ hR ?_ (fun k x hx => ?_) (by simp) (fun _ => .inl ⟨rfl, by simp⟩)⟩
  · show (c.τ ++ [_])[H.tk.length]? = _
    have : c.τ.length = H.tk.length := by rw [← hr.tk]; simp
    rw [← this]; simp
  · rcases List.mem_append.1 (List.mem_of_getElem? hx) with h | h
    · exact hes x h
    · exact hxs x h

/-- The same of bytes. -/
theorem PO_appb_lit {x y : Operand} {t e : TypeId} {xs : List GV} {bytes : Nat} {z : Value} (b l : List UInt8) (ho : o.op = .call { callee := .builtin .append, args := ⟨[x, y]⟩, argTypes := ⟨[t, t]⟩ })
    (ht : P.underlying t = some (.slice e)) (hs : szB P e = some 1) (hby : bytesB P e = some bytes) (hz : zeroB P e = some z) (hzs : Nat.beq z.cells.size 1 = true) (hx : ρ x = .lit (bys b)) (hy : elems (ρ y) = some xs)
    (hxs : xs = bys l) (hpos : 0 < l.length) (hfit : (b.length + l.length) * bytes ≤ 140737488355328) (hmax : b.length + l.length ≤ maxLen) :
    PO P o ρ H (.own (bys (b ++ l)) H.tk.length) ⟨H.bx, H.tk ++ [(e, (b ++ l).length)], H.mu⟩ := by
  subst hxs
  have h1 : (bys b).length = b.length := by simp [bys]
  have h2 : (bys l).length = l.length := by simp [bys]
  have h3 : ∀ l : List UInt8, ∀ x ∈ bys l, x.cells.length = 1 := by intro l x hx; obtain ⟨v, _, rfl⟩ := List.mem_map.1 hx; rfl
  have := PO_append_lit (ρ := ρ) (H := H) ho ht hs hby hz hzs hx hy (h3 b) (h3 l) (by rw [h2]; exact hpos) (by rw [h1, h2]; exact hfit) (by rw [h1, h2]; exact hmax)
  rw [h1, h2] at this
  have e : bys b ++ bys l = bys (b ++ l) := by simp [bys]
  rw [e] at this
  rw [List.length_append]
  exact this
end
end Go.Pure

/- A generic layer: slices that are made with their zero values. -/
namespace Go.Pure
open Go

section
variable {P : Program} {o : Oper} {ρ : Operand → PV} {H : PH}

theorem PO_makeSlice (n : Nat) {t e size m : Nat} {x y : Operand} {k1 k2 : IntKind} {z : Value} {b : Bool} {gs : List GV} (ho : o.op = .makeSlice t x y) (hx1 : ρ x = .g (.int k1 n)) (hy1 : ρ y = .g (.int k2 n))
    (he : P.underlying t = some (.slice e)) (hs : szB P e = some size) (_ha : aggB P e = some b)
    (hz : zeroB P e = some z) (hby : bytesB P e = some m) (hz1 : z.cells.toList.all (·.oneCell') = true) (hzs : Nat.beq z.cells.size size = true) (hpos : Nat.ble 1 size = true) (hb : (b || Nat.beq size 1) = true) (hn : Nat.ble (n * size) 16777216 = true)
    (hm : Nat.ble (m * n) 281474976710656 = true) (hg : allG (zerosP z n) = some gs) : PO P o ρ H (.g (.sl (group b size n gs))) H := by
  intro c ρr hr hx
  have hzs := Nat.eq_of_beq_eq_true hzs
  have hpos := Nat.le_of_ble_eq_true hpos
  have hn := Nat.le_of_ble_eq_true hn
  have hm := Nat.le_of_ble_eq_true hm
  subst hzs
  have h1 := hx x (by simp [ho, Op.operands])
  have h2 := hx y (by simp [ho, Op.operands])
  rw [hx1] at h1
  rw [hy1] at h2
  have q1 : ρr x = .int k1 n := RV_int h1
  have q2 : ρr y = .int k2 n := RV_int h2
  obtain ⟨i, hi, hsz⟩ : ∃ i, P.info? e = some i ∧ i.size = z.cells.size := by
    unfold szB at hs
    cases hu : P.info? e with
    | none => rw [hu] at hs; cases hs
    | some i => rw [hu] at hs; exact ⟨i, rfl, by simpa using hs⟩
  have hiz : i.zero = some z := by unfold zeroB at hz; rw [hi] at hz; simpa using hz
  have hib : i.bytes = m := by unfold bytesB at hby; rw [hi] at hby; simpa using hby
  have hnn : n ≤ n * z.cells.size := Nat.le_mul_of_pos_right _ hpos
  have hv2 := zeros_ok c hz1 hpos n
  have hrun : (execOp ρr o).run P c.w = .ok (.value (.slice (some ⟨c.w.heap.size, 0, none⟩) n n)) (c.w.alloc (.cells ((Array.range (n * z.cells.size)).map (z.cells[· % z.cells.size]!)) e)) := by
    have hbb : (i.bytes : Int) * (n : Int) ≤ 281474976710656 := by
      rw [hib]
      have h : ((m * n : Nat) : Int) ≤ 281474976710656 := by omega
      rwa [Int.natCast_mul] at h
    have hr := run_make (P := P) c.w t e i z he hi hiz k1 k2 n n (by omega) (Int.le_refl _) hbb (by omega)
    simp only [Int.toNat_natCast, hsz, madeCells] at hr
    simp [execOp, ho, q1, q2, hr]
  unfold OpGoes
  rw [hrun]
  generalize hvs : (Array.range (n * z.cells.size)).map (z.cells[· % z.cells.size]!) = vs at hv2
  obtain ⟨hr', hE⟩ := hr.grow (Ext.alloc c.w (.cells vs e))
  have hvsz : vs.size = n * z.cells.size := by rw [← hvs]; simp
  have hcells : gs.length = vs.size := by rw [(allG_ok (c := c) hg).1, zerosP_length, hvsz]
  have hcs : ∀ (k : Nat) (g : GV) (v : Value), gs[k]? = some g → vs[k]? = some v → RG c.w c.stab g v ∧ v.oneCell' = true := by
    intro k g v hgk hvk
    have hlt : k < (zerosP z n).length := by rw [← (allG_ok (c := c) hg).1]; exact (List.getElem?_eq_some_iff.1 hgk).1
    obtain ⟨r1, r2⟩ := hv2.2 k (zerosP z n)[k] v (List.getElem?_eq_getElem hlt) hvk
    exact ⟨(allG_ok (c := c) hg).2 k g (zerosP z n)[k] hgk (List.getElem?_eq_getElem hlt) v r1, r2⟩
  have hone : b = false → z.cells.size = 1 ∧ ∀ g ∈ gs, g.cells = [g] := fun e => by
    subst e
    refine ⟨Nat.eq_of_beq_eq_true (by simpa using hb), fun g hg' => ?_⟩
    obtain ⟨k, hk⟩ := List.getElem?_of_mem hg'
    have hlt : k < vs.size := by rw [← hcells]; exact (List.getElem?_eq_some_iff.1 hk).1
    obtain ⟨r1, r2⟩ := hcs k g vs[k] hk (by simp [hlt])
    exact r1.cells_one r2
  have hlen : (group b z.cells.size n gs).length = n := group_length n gs b (fun e => (hone e).1) (by rw [hcells, hvsz])
  have hget := group_get n gs b hone (by rw [hcells, hvsz])
  refine ⟨_, rfl, hr', hE, .g _ _ ?_⟩
  have := RG_row (w := c.w.alloc (.cells vs e)) (S := Ctx.stab ⟨c.σ, c.τ, c.μ, c.hid, c.w.alloc (.cells vs e)⟩) (es := group b z.cells.size n gs) (size := z.cells.size) (cap := n) (Go.heap_alloc_new c.w _) (fun i x hx => (hget i x hx).1) (by omega) (by
      simp only [maxLen]; omega) (by rw [hlen, hvsz]; exact Nat.le_refl _) (fun p _ => fresh_stab hr (Nat.le_refl _) p) (fun k hk => ?_) (fun i x j g v hx hg' hv => ?_)
  · rw [hlen] at this; exact this
  · rw [hlen, ← hvsz] at hk
    refine ⟨vs[k], by simp [hk], ?_⟩
    have hk' : k < gs.length := by rw [hcells]; exact hk
    exact (hcs k gs[k] vs[k] (List.getElem?_eq_getElem hk') (by simp [hk])).2
  · exact (hcs _ g v ((hget i x hx).2 j g hg') hv).1.mono hE.keep
end
end Go.Pure

/- A generic layer: what is appended to a slice written out, told as a plain slice. -/
namespace Go.Pure
open Go

section
variable {P : Program} {o : Oper} {ρ : Operand → PV} {H : PH}

theorem PO_append_litg {x y : Operand} {t e : TypeId} {es xs : List GV} {size bytes : Nat} {z : Value} (ho : o.op = .call { callee := .builtin .append, args := ⟨[x, y]⟩, argTypes := ⟨[t, t]⟩ })
    (ht : P.underlying t = some (.slice e)) (hs : szB P e = some size) (hby : bytesB P e = some bytes) (hz : zeroB P e = some z) (hzs : Nat.beq z.cells.size size = true) (hx : ρ x = .lit es) (hy : elems (ρ y) = some xs) (hH : refsOkB H.bx.length H.tk.length H.mu.length H.bx = true)
    (hes : ∀ x ∈ es, x.cells.length = size) (hxs : ∀ x ∈ xs, x.cells.length = size) (hfit : (es.length + xs.length) * bytes ≤ 140737488355328) (hmax : es.length + xs.length ≤ maxLen) :
    PO P o ρ H (.g (.sl (es ++ xs))) H := by
  intro c ρr hr hxx
  by_cases hpos : 0 < xs.length
  · have q := PO_append_lit (H := H) ho ht hs hby hz hzs hx hy hes hxs hpos hfit hmax c ρr hr hxx
    unfold OpGoes at q ⊢
    have key : ∀ (rv : Value) (w' : World), (∃ c', c'.w = w' ∧ Rel P c' ⟨H.bx, H.tk ++ [(e, es.length + xs.length)], H.mu⟩ ∧ Evo c c' ∧ RV c' (.own (es ++ xs) H.tk.length) rv) → ∃ c', c'.w = w' ∧ Rel P c' H ∧ Evo c c' ∧ RV c' (.g (.sl (es ++ xs))) rv := by
      rintro rv w' ⟨c', rfl, hr', hE, hv⟩
      refine ⟨c'.cut H.bx.length H.tk.length H.mu.length, rfl, hr'.cut ⟨[], by simp⟩ ⟨_, rfl⟩ ⟨[], by simp⟩ (refsOkB_spec hH), hE.cut ?_ ?_ ?_, (pack_ok hv).cut (.g _)⟩
      · rw [hr.len]; exact Nat.le_refl _
      · have := congrArg List.length hr.tk; simp at this; omega
      · rw [hr.mlen]; exact Nat.le_refl _
    have hop : (execOp ρr o).run P c.w = ((Builtin.append_ #[t, t] o.type #[ρr x, ρr y]).run P c.w).andThen fun r w => .ok (.value r) w := by
      simp [execOp, ho, resolve, invoke, builtin]
    rw [hop] at q ⊢
    revert q
    cases (Builtin.append_ #[t, t] o.type #[ρr x, ρr y]).run P c.w with
    | ok rv w' => exact key rv w'
    | _ => exact fun h => h
  · have hxs0 : xs = [] := by cases xs with | nil => rfl | cons _ _ => simp at hpos
    subst hxs0
    have hx1 := hxx x (by simp [ho, Op.operands, Call.operands])
    have hy1 := elems_ok (hxx y (by simp [ho, Op.operands, Call.operands])) hy
    rw [hx] at hx1
    obtain ⟨i, hi⟩ : ∃ i, P.info? e = some i := by
      unfold szB at hs
      cases h : P.info? e with
      | none => rw [h] at hs; cases hs
      | some i => exact ⟨i, rfl⟩
    generalize hvx : ρr x = v at hx1
    generalize hvy : ρr y = u at hy1
    have hop : (execOp ρr o).run P c.w = ((Builtin.append_ #[t, t] o.type #[v, u]).run P c.w).andThen fun r w => .ok (.value r) w := by
      simp [execOp, ho, resolve, invoke, builtin, hvx, hvy]
    have hu : u = .slice none 0 0 ∨ ∃ a c', u = .slice (some a) 0 c' := by
      cases hy1 with
      | nil => exact .inl rfl
      | sl _ a cap => exact .inr ⟨a, cap, rfl⟩
    unfold OpGoes
    rw [hop]
    cases hx1 with
    | lit _ b hrg =>
    rw [run_append_zero c.w ht hi (some b) es.length es.length (Nat.le_refl _) (.inr ⟨_, rfl⟩) u hu]
    refine ⟨c, rfl, hr, Evo.refl c, ?_⟩
    rw [List.append_nil]
    exact .g _ _ hrg
end
end Go.Pure

/- A generic layer: what a result is, said in the prover's words; short names of the rules that a walk tries. -/
namespace Go.Pure
open Go

section
variable {P : Program} {o : Oper} {ρ : Operand → PV} {H : PH}
theorem PO_as {v v' : PV} {H' : PH} (h : PO P o ρ H v H') (e : v = v') : PO P o ρ H v' H' := e ▸ h
end
section
variable {P : Program} {K : List Nat} {o : Oper} {env : Env} {H H' : PH} {v : PV}
theorem cF (hk : kindB P o.op = 0) (h : ∀ H1, PO P o env.eval H1 v H1) : Cond P K o env H v H := Cond_f h hk
theorem cP (hk : frB K o = true) (h : ∀ H1, PO P o env.eval H1 v H1) : Cond P K o env H v H := Cond_p h hk
theorem cC (hk : kindB P o.op = 2) (hf : plB K o = true) (h : PO P o env.eval H v H') (hq : KEq K H H') : Cond P K o env H v H' := Cond_c h hq hk hf
theorem cL (hk : kindB P o.op = 1) (h : ∀ H1, PO P o env.eval H1 v H1) : Cond P K o env H v H := Cond_l h hk
end
theorem qA : type_of% @POps_nil := @POps_nil
theorem qB : type_of% @POpsD_nil := @POpsD_nil
theorem rO : type_of% @runO_ok := @runO_ok
theorem rD : type_of% @runD_ok := @runD_ok
theorem oR : type_of% @POps_run := @POps_run
theorem dR : type_of% @POpsD_run := @POpsD_run
theorem kE : type_of% @KEq.refl := @KEq.refl
theorem cI : type_of% @PO_conv_int := @PO_conv_int
theorem mF : type_of% @PO_makeFunc := @PO_makeFunc
theorem bS : type_of% @PO_buildSlice := @PO_buildSlice
theorem nC : type_of% @PO_nilCheck := @PO_nilCheck
theorem xS : type_of% @PW_seq := @PW_seq
theorem xU : type_of% @PW_seq_unless := @PW_seq_unless
theorem xR : type_of% @PW_region := @PW_region
theorem xD : type_of% @PW_draw_all := @PW_draw_all
theorem xK : type_of% @PW_draw_auto := @PW_draw_auto
theorem xB : type_of% @PW_block := @PW_block
theorem xN : type_of% @PW_skip := @PW_skip
theorem xE : type_of% @PW_exit := @PW_exit
theorem xT : type_of% @PW_ret := @PW_ret
theorem xt : type_of% @PW_cond_t := @PW_cond_t
theorem xf : type_of% @PW_cond_f := @PW_cond_f
theorem cl : type_of% @call_pure := @call_pure
theorem cb : type_of% @call_box := @call_box
theorem cd : type_of% @call_deep := @call_deep
theorem ck : type_of% @call_clo := @call_clo
theorem cm : type_of% @call_cdeep := @call_cdeep
theorem iA : type_of% @PO_indexAddr := @PO_indexAddr
theorem aP : type_of% @PO_append := @PO_append
theorem vC : type_of% @resVs_cons := @resVs_cons
theorem vN : type_of% @resVs_nil := @resVs_nil
theorem vT : type_of% @resV_tmp := @resV_tmp
theorem vA : type_of% @resV_agg := @resV_agg
theorem wC : type_of% @resRs_cons := @resRs_cons
theorem wN : type_of% @resRs_nil := @resRs_nil
theorem lB : type_of% @Nat.le_of_ble_eq_true := @Nat.le_of_ble_eq_true
end Go.Pure
