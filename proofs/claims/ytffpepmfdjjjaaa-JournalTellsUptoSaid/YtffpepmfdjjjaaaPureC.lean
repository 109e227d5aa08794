/- A generic layer: values without memory, and code over them. -/
import Derived.Test.YtffpepmfdjjjaaaPureB
import Derived.Laws.MakeOwn
/- A generic layer: slices that are written out, and appended to. -/
namespace Go.Pure
open Go

section
variable {P : Program} {o : Oper} {ρ : Operand → PV} {H : PH}

theorem PO_buildSlice_lit {t n e size : Nat} {parts : Array (Nat × Operand)} {z : Value} {b : Bool} {cs : List PV} {gs : List GV} (ho : o.op = .buildSlice t n parts) (he : P.underlying t = some (.slice e)) (hs : szB P e = some size) (_ha : aggB P e = some b)
    (hz : zeroB P e = some z) (hz1 : z.cells.toList.all (·.oneCell') = true) (hzs : Nat.beq z.cells.size size = true) (hpos : Nat.ble 1 size = true) (hb : (b || Nat.beq size 1) = true) (hn : Nat.ble (n * size) 16777216 = true)
    (hfill : fillP (fun i => some (i * size, size)) (zerosP z n) (partsP ρ parts.toList) = some cs) (hg : allG cs = some gs) : PO P o ρ H (.lit (group b size n gs)) H := by
  intro c ρr hr hx
  have hzs := Nat.eq_of_beq_eq_true hzs
  have hpos := Nat.le_of_ble_eq_true hpos
  have hn := Nat.le_of_ble_eq_true hn
  subst hzs
  obtain ⟨vs, hv1, hv2⟩ := fill_ok (c := c) (partsP ρ parts.toList) ((parts.map fun (i, x) => (i, ρr x)).toList) (zerosP z n) _ cs (zeros_ok c hz1 hpos n) (by simp [partsP_eq]) (by
    intro k x y hx1 hy
    rw [partsP_eq] at hx1
    simp only [List.getElem?_map, Option.map_eq_some_iff, Array.toList_map] at hx1 hy
    obtain ⟨q, hq, rfl⟩ := hx1
    obtain ⟨q', hq', rfl⟩ := hy
    rw [hq] at hq'
    cases hq'
    exact ⟨rfl, hx q.2 (by
      rw [ho]
      simpa [Op.operands] using ⟨q.1, by simpa using List.mem_of_getElem? hq⟩)⟩) hfill
  have hv1 : Instr.fill (fun i => some (i * z.cells.size, z.cells.size)) ((Array.range (n * z.cells.size)).map (z.cells[· % z.cells.size]!)) (List.map (fun x => (x.1, ρr x.2)) parts.toList) = some vs := by simpa using hv1
  have hrun : (execOp ρr o).run P c.w = .ok (.value (.slice (some ⟨c.w.heap.size, 0, none⟩) n n)) (c.w.alloc (.cells vs e)) := by
    have hne : ¬ (n * z.cells.size > 2 ^ 24) := by simp only [Nat.reducePow]; omega
    by_cases h0 : n * z.cells.size = 0
    · obtain rfl : n = 0 := by
        rcases Nat.mul_eq_zero.1 h0 with h | h
        · exact h
        · omega
      have e0 : ∀ f : Nat → Value, (Array.range (0 * z.cells.size)).map f = #[] := fun f => by simp
      rw [e0] at hv1
      have e1 : Array.map (fun _ : Nat => (default : Value)) (Array.range 0) = #[] := by simp
      simp [execOp, ho, Instr.buildSlice, run_underlying he, run_sizeOf hs, newRow, newObj, e1, hv1, Sem.run]
    · simp [execOp, ho, Instr.buildSlice, run_underlying he, run_sizeOf hs, hne, h0, run_zero hz, newRow, newObj, hv1, Sem.run]
  unfold OpGoes
  rw [hrun]
  obtain ⟨hr', hE⟩ := hr.grow (Ext.alloc c.w (.cells vs e))
  have hcells : gs.length = vs.size := by rw [(allG_ok (c := c) hg).1, hv2.1]
  have hcs : ∀ (k : Nat) (g : GV) (v : Value), gs[k]? = some g → vs[k]? = some v → RG c.w c.stab g v ∧ v.oneCell' = true := by
    intro k g v hgk hvk
    have hlt : k < cs.length := by rw [← (allG_ok (c := c) hg).1]; exact (List.getElem?_eq_some_iff.1 hgk).1
    obtain ⟨r1, r2⟩ := hv2.2 k cs[k] v (List.getElem?_eq_getElem hlt) hvk
    exact ⟨(allG_ok (c := c) hg).2 k g cs[k] hgk (List.getElem?_eq_getElem hlt) v r1, r2⟩
  have hvsz : vs.size = n * z.cells.size := by
    rw [hv2.1]
    have : ∀ (ps : List (Nat × PV)) (l l' : List PV), fillP (fun i => some (i * z.cells.size, z.cells.size)) l ps = some l' → l'.length = l.length := by
      intro ps
      induction ps with
      | nil => intro l l' h; simp [fillP] at h; rw [h]
      | cons p ps ih =>
        obtain ⟨i, p⟩ := p
        intro l l' h
        unfold fillP at h
        split at h
        · rename_i off n' ds hpl hds
          cases hb : (Nat.beq ds.length n' && Nat.ble (off + n') l.length) with
          | false => rw [hb] at h; cases h
          | true =>
            rw [hb, cond_true] at h
            rw [ih _ _ h]
            simp only [Bool.and_eq_true] at hb
            have e1 := Nat.eq_of_beq_eq_true hb.1
            have e2 := Nat.le_of_ble_eq_true hb.2
            simp [splice]; omega
        · cases h
    rw [this _ _ _ hfill, zerosP_length]
  have hone : b = false → z.cells.size = 1 ∧ ∀ g ∈ gs, g.cells = [g] := fun e => by
    subst e
    refine ⟨Nat.eq_of_beq_eq_true (by simpa using hb), fun g hg' => ?_⟩
    obtain ⟨k, hk⟩ := List.getElem?_of_mem hg'
    have hlt : k < vs.size := by rw [← hcells]; exact (List.getElem?_eq_some_iff.1 hk).1
    obtain ⟨r1, r2⟩ := hcs k g vs[k] hk (by simp [hlt])
    exact r1.cells_one r2
  have hlen : (group b z.cells.size n gs).length = n := group_length n gs b (fun e => (hone e).1) (by rw [hcells, hvsz])
  have hget := group_get n gs b hone (by rw [hcells, hvsz])
  have hR : RG (c.w.alloc (.cells vs e)) (Ctx.stab ⟨c.σ, c.τ, c.μ, c.hid, c.w.alloc (.cells vs e)⟩) (.sl (group b z.cells.size n gs)) (.slice (some ⟨c.w.heap.size, 0, none⟩) (group b z.cells.size n gs).length (group b z.cells.size n gs).length) := by
    have := RG_row (w := c.w.alloc (.cells vs e)) (S := Ctx.stab ⟨c.σ, c.τ, c.μ, c.hid, c.w.alloc (.cells vs e)⟩) (es := group b z.cells.size n gs) (size := z.cells.size) (cap := n) (Go.heap_alloc_new c.w _) (fun i x hx => (hget i x hx).1) (by omega) (by
        have : n ≤ n * z.cells.size := Nat.le_mul_of_pos_right _ hpos
        simp only [maxLen]; omega) (by rw [hlen, hvsz]; exact Nat.le_refl _) (fun p _ => fresh_stab hr (Nat.le_refl _) p) (fun k hk => ?_) (fun i x j g v hx hg' hv => ?_)
    · rw [hlen] at this ⊢; exact this
    · rw [hlen, ← hvsz] at hk
      refine ⟨vs[k], by simp [hk], ?_⟩
      have hk' : k < gs.length := by rw [hcells]; exact hk
      exact (hcs k gs[k] vs[k] (List.getElem?_eq_getElem hk') (by simp [hk])).2
    · exact (hcs _ g v ((hget i x hx).2 j g hg') hv).1.mono hE.keep
  have hv : RV ⟨c.σ, c.τ, c.μ, c.hid, c.w.alloc (.cells vs e)⟩ (.lit (group b z.cells.size n gs)) (.slice (some ⟨c.w.heap.size, 0, none⟩) n n) := by
    have := RV.lit (c := ⟨c.σ, c.τ, c.μ, c.hid, c.w.alloc (.cells vs e)⟩) _ _ hR
    rw [hlen] at this
    exact this
  exact ⟨_, rfl, hr', hE, hv⟩

/-- What is appended to a slice without room is a new array. -/
theorem PO_append_lit {x y : Operand} {t e : TypeId} {es xs : List GV} {size bytes : Nat} {z : Value} (ho : o.op = .call { callee := .builtin .append, args := ⟨[x, y]⟩, argTypes := ⟨[t, t]⟩ })
    (ht : P.underlying t = some (.slice e)) (hs : szB P e = some size) (hby : bytesB P e = some bytes) (hz : zeroB P e = some z) (hzs : Nat.beq z.cells.size size = true) (hx : ρ x = .lit es) (hy : elems (ρ y) = some xs)
    (hes : ∀ x ∈ es, x.cells.length = size) (hxs : ∀ x ∈ xs, x.cells.length = size) (hpos : 0 < xs.length) (hfit : (es.length + xs.length) * bytes ≤ 140737488355328) (hmax : es.length + xs.length ≤ maxLen) :
    PO P o ρ H (.own (es ++ xs) H.tk.length) ⟨H.bx, H.tk ++ [(e, es.length + xs.length)], H.mu⟩ := by
  intro c ρr hr hxx
  have hx1 := hxx x (by simp [ho, Op.operands, Call.operands])
  have hy1 := elems_ok (hxx y (by simp [ho, Op.operands, Call.operands])) hy
  rw [hx] at hx1
  have hzs := Nat.eq_of_beq_eq_true hzs
  obtain ⟨i, hi⟩ : ∃ i, P.info? e = some i := by
    unfold szB at hs
    cases h : P.info? e with
    | none => rw [h] at hs; cases hs
    | some i => exact ⟨i, rfl⟩
  have hisz : i.size = size := by unfold szB at hs; rw [hi] at hs; simpa using hs
  have hiby : i.bytes = bytes := by unfold bytesB at hby; rw [hi] at hby; simpa using hby
  have hiz : i.zero = some z := by
    unfold zeroB at hz; rw [hi] at hz; simpa using hz
  subst hisz; subst hiby
  generalize hvx : ρr x = v at hx1
  generalize hvy : ρr y = u at hy1
  have hop : (execOp ρr o).run P c.w = ((Builtin.append_ #[t, t] o.type #[v, u]).run P c.w).andThen fun r w => .ok (.value r) w := by
    simp [execOp, ho, resolve, invoke, builtin, hvx, hvy]
  unfold OpGoes
  rw [hop]
  obtain ⟨a, m, news, rfl, ln, hnews, hn1, hnrg⟩ := slice_cells hy1 hxs (by rintro rfl; simp at hpos)
  cases hx1 with
  | lit _ b hrg =>
  obtain ⟨olds, lo, hocell, ho1, horg⟩ : ∃ olds : List Value, olds.length = es.length * i.size ∧ (∀ j v, olds[j]? = some v → c.w.cell? (b.add j) = some v) ∧ (∀ v ∈ olds, v.oneCell' = true) ∧
      ∀ (k : Nat) (x : GV) (j : Nat) (g : GV) (v : Value), es[k]? = some x → x.cells[j]? = some g → olds[k * i.size + j]? = some v → RG c.w c.stab g v := by
    by_cases hes0 : es = []
    · subst hes0; exact ⟨[], by simp, by simp, by simp, by simp⟩
    · obtain ⟨a', m', olds, e1, l1, l2, l3, l4⟩ := slice_cells hrg hes hes0
      cases e1
      exact ⟨olds, l1, l2, l3, l4⟩
  have hg : es.length < es.length + xs.length := by omega
  have h63 : ((es.length + xs.length : Nat) : Int) ≤ 9223372036854775807 := by simp only [maxLen] at hmax; omega
  rw [run_append_grow c.w t o.type e i z ht hi hiz b es.length es.length olds lo hocell a xs.length m news ln hnews hg h63 (growslice_fits hg hfit)]
  have hge := grownCap_ge c.w (es.length + xs.length) es.length e
  generalize hw' : c.w.drew.alloc (.cells (olds.toArray ++ news.toArray ++ Builtin.zeroCells z.cells (grownCap c.w (es.length + xs.length) es.length e - (es.length + xs.length))) e) = w'
  have hext : Ext c.w w' := by rw [← hw']; exact (Ext.drew c.w).trans (Ext.alloc _ _)
  have hblk : w'.heap[c.w.heap.size]? = some (.cells (olds.toArray ++ news.toArray ++ Builtin.zeroCells z.cells (grownCap c.w (es.length + xs.length) es.length e - (es.length + xs.length))) e (0, 0)) := by
    rw [← hw']; exact Go.heap_alloc_new c.w.drew _
  have hsz : (olds.toArray ++ news.toArray ++ Builtin.zeroCells z.cells (grownCap c.w (es.length + xs.length) es.length e - (es.length + xs.length))).size = grownCap c.w (es.length + xs.length) es.length e * i.size := by
    simp only [Array.size_append, List.size_toArray, size_zeroCells, hzs, lo, ln]
    rw [← Nat.add_mul, ← Nat.add_mul]
    congr 1
    omega
  have hcm := grownCap_le_maxLen c.w (es.length + xs.length) es.length e hmax
  obtain ⟨hr', hE⟩ := hr.addTok hext (t := ⟨true, c.w.heap.size, e, i.size, grownCap c.w (es.length + xs.length) es.length e, es.length + xs.length⟩) rfl (Nat.le_refl _) hblk hsz hge hcm hs
  have hR := RG_appended (w := w') (S := Ctx.stab ⟨c.σ, c.τ ++ [⟨true, c.w.heap.size, e, i.size, grownCap c.w (es.length + xs.length) es.length e, es.length + xs.length⟩], c.μ, c.hid, w'⟩) (es := es) (xs := xs) (size := i.size) (olds := olds) (news := news)
    (rest := (Builtin.zeroCells z.cells (grownCap c.w (es.length + xs.length) es.length e - (es.length + xs.length))).toList) hblk (by simp) lo ln hes hxs hge hcm (fun p hp => by
      refine ⟨fun h => ?_, fun h => ?_, fun t ht lv e' => ?_, fun t ht lv e' => ?_⟩
      · have := hr.hidlt _ _ h; omega
      · have := hr.shid _ h; omega
      · rcases List.mem_append.1 ht with ht | ht
        · have := hr.tlt ht lv; omega
        · simp only [List.mem_singleton] at ht; subst ht; exact hp
      · have := hr.mlt t ht lv; omega) (fun k x j g v h1 h2 h3 => (horg k x j g v h1 h2 h3).mono hE.keep) (fun k x j g v h1 h2 h3 => (hnrg k x j g v h1 h2 h3).mono hE.keep) ho1 hn1
  refine ⟨_, rfl, hr', hE, .own _ _ _ ⟨true, c.w.heap.size, e, i.size, grownCap c.w (es.length + xs.length) es.length e, es.length + xs.length⟩ hR ?_ (fun k x hx => ?_) (by simp) (fun _ => .inl ⟨rfl, by simp⟩)⟩
  · show (c.τ ++ [_])[H.tk.length]? = _
    have : c.τ.length = H.tk.length := by rw [← hr.tk]; simp
    rw [← this]; simp
  · rcases List.mem_append.1 (List.mem_of_getElem? hx) with h | h
    · exact hes x h
    · exact hxs x h

/-- The same of bytes. -/
theorem PO_appb_lit {x y : Operand} {t e : TypeId} {xs : List GV} {bytes : Nat} {z : Value} (b l : List UInt8) (ho : o.op = .call { callee := .builtin .append, args := ⟨[x, y]⟩, argTypes := ⟨[t, t]⟩ })
    (ht : P.underlying t = some (.slice e)) (hs : szB P e = some 1) (hby : bytesB P e = some bytes) (hz : zeroB P e = some z) (hzs : Nat.beq z.cells.size 1 = true) (hx : ρ x = .lit (bys b)) (hy : elems (ρ y) = some xs)
    (hxs : xs = bys l) (hpos : 0 < l.length) (hfit : (b.length + l.length) * bytes ≤ 140737488355328) (hmax : b.length + l.length ≤ maxLen) :
    PO P o ρ H (.own (bys (b ++ l)) H.tk.length) ⟨H.bx, H.tk ++ [(e, (b ++ l).length)], H.mu⟩ := by
  subst hxs
  have h1 : (bys b).length = b.length := by simp [bys]
  have h2 : (bys l).length = l.length := by simp [bys]
  have h3 : ∀ l : List UInt8, ∀ x ∈ bys l, x.cells.length = 1 := by intro l x hx; obtain ⟨v, _, rfl⟩ := List.mem_map.1 hx; rfl
  have := PO_append_lit (ρ := ρ) (H := H) ho ht hs hby hz hzs hx hy (h3 b) (h3 l) (by rw [h2]; exact hpos) (by rw [h1, h2]; exact hfit) (by rw [h1, h2]; exact hmax)
  rw [h1, h2] at this
  have e : bys b ++ bys l = bys (b ++ l) := by simp [bys]
  rw [e] at this
  rw [List.length_append]
  exact this
end
end Go.Pure


/- A generic layer: slices that are made with their zero values. -/
namespace Go.Pure
open Go

section
variable {P : Program} {o : Oper} {ρ : Operand → PV} {H : PH}

theorem PO_makeSlice (n : Nat) {t e size m : Nat} {x y : Operand} {k1 k2 : IntKind} {z : Value} {b : Bool} {gs : List GV} (ho : o.op = .makeSlice t x y) (hx1 : ρ x = .g (.int k1 n)) (hy1 : ρ y = .g (.int k2 n))
    (he : P.underlying t = some (.slice e)) (hs : szB P e = some size) (_ha : aggB P e = some b)
    (hz : zeroB P e = some z) (hby : bytesB P e = some m) (hz1 : z.cells.toList.all (·.oneCell') = true) (hzs : Nat.beq z.cells.size size = true) (hpos : Nat.ble 1 size = true) (hb : (b || Nat.beq size 1) = true) (hn : Nat.ble (n * size) 16777216 = true)
    (hm : Nat.ble (m * n) 281474976710656 = true) (hg : allG (zerosP z n) = some gs) : PO P o ρ H (.g (.sl (group b size n gs))) H := by
  intro c ρr hr hx
  have hzs := Nat.eq_of_beq_eq_true hzs
  have hpos := Nat.le_of_ble_eq_true hpos
  have hn := Nat.le_of_ble_eq_true hn
  have hm := Nat.le_of_ble_eq_true hm
  subst hzs
  have h1 := hx x (by simp [ho, Op.operands])
  have h2 := hx y (by simp [ho, Op.operands])
  rw [hx1] at h1
  rw [hy1] at h2
  have q1 : ρr x = .int k1 n := RV_int h1
  have q2 : ρr y = .int k2 n := RV_int h2
  obtain ⟨i, hi, hsz⟩ : ∃ i, P.info? e = some i ∧ i.size = z.cells.size := by
    unfold szB at hs
    cases hu : P.info? e with
    | none => rw [hu] at hs; cases hs
    | some i => rw [hu] at hs; exact ⟨i, rfl, by simpa using hs⟩
  have hiz : i.zero = some z := by unfold zeroB at hz; rw [hi] at hz; simpa using hz
  have hib : i.bytes = m := by unfold bytesB at hby; rw [hi] at hby; simpa using hby
  have hnn : n ≤ n * z.cells.size := Nat.le_mul_of_pos_right _ hpos
  have hv2 := zeros_ok c hz1 hpos n
  have hrun : (execOp ρr o).run P c.w = .ok (.value (.slice (some ⟨c.w.heap.size, 0, none⟩) n n)) (c.w.alloc (.cells ((Array.range (n * z.cells.size)).map (z.cells[· % z.cells.size]!)) e)) := by
    have hbb : (i.bytes : Int) * (n : Int) ≤ 281474976710656 := by
      rw [hib]
      have h : ((m * n : Nat) : Int) ≤ 281474976710656 := by omega
      rwa [Int.natCast_mul] at h
    have hr := run_make (P := P) c.w t e i z he hi hiz k1 k2 n n (by omega) (Int.le_refl _) hbb (by omega)
    simp only [Int.toNat_natCast, hsz, madeCells] at hr
    simp [execOp, ho, q1, q2, hr]
  unfold OpGoes
  rw [hrun]
  generalize hvs : (Array.range (n * z.cells.size)).map (z.cells[· % z.cells.size]!) = vs at hv2
  obtain ⟨hr', hE⟩ := hr.grow (Ext.alloc c.w (.cells vs e))
  have hvsz : vs.size = n * z.cells.size := by rw [← hvs]; simp
  have hcells : gs.length = vs.size := by rw [(allG_ok (c := c) hg).1, zerosP_length, hvsz]
  have hcs : ∀ (k : Nat) (g : GV) (v : Value), gs[k]? = some g → vs[k]? = some v → RG c.w c.stab g v ∧ v.oneCell' = true := by
    intro k g v hgk hvk
    have hlt : k < (zerosP z n).length := by rw [← (allG_ok (c := c) hg).1]; exact (List.getElem?_eq_some_iff.1 hgk).1
    obtain ⟨r1, r2⟩ := hv2.2 k (zerosP z n)[k] v (List.getElem?_eq_getElem hlt) hvk
    exact ⟨(allG_ok (c := c) hg).2 k g (zerosP z n)[k] hgk (List.getElem?_eq_getElem hlt) v r1, r2⟩
  have hone : b = false → z.cells.size = 1 ∧ ∀ g ∈ gs, g.cells = [g] := fun e => by
    subst e
    refine ⟨Nat.eq_of_beq_eq_true (by simpa using hb), fun g hg' => ?_⟩
    obtain ⟨k, hk⟩ := List.getElem?_of_mem hg'
    have hlt : k < vs.size := by rw [← hcells]; exact (List.getElem?_eq_some_iff.1 hk).1
    obtain ⟨r1, r2⟩ := hcs k g vs[k] hk (by simp [hlt])
    exact r1.cells_one r2
  have hlen : (group b z.cells.size n gs).length = n := group_length n gs b (fun e => (hone e).1) (by rw [hcells, hvsz])
  have hget := group_get n gs b hone (by rw [hcells, hvsz])
  refine ⟨_, rfl, hr', hE, .g _ _ ?_⟩
  have := RG_row (w := c.w.alloc (.cells vs e)) (S := Ctx.stab ⟨c.σ, c.τ, c.μ, c.hid, c.w.alloc (.cells vs e)⟩) (es := group b z.cells.size n gs) (size := z.cells.size) (cap := n) (Go.heap_alloc_new c.w _) (fun i x hx => (hget i x hx).1) (by omega) (by
      simp only [maxLen]; omega) (by rw [hlen, hvsz]; exact Nat.le_refl _) (fun p _ => fresh_stab hr (Nat.le_refl _) p) (fun k hk => ?_) (fun i x j g v hx hg' hv => ?_)
  · rw [hlen] at this; exact this
  · rw [hlen, ← hvsz] at hk
    refine ⟨vs[k], by simp [hk], ?_⟩
    have hk' : k < gs.length := by rw [hcells]; exact hk
    exact (hcs k gs[k] vs[k] (List.getElem?_eq_getElem hk') (by simp [hk])).2
  · exact (hcs _ g v ((hget i x hx).2 j g hg') hv).1.mono hE.keep
end
end Go.Pure


/- A generic layer: what is appended to a slice written out, told as a plain slice. -/
namespace Go.Pure
open Go

section
variable {P : Program} {o : Oper} {ρ : Operand → PV} {H : PH}

theorem PO_append_litg {x y : Operand} {t e : TypeId} {es xs : List GV} {size bytes : Nat} {z : Value} (ho : o.op = .call { callee := .builtin .append, args := ⟨[x, y]⟩, argTypes := ⟨[t, t]⟩ })
    (ht : P.underlying t = some (.slice e)) (hs : szB P e = some size) (hby : bytesB P e = some bytes) (hz : zeroB P e = some z) (hzs : Nat.beq z.cells.size size = true) (hx : ρ x = .lit es) (hy : elems (ρ y) = some xs) (hH : refsOkB H.bx.length H.tk.length H.mu.length H.bx = true)
    (hes : ∀ x ∈ es, x.cells.length = size) (hxs : ∀ x ∈ xs, x.cells.length = size) (hfit : (es.length + xs.length) * bytes ≤ 140737488355328) (hmax : es.length + xs.length ≤ maxLen) :
    PO P o ρ H (.g (.sl (es ++ xs))) H := by
  intro c ρr hr hxx
  by_cases hpos : 0 < xs.length
  · have q := PO_append_lit (H := H) ho ht hs hby hz hzs hx hy hes hxs hpos hfit hmax c ρr hr hxx
    unfold OpGoes at q ⊢
    have key : ∀ (rv : Value) (w' : World), (∃ c', c'.w = w' ∧ Rel P c' ⟨H.bx, H.tk ++ [(e, es.length + xs.length)], H.mu⟩ ∧ Evo c c' ∧ RV c' (.own (es ++ xs) H.tk.length) rv) → ∃ c', c'.w = w' ∧ Rel P c' H ∧ Evo c c' ∧ RV c' (.g (.sl (es ++ xs))) rv := by
      rintro rv w' ⟨c', rfl, hr', hE, hv⟩
      refine ⟨c'.cut H.bx.length H.tk.length H.mu.length, rfl, hr'.cut ⟨[], by simp⟩ ⟨_, rfl⟩ ⟨[], by simp⟩ (refsOkB_spec hH), hE.cut ?_ ?_ ?_, (pack_ok hv).cut (.g _)⟩
      · rw [hr.len]; exact Nat.le_refl _
      · have := congrArg List.length hr.tk; simp at this; omega
      · rw [hr.mlen]; exact Nat.le_refl _
    have hop : (execOp ρr o).run P c.w = ((Builtin.append_ #[t, t] o.type #[ρr x, ρr y]).run P c.w).andThen fun r w => .ok (.value r) w := by
      simp [execOp, ho, resolve, invoke, builtin]
    rw [hop] at q ⊢
    revert q
    cases (Builtin.append_ #[t, t] o.type #[ρr x, ρr y]).run P c.w with
    | ok rv w' => exact key rv w'
    | _ => exact fun h => h
  · have hxs0 : xs = [] := by cases xs with | nil => rfl | cons _ _ => simp at hpos
    subst hxs0
    have hx1 := hxx x (by simp [ho, Op.operands, Call.operands])
    have hy1 := elems_ok (hxx y (by simp [ho, Op.operands, Call.operands])) hy
    rw [hx] at hx1
    obtain ⟨i, hi⟩ : ∃ i, P.info? e = some i := by
      unfold szB at hs
      cases h : P.info? e with
      | none => rw [h] at hs; cases hs
      | some i => exact ⟨i, rfl⟩
    generalize hvx : ρr x = v at hx1
    generalize hvy : ρr y = u at hy1
    have hop : (execOp ρr o).run P c.w = ((Builtin.append_ #[t, t] o.type #[v, u]).run P c.w).andThen fun r w => .ok (.value r) w := by
      simp [execOp, ho, resolve, invoke, builtin, hvx, hvy]
    have hu : u = .slice none 0 0 ∨ ∃ a c', u = .slice (some a) 0 c' := by
      cases hy1 with
      | nil => exact .inl rfl
      | sl _ a cap => exact .inr ⟨a, cap, rfl⟩
    unfold OpGoes
    rw [hop]
    cases hx1 with
    | lit _ b hrg =>
    rw [run_append_zero c.w ht hi (some b) es.length es.length (Nat.le_refl _) (.inr ⟨_, rfl⟩) u hu]
    refine ⟨c, rfl, hr, Evo.refl c, ?_⟩
    rw [List.append_nil]
    exact .g _ _ hrg
end
end Go.Pure


/- A generic layer: what a result is, said in the prover's words; short names of the rules that a walk tries. -/
namespace Go.Pure
open Go

section
variable {P : Program} {o : Oper} {ρ : Operand → PV} {H : PH}
theorem PO_as {v v' : PV} {H' : PH} (h : PO P o ρ H v H') (e : v = v') : PO P o ρ H v' H' := e ▸ h
end
section
variable {P : Program} {K : List Nat} {o : Oper} {env : Env} {H H' : PH} {v : PV}
end
theorem qA : type_of% @POps_nil := @POps_nil
theorem qB : type_of% @POpsD_nil := @POpsD_nil
theorem oR : type_of% @POps_run := @POps_run
theorem cI : type_of% @PO_conv_int := @PO_conv_int
theorem mF : type_of% @PO_makeFunc := @PO_makeFunc
theorem bS : type_of% @PO_buildSlice := @PO_buildSlice
theorem nC : type_of% @PO_nilCheck := @PO_nilCheck
theorem xS : type_of% @PW_seq := @PW_seq
theorem xU : type_of% @PW_seq_unless := @PW_seq_unless
theorem xR : type_of% @PW_region := @PW_region
theorem xK : type_of% @PW_draw_auto := @PW_draw_auto
theorem xB : type_of% @PW_block := @PW_block
theorem xN : type_of% @PW_skip := @PW_skip
theorem xE : type_of% @PW_exit := @PW_exit
theorem xT : type_of% @PW_ret := @PW_ret
theorem xt : type_of% @PW_cond_t := @PW_cond_t
theorem xf : type_of% @PW_cond_f := @PW_cond_f
theorem cl : type_of% @call_pure := @call_pure
theorem cb : type_of% @call_box := @call_box
theorem ck : type_of% @call_clo := @call_clo
theorem iA : type_of% @PO_indexAddr := @PO_indexAddr
theorem aP : type_of% @PO_append := @PO_append
theorem vC : type_of% @resVs_cons := @resVs_cons
theorem vN : type_of% @resVs_nil := @resVs_nil
theorem vT : type_of% @resV_tmp := @resV_tmp
theorem vA : type_of% @resV_agg := @resV_agg
theorem wC : type_of% @resRs_cons := @resRs_cons
theorem wN : type_of% @resRs_nil := @resRs_nil
theorem lB : type_of% @Nat.le_of_ble_eq_true := @Nat.le_of_ble_eq_true
section
variable {P : Program} {T : Tab} {N : Nat} {all : Array Oper} {Z : Env → PH → Prop} {l l' rest : List Oper} {env env' : Env} {H H' : PH} {v : PV} {d : Option Tmp} {op : Op} {ty : TypeId} {pos : String} {aft : Array Edge} {g : Option (Nat × Bool)}
theorem ro1 (hT : TabOk P T) (h0 : canO T N all l env H = true) (h : runO T N all 300 l env H = some (l', env', H')) (k : POps P N all Z l' env' H') : POps P N all Z l env H := runO_ok hT 300 h0 h k
theorem ro2 (hT : TabOk P T) (h0 : canO T N all l env H = true) (h : runO T N all 6 l env H = some (l', env', H')) (k : POps P N all Z l' env' H') : POps P N all Z l env H := runO_ok hT 6 h0 h k
theorem ro3 (hT : TabOk P T) (h0 : canO T N all l env H = true) (h : runO T N all 1 l env H = some (l', env', H')) (k : POps P N all Z l' env' H') : POps P N all Z l env H := runO_ok hT 1 h0 h k
section
variable {K : List Nat}
theorem rd1 (hT : TabOk P T) (h0 : canD T N all K l env H = true) (h : runD T N all K 300 l env H = some (l', env', H')) (k : POpsD P N all K Z l' env' H') : POpsD P N all K Z l env H := runD_ok hT 300 h0 h k
theorem rd2 (hT : TabOk P T) (h0 : canD T N all K l env H = true) (h : runD T N all K 6 l env H = some (l', env', H')) (k : POpsD P N all K Z l' env' H') : POpsD P N all K Z l env H := runD_ok hT 6 h0 h k
theorem rd3 (hT : TabOk P T) (h0 : canD T N all K l env H = true) (h : runD T N all K 1 l env H = some (l', env', H')) (k : POpsD P N all K Z l' env' H') : POpsD P N all K Z l env H := runD_ok hT 1 h0 h k
theorem noneB_none {x : Option Tmp} (h : x = none) : noneB x = true := by subst h; rfl
theorem dF (hg : gd all ⟨d, op, ty, pos, aft, g⟩ env = some true) (hd : dstOk N d = true) (hk : kindB P op = 0) (h : ∀ H1, PO P ⟨d, op, ty, pos, aft, g⟩ env.eval H1 v H1) (k : POpsD P N all K Z rest (upd env d v) H) : POpsD P N all K Z (⟨d, op, ty, pos, aft, g⟩ :: rest) env H :=
  POpsD_run hg hd (Cond_f h hk) k (noneB_none (abT_kind (P := P) (by show kindB P op ≠ 3; rw [hk]; decide)))
theorem dP (hg : gd all ⟨d, op, ty, pos, aft, g⟩ env = some true) (hd : dstOk N d = true) (hk : frB K ⟨d, op, ty, pos, aft, g⟩ = true) (h : ∀ H1, PO P ⟨d, op, ty, pos, aft, g⟩ env.eval H1 v H1) (k : POpsD P N all K Z rest (upd env d v) H) : POpsD P N all K Z (⟨d, op, ty, pos, aft, g⟩ :: rest) env H :=
  POpsD_run hg hd (Cond_p h hk) k (noneB_none (frB_tt hk).2)
theorem dL (hg : gd all ⟨d, op, ty, pos, aft, g⟩ env = some true) (hd : dstOk N d = true) (hk : kindB P op = 1) (h : ∀ H1, PO P ⟨d, op, ty, pos, aft, g⟩ env.eval H1 v H1) (k : POpsD P N all K Z rest (upd env d v) H) : POpsD P N all K Z (⟨d, op, ty, pos, aft, g⟩ :: rest) env H :=
  POpsD_run hg hd (Cond_l h hk) k (noneB_none (abT_kind (P := P) (by show kindB P op ≠ 3; rw [hk]; decide)))
theorem dC (hg : gd all ⟨d, op, ty, pos, aft, g⟩ env = some true) (hd : dstOk N d = true) (hk : kindB P op = 2) (hf : plB K ⟨d, op, ty, pos, aft, g⟩ = true) (h : PO P ⟨d, op, ty, pos, aft, g⟩ env.eval H v H') (hq : KEq K H H') (k : POpsD P N all K Z rest (upd env d v) H') : POpsD P N all K Z (⟨d, op, ty, pos, aft, g⟩ :: rest) env H :=
  POpsD_run hg hd (Cond_c h hq hk hf) k (noneB_none (plB_spec hf).2.1)
theorem kQ (h : KEq K H H' := by first | exact KEq.refl _ _ | (repeat (first | exact trivial | refine And.intro rfl ?_ | refine And.intro trivial ?_))) : KEq K H H' := h
end
section
variable {id : Nat} {Q : Exit → Env → PH → Prop} {K0 K : List Nat}
theorem qxa (h0 : upTo H.bx lits = some K0) (ha : autoK l env (isNil H.mu) false false K0 = some K) (hm : P.follows .mixedOrders = true) (h : POpsD P N l.toArray K (fun env H => Q .normal env H) l env H) (hd : drawB P K l = true := by decide +kernel) : PW P N (.region id l.toArray true) Q env H := PW_draw_all false false h0 ha hm hd h
theorem qxb (h0 : upTo H.bx lits = some K0) (ha : autoK l env (isNil H.mu) false true K0 = some K) (hm : P.follows .mixedOrders = true) (h : POpsD P N l.toArray K (fun env H => Q .normal env H) l env H) (hd : drawB P K l = true := by decide +kernel) : PW P N (.region id l.toArray true) Q env H := PW_draw_all false true h0 ha hm hd h
theorem qxc (h0 : upTo H.bx lits = some K0) (ha : autoK l env (isNil H.mu) true false K0 = some K) (hm : P.follows .mixedOrders = true) (h : POpsD P N l.toArray K (fun env H => Q .normal env H) l env H) (hd : drawB P K l = true := by decide +kernel) : PW P N (.region id l.toArray true) Q env H := PW_draw_all true false h0 ha hm hd h
theorem qxd (h0 : upTo H.bx lits = some K0) (ha : autoK l env (isNil H.mu) true true K0 = some K) (hm : P.follows .mixedOrders = true) (h : POpsD P N l.toArray K (fun env H => Q .normal env H) l env H) (hd : drawB P K l = true := by decide +kernel) : PW P N (.region id l.toArray true) Q env H := PW_draw_all true true h0 ha hm hd h
end
end
end Go.Pure

