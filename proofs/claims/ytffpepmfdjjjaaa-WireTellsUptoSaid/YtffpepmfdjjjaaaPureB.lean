/- A generic layer: values without memory, and code over them. -/
import Derived.Test.YtffpepmfdjjjaaaPureA
import Derived.Laws.IdiomStrings
import Derived.Laws.BytesArg
/- A generic layer: slices that are made. -/
namespace Go.Pure
open Go

theorem RG.cells_one {w : World} {S : Nat → Nat → Prop} {g : GV} {v : Value} (h : RG w S g v) (h1 : v.oneCell' = true) : g.cells = [g] := by
  cases h with
  | agg => cases h1
  | _ => rfl

/-- A row of cells, parted into elements. -/
def group (b : Bool) (size : Nat) : Nat → List GV → List GV
  | 0, _ => []
  | n + 1, gs => bif b then .agg (gs.take size) :: group b size n (gs.drop size) else (match gs with | g :: r => g :: group b size n r | [] => [])

theorem group_length {size : Nat} : ∀ (n : Nat) (gs : List GV) (b : Bool), (b = false → size = 1) → gs.length = n * size → (group b size n gs).length = n
  | 0, _, _, _, _ => rfl
  | n + 1, gs, true, hb, hl => by
    simp only [group, cond_true, List.length_cons, Nat.add_right_cancel_iff]
    exact group_length n _ true hb (by simp [hl, Nat.add_mul])
  | n + 1, gs, false, hb, hl => by
    have h1 := hb rfl
    subst h1
    cases gs with
    | nil => simp at hl
    | cons g r => simp only [group, cond_false, List.length_cons, Nat.add_right_cancel_iff]; exact group_length n r false hb (by simp at hl; omega)

theorem group_get {size : Nat} : ∀ (n : Nat) (gs : List GV) (b : Bool), (b = false → size = 1 ∧ ∀ g ∈ gs, g.cells = [g]) → gs.length = n * size →
    ∀ (i : Nat) (e : GV), (group b size n gs)[i]? = some e → e.cells.length = size ∧ ∀ j g, e.cells[j]? = some g → gs[i * size + j]? = some g
  | 0, _, _, _, _, i, e, h => by simp [group] at h
  | n + 1, gs, true, hb, hl, i, e, h => by
    simp only [group, cond_true] at h
    cases i with
    | zero =>
      simp at h
      subst h
      refine ⟨by simp [GV.cells, hl, Nat.add_mul], fun j g hj => ?_⟩
      simp only [GV.cells, List.getElem?_take] at hj
      split at hj
      · simpa using hj
      · cases hj
    | succ i =>
      obtain ⟨h1, h2⟩ := group_get (size := size) n (gs.drop size) true (by simp) (by simp [hl, Nat.add_mul]) i e (by simpa using h)
      refine ⟨h1, fun j g hj => ?_⟩
      have := h2 j g hj
      rw [List.getElem?_drop] at this
      rw [← this]
      congr 1
      rw [Nat.add_mul]; omega
  | n + 1, gs, false, hb, hl, i, e, h => by
    obtain ⟨h1, hc⟩ := hb rfl
    subst h1
    cases gs with
    | nil => simp at hl
    | cons g r =>
      simp only [group, cond_false] at h
      cases i with
      | zero =>
        simp at h
        subst h
        rw [hc g (by simp)]
        refine ⟨rfl, fun j g' hj => ?_⟩
        cases j with
        | zero => simpa using hj
        | succ j => simp at hj
      | succ i =>
        obtain ⟨h1, h2⟩ := group_get n r false (fun _ => ⟨rfl, fun g' hg' => hc g' (by simp [hg'])⟩) (by simp at hl; omega) i e (by simpa using h)
        refine ⟨h1, fun j g' hj => ?_⟩
        have := h2 j g' hj
        rw [show (i + 1) * 1 + j = (i * 1 + j) + 1 by omega, List.getElem?_cons_succ]
        exact this

section
variable {P : Program} {o : Oper} {ρ : Operand → PV} {H : PH}

/-- A slice of a new row reads as its elements. -/
theorem RG_row {w : World} {S : Nat → Nat → Prop} {blk : Nat} {cur : Array Value} {e : TypeId} {es : List GV} {size cap : Nat} (hb : w.heap[blk]? = some (.cells cur e (0, 0)))
    (hs : ∀ (i : Nat) (x : GV), es[i]? = some x → x.cells.length = size) (hc : es.length ≤ cap) (hm : cap ≤ maxLen) (_hl : es.length * size ≤ cur.size) (hS : ∀ p, p < es.length * size → S blk p)
    (h1 : ∀ k, k < es.length * size → ∃ v, cur[k]? = some v ∧ v.oneCell' = true)
    (h : ∀ (i : Nat) (x : GV) (j : Nat) (g : GV) (v : Value), es[i]? = some x → x.cells[j]? = some g → cur[i * size + j]? = some v → RG w S g v) :
    RG w S (.sl es) (.slice (some ⟨blk, 0, none⟩) es.length cap) := by
  refine .sl es ⟨blk, 0, none⟩ cap size (fun k => cur[k]?.getD undef) (fun _ => rfl) hc hm hs (fun k hk => ?_) (fun i x j g hx hg => ?_)
  · obtain ⟨v, hv, hv1⟩ := h1 k hk
    rw [add_eq _ _ rfl]
    simp only [Nat.zero_add]
    refine ⟨?_, hS k hk, by rw [hv]; exact hv1⟩
    rw [cell_of_row w blk k cur e (0, 0) hb, hv]; rfl
  · have hi := (List.getElem?_eq_some_iff.1 hx).1
    have hj : j < size := by rw [← hs i x hx]; exact (List.getElem?_eq_some_iff.1 hg).1
    have hlt : i * size + j < es.length * size := by
      calc i * size + j < i * size + size := by omega
        _ = (i + 1) * size := by rw [Nat.add_mul, Nat.one_mul]
        _ ≤ es.length * size := Nat.mul_le_mul_right _ hi
    obtain ⟨v, hv, _⟩ := h1 _ hlt
    show RG w S g (cur[i * size + j]?.getD undef)
    rw [hv]
    exact h i x j g v hx hg hv

theorem fresh_stab {c : Ctx} (hr : Rel P c H) {blk : Nat} (h : c.w.heap.size ≤ blk) {w' : World} (p : Nat) : Ctx.stab ⟨c.σ, c.τ, c.μ, c.hid, w'⟩ blk p := by
  refine ⟨fun hh => ?_, fun hm => ?_, fun t ht lv e => ?_, fun t ht lv e => ?_⟩
  · have := hr.hidlt _ _ hh; omega
  · have := hr.shid _ hm; omega
  · have := hr.tlt ht lv; omega
  · have := hr.mlt t ht lv; omega

def zerosP (z : Value) : Nat → List PV
  | 0 => []
  | n + 1 => z.cells.toList.map constC ++ zerosP z n
theorem zerosP_length (z : Value) (n : Nat) : (zerosP z n).length = n * z.cells.size := by
  induction n with
  | zero => simp [zerosP]
  | succ n ih => simp [zerosP, ih, Nat.add_mul, Nat.add_comm]
theorem zerosP_get {z : Value} (hpos : 0 < z.cells.size) : ∀ (n j : Nat), j < n * z.cells.size → (zerosP z n)[j]? = (z.cells.toList.map constC)[j % z.cells.size]?
  | 0, j, h => by simp at h
  | n + 1, j, h => by
    unfold zerosP
    by_cases hj : j < z.cells.size
    · rw [List.getElem?_append_left (by simpa using hj), Nat.mod_eq_of_lt hj]
    · rw [List.getElem?_append_right (by simpa using hj)]
      simp only [List.length_map, Array.length_toList]
      rw [zerosP_get hpos n _ (by rw [Nat.add_mul] at h; omega), ← Nat.mod_eq_sub_mod (by omega)]

theorem zeros_ok (c : Ctx) {z : Value} (h1 : z.cells.toList.all (·.oneCell') = true) (hpos : 0 < z.cells.size) (n : Nat) :
    RCs c (zerosP z n) ((Array.range (n * z.cells.size)).map (z.cells[· % z.cells.size]!)) := by
  refine ⟨by simp [zerosP_length], fun j p v hp hv => ?_⟩
  have hj : j < n * z.cells.size := by rw [← zerosP_length]; exact (List.getElem?_eq_some_iff.1 hp).1
  rw [zerosP_get hpos n j hj] at hp
  have hmod : j % z.cells.size < z.cells.size := Nat.mod_lt _ hpos
  simp [hj] at hv
  refine (zero_ok c h1).2 (j % z.cells.size) p v hp ?_
  rw [← hv]
  simp [hmod]

theorem PO_buildSlice {t n e size : Nat} {parts : Array (Nat × Operand)} {z : Value} {b : Bool} {cs : List PV} {gs : List GV} (ho : o.op = .buildSlice t n parts) (he : P.underlying t = some (.slice e)) (hs : szB P e = some size) (_ha : aggB P e = some b)
    (hz : zeroB P e = some z) (hz1 : z.cells.toList.all (·.oneCell') = true) (hzs : Nat.beq z.cells.size size = true) (hpos : Nat.ble 1 size = true) (hb : (b || Nat.beq size 1) = true) (hn : Nat.ble (n * size) 16777216 = true)
    (hfill : fillP (fun i => some (i * size, size)) (zerosP z n) (partsP ρ parts.toList) = some cs) (hg : allG cs = some gs) : PO P o ρ H (.g (.sl (group b size n gs))) H := by
  intro c ρr hr hx
  have hzs := Nat.eq_of_beq_eq_true hzs
  have hpos := Nat.le_of_ble_eq_true hpos
  have hn := Nat.le_of_ble_eq_true hn
  subst hzs
  obtain ⟨vs, hv1, hv2⟩ := fill_ok (c := c) (partsP ρ parts.toList) ((parts.map fun (i, x) => (i, ρr x)).toList) (zerosP z n) _ cs (zeros_ok c hz1 hpos n) (by simp [partsP_eq]) (by
    intro k x y hx1 hy
    rw [partsP_eq] at hx1
    simp only [List.getElem?_map, Option.map_eq_some_iff, Array.toList_map] at hx1 hy
    obtain ⟨q, hq, rfl⟩ := hx1
    obtain ⟨q', hq', rfl⟩ := hy
    rw [hq] at hq'
    cases hq'
    exact ⟨rfl, hx q.2 (by
      rw [ho]
      simpa [Op.operands] using ⟨q.1, by simpa using List.mem_of_getElem? hq⟩)⟩) hfill
  have hv1 : Instr.fill (fun i => some (i * z.cells.size, z.cells.size)) ((Array.range (n * z.cells.size)).map (z.cells[· % z.cells.size]!)) (List.map (fun x => (x.1, ρr x.2)) parts.toList) = some vs := by simpa using hv1
  have hrun : (execOp ρr o).run P c.w = .ok (.value (.slice (some ⟨c.w.heap.size, 0, none⟩) n n)) (c.w.alloc (.cells vs e)) := by
    have hne : ¬ (n * z.cells.size > 2 ^ 24) := by simp only [Nat.reducePow]; omega
    by_cases h0 : n * z.cells.size = 0
    · obtain rfl : n = 0 := by
        rcases Nat.mul_eq_zero.1 h0 with h | h
        · exact h
        · omega
      have e0 : ∀ f : Nat → Value, (Array.range (0 * z.cells.size)).map f = #[] := fun f => by simp
      rw [e0] at hv1
      have e1 : Array.map (fun _ : Nat => (default : Value)) (Array.range 0) = #[] := by simp
      simp [execOp, ho, Instr.buildSlice, run_underlying he, run_sizeOf hs, newRow, newObj, e1, hv1, Sem.run]
    · simp [execOp, ho, Instr.buildSlice, run_underlying he, run_sizeOf hs, hne, h0, run_zero hz, newRow, newObj, hv1, Sem.run]
  unfold OpGoes
  rw [hrun]
  obtain ⟨hr', hE⟩ := hr.grow (Ext.alloc c.w (.cells vs e))
  have hcells : gs.length = vs.size := by rw [(allG_ok (c := c) hg).1, hv2.1]
  have hcs : ∀ (k : Nat) (g : GV) (v : Value), gs[k]? = some g → vs[k]? = some v → RG c.w c.stab g v ∧ v.oneCell' = true := by
    intro k g v hgk hvk
    have hlt : k < cs.length := by rw [← (allG_ok (c := c) hg).1]; exact (List.getElem?_eq_some_iff.1 hgk).1
    obtain ⟨r1, r2⟩ := hv2.2 k cs[k] v (List.getElem?_eq_getElem hlt) hvk
    exact ⟨(allG_ok (c := c) hg).2 k g cs[k] hgk (List.getElem?_eq_getElem hlt) v r1, r2⟩
  have hvsz : vs.size = n * z.cells.size := by
    rw [hv2.1]
    have : ∀ (ps : List (Nat × PV)) (l l' : List PV), fillP (fun i => some (i * z.cells.size, z.cells.size)) l ps = some l' → l'.length = l.length := by
      intro ps
      induction ps with
      | nil => intro l l' h; simp [fillP] at h; rw [h]
      | cons p ps ih =>
        obtain ⟨i, p⟩ := p
        intro l l' h
        unfold fillP at h
        split at h
        · rename_i off n' ds hpl hds
          cases hb : (Nat.beq ds.length n' && Nat.ble (off + n') l.length) with
          | false => rw [hb] at h; cases h
          | true =>
            rw [hb, cond_true] at h
            rw [ih _ _ h]
            simp only [Bool.and_eq_true] at hb
            have e1 := Nat.eq_of_beq_eq_true hb.1
            have e2 := Nat.le_of_ble_eq_true hb.2
            simp [splice]; omega
        · cases h
    rw [this _ _ _ hfill, zerosP_length]
  have hone : b = false → z.cells.size = 1 ∧ ∀ g ∈ gs, g.cells = [g] := fun e => by
    subst e
    refine ⟨Nat.eq_of_beq_eq_true (by simpa using hb), fun g hg' => ?_⟩
    obtain ⟨k, hk⟩ := List.getElem?_of_mem hg'
    have hlt : k < vs.size := by rw [← hcells]; exact (List.getElem?_eq_some_iff.1 hk).1
    obtain ⟨r1, r2⟩ := hcs k g vs[k] hk (by simp [hlt])
    exact r1.cells_one r2
  have hlen : (group b z.cells.size n gs).length = n := group_length n gs b (fun e => (hone e).1) (by rw [hcells, hvsz])
  have hget := group_get n gs b hone (by rw [hcells, hvsz])
  refine ⟨_, rfl, hr', hE, .g _ _ ?_⟩
  have := RG_row (w := c.w.alloc (.cells vs e)) (S := Ctx.stab ⟨c.σ, c.τ, c.μ, c.hid, c.w.alloc (.cells vs e)⟩) (es := group b z.cells.size n gs) (size := z.cells.size) (cap := n) (Go.heap_alloc_new c.w _) (fun i x hx => (hget i x hx).1) (by omega) (by
      have : n ≤ n * z.cells.size := Nat.le_mul_of_pos_right _ hpos
      simp only [maxLen]; omega) (by rw [hlen, hvsz]; exact Nat.le_refl _) (fun p _ => fresh_stab hr (Nat.le_refl _) p) (fun k hk => ?_) (fun i x j g v hx hg' hv => ?_)
  · rw [hlen] at this; exact this
  · rw [hlen, ← hvsz] at hk
    refine ⟨vs[k], by simp [hk], ?_⟩
    have hk' : k < gs.length := by rw [hcells]; exact hk
    exact (hcs k gs[k] vs[k] (List.getElem?_eq_getElem hk') (by simp [hk])).2
  · exact (hcs _ g v ((hget i x hx).2 j g hg') hv).1.mono hE.keep
end
end Go.Pure

/- A generic layer: a contract over some boxes and arrays is one over more of them. -/
namespace Go.Pure
open Go

mutual
/-- A value, its boxes and arrays numbered anew. -/
def ren (ι κ ν : Nat → Option Nat) : PV → PV
  | .g x => .g x
  | .own es id => match κ id with | some id' => .own es id' | none => .g (.sl es)
  | .ptr b off => match ι b with | some b' => .ptr b' off | none => .any
  | .nilp => .nilp
  | .nils => .nils
  | .pat cs => .pat cs
  | .clo f a b => .clo f (renL ι κ ν a) (renL ι κ ν b)
  | .agg cs => .agg (renL ι κ ν cs)
  | .tuple cs => .tuple (renL ι κ ν cs)
  | .lit es => .lit es
  | .mar id n => match ν id with | some id' => .mar id' n | none => .any
  | .mref id n i off => match ν id with | some id' => .mref id' n i off | none => .any
  | .mp id => match ν id with | some id' => .mp id' | none => .any
  | .any => .any
def renL (ι κ ν : Nat → Option Nat) : List PV → List PV
  | [] => []
  | p :: r => ren ι κ ν p :: renL ι κ ν r
end
theorem renL_eq (ι κ ν : Nat → Option Nat) : ∀ l, renL ι κ ν l = l.map (ren ι κ ν)
  | [] => by simp [renL]
  | p :: r => by simp [renL, renL_eq ι κ ν r]

theorem RV_ren {c c1 : Ctx} {ι κ ν : Nat → Option Nat} (hw : c1.w = c.w) (hst : ∀ b p, c.stab b p → c1.stab b p)
    (hι : ∀ b b' blk, ι b = some b' → c.σ[b]? = some blk → c1.σ[b']? = some blk) (hκ : ∀ i i' t, κ i = some i' → c.τ[i]? = some t → c1.τ[i']? = some t) (hν : ∀ i i' t, ν i = some i' → c.μ[i]? = some t → c1.μ[i']? = some t) {p : PV} {v : Value} (h : RV c p v) : RV c1 (ren ι κ ν p) v := by
  have hk : Keeps c.w c1.w c.stab c1.stab := fun a v _ hs hc => ⟨by rw [hw]; exact hc, hst _ _ hs⟩
  induction h with
  | g x v h => simp only [ren]; exact .g x v (h.mono hk)
  | own es id v t h ht hs hl hv =>
    simp only [ren]
    split
    · rename_i id' e; exact .own es id' v t (h.mono hk) (hκ id id' t e ht) hs hl hv
    · exact .g _ _ (h.mono hk)
  | ptr b off blk h =>
    simp only [ren]
    split
    · rename_i b' e; exact .ptr b' off blk (hι b b' blk e h)
    · exact .any _
  | nilp => simp only [ren]; exact .nilp
  | nils => simp only [ren]; exact .nils
  | pat cs a f ha hf h =>
    simp only [ren]
    exact .pat cs a f ha (fun k hk' => ⟨by rw [hw]; exact (hf k hk').1, hst _ _ (hf k hk').2.1, (hf k hk').2.2⟩) (fun j g hj => (h j g hj).mono hk)
  | clo fn ps qs us vs hp hq _ _ h1 h2 =>
    simp only [ren, renL_eq]
    refine .clo fn _ _ us vs (by simpa using hp) (by simpa using hq) (fun i p v hp' hv => ?_) (fun i p v hp' hv => ?_)
    · simp only [List.getElem?_map, Option.map_eq_some_iff] at hp'
      obtain ⟨q, hq', rfl⟩ := hp'
      exact h1 i q v hq' hv
    · simp only [List.getElem?_map, Option.map_eq_some_iff] at hp'
      obtain ⟨q, hq', rfl⟩ := hp'
      exact h2 i q v hq' hv
  | agg cs vs hl h1 _ ih =>
    simp only [ren, renL_eq]
    refine .agg _ vs (by simpa using hl) h1 fun i p v hp' hv => ?_
    simp only [List.getElem?_map, Option.map_eq_some_iff] at hp'
    obtain ⟨q, hq', rfl⟩ := hp'
    exact ih i q v hq' hv
  | tuple cs vs hl _ ih =>
    simp only [ren, renL_eq]
    refine .tuple _ vs (by simpa using hl) fun i p v hp' hv => ?_
    simp only [List.getElem?_map, Option.map_eq_some_iff] at hp'
    obtain ⟨q, hq', rfl⟩ := hp'
    exact ih i q v hq' hv
  | lit es a h => simp only [ren]; exact .lit es a (h.mono hk)
  | mar id n v t ht hn h1 hv =>
    simp only [ren]
    split
    · rename_i id' e; exact .mar id' n v t (hν id id' t e ht) hn h1 hv
    · exact .any _
  | mref id n i off v t ht hn h1 hv =>
    simp only [ren]
    split
    · rename_i id' e; exact .mref id' n i off v t (hν id id' t e ht) hn h1 hv
    · exact .any _
  | mp id v t ht h1 hv =>
    simp only [ren]
    split
    · rename_i id' e; exact .mp id' v t (hν id id' t e ht) h1 hv
    · exact .any _
  | any v => simp only [ren]; exact .any v

/-- Where a number stands in a list. -/
def posOf : List Nat → Nat → Option Nat
  | [], _ => none
  | i :: I, b => bif Nat.beq b i then some 0 else match posOf I b with | some k => some (k + 1) | none => none
theorem posOf_some : ∀ {I : List Nat} {b k : Nat}, posOf I b = some k → I[k]? = some b
  | [], _, _, h => by cases h
  | i :: I, b, k, h => by
    unfold posOf at h
    cases e : Nat.beq b i with
    | true => rw [e, cond_true] at h; cases h; simp [Nat.eq_of_beq_eq_true e]
    | false =>
      rw [e, cond_false] at h
      split at h
      · rename_i k' hk; cases h; simpa using posOf_some hk
      · cases h
/-- The way back. -/
def backOf (I : List Nat) (n i : Nat) : Option Nat := match I[i]? with | some b => some b | none => some (n + (i - I.length))

def setAll {α : Type} : List α → List Nat → List α → List α
  | l, i :: I, x :: xs => setAll (l.set i x) I xs
  | l, _, _ => l
theorem setAll_length {α : Type} : ∀ (l : List α) (I : List Nat) (xs : List α), (setAll l I xs).length = l.length
  | l, i :: I, x :: xs => by rw [setAll, setAll_length]; simp
  | l, [], _ => by simp [setAll]
  | l, _ :: _, [] => by simp [setAll]
theorem setAll_other {α : Type} : ∀ (l : List α) (I : List Nat) (xs : List α) (k : Nat), k ∉ I → (setAll l I xs)[k]? = l[k]?
  | l, i :: I, x :: xs, k, h => by
    rw [setAll, setAll_other _ I xs k (fun hm => h (by simp [hm])), List.getElem?_set_ne (fun e => h (by simp [e]))]
  | l, [], _, _, _ => by simp [setAll]
  | l, _ :: _, [], _, _ => by simp [setAll]
theorem setAll_at {α : Type} : ∀ (l : List α) (I : List Nat) (xs : List α), I.Nodup → (∀ i ∈ I, i < l.length) → ∀ (j k : Nat) (x : α), I[j]? = some k → xs[j]? = some x → (setAll l I xs)[k]? = some x
  | l, i :: I, x :: xs, hn, hl, j, k, y, hj, hx => by
    rw [setAll]
    have hn' := List.nodup_cons.1 hn
    cases j with
    | zero =>
      simp at hj hx
      subst hj; subst hx
      rw [setAll_other _ _ _ _ hn'.1]
      simp [hl i (by simp)]
    | succ j => exact setAll_at _ I xs hn'.2 (fun i' hi => by simpa using hl i' (by simp [hi])) j k y (by simpa using hj) (by simpa using hx)
  | l, [], _, _, _, j, k, x, hj, _ => by simp at hj
  | l, _ :: _, [], _, _, j, k, x, _, hx => by simp at hx
theorem setAll_mem {α : Type} : ∀ (l : List α) (I : List Nat) (xs : List α) (x : α), x ∈ setAll l I xs → x ∈ l ∨ x ∈ xs
  | l, i :: I, y :: xs, x, h => by
    rw [setAll] at h
    rcases setAll_mem _ I xs x h with h | h
    · rcases List.mem_or_eq_of_mem_set h with h | rfl
      · exact .inl h
      · exact .inr (by simp)
    · exact .inr (by simp [h])
  | l, [], _, x, h => by simp [setAll] at h; exact .inl h
  | l, _ :: _, [], x, h => by simp [setAll] at h; exact .inl h
end Go.Pure

/- A generic layer: a contract over some boxes and arrays is one over more of them: the theorem. -/
namespace Go.Pure
open Go

/-- What a call leaves of the state around it. -/
def back (I J L : List Nat) (H H1 : PH) : PH :=
  ⟨setAll H.bx I ((H1.bx.take I.length).map (renL (backOf I H.bx.length) (backOf J H.tk.length) (backOf L H.mu.length))) ++ (H1.bx.drop I.length).map (renL (backOf I H.bx.length) (backOf J H.tk.length) (backOf L H.mu.length)),
   setAll H.tk J (H1.tk.take J.length) ++ H1.tk.drop J.length, setAll H.mu L (H1.mu.take L.length) ++ H1.mu.drop L.length⟩

theorem getElem_of_list {α : Type} [Inhabited α] {l : List α} {I : List Nat} (h : ∀ i ∈ I, i < l.length) (j i : Nat) (hj : I[j]? = some i) : (I.map (l[·]!))[j]? = l[i]? := by
  have hi := h i (List.mem_of_getElem? hj)
  simp [hj, hi]

theorem nodup_of_map {α β : Type} (f : α → β) {l : List α} (h : (l.map f).Nodup) : l.Nodup :=
  (List.pairwise_map.1 h).imp fun hne e => hne (by rw [e])
theorem nodup_at {α : Type} {l : List α} (h : l.Nodup) {i j : Nat} (hi : i < l.length) (hj : j < l.length) (e : l[i] = l[j]) : i = j :=
  (List.getElem?_inj hi h).1 (by rw [List.getElem?_eq_getElem hi, List.getElem?_eq_getElem hj, e])
theorem nodup_mk {α : Type} {l : List α} (h : ∀ i j, i < j → j < l.length → l[i]? = l[j]? → False) : l.Nodup :=
  List.pairwise_iff_getElem.2 fun i j hi hj hij e => h i j hij hj (by rw [List.getElem?_eq_getElem hi, List.getElem?_eq_getElem hj, e])

instance : Inhabited Tok := ⟨⟨false, 0, 0, 0, 0, 0⟩⟩
instance : Inhabited MTok := ⟨⟨false, 0, 0, 0, 0, 0⟩⟩

theorem PC_frame {P : Program} {f : FuncId} {args : List PV} {H0 H1 : PH} {v : PV} (hp : PC P f args H0 v H1) {H : PH} {I J L : List Nat} {args' : List PV} (hI : I.Nodup) (hJ : J.Nodup) (hL : L.Nodup) (hIl : H0.bx.length = I.length)
    (hI' : ∀ (j i : Nat), I[j]? = some i → ∃ cs, H.bx[i]? = some cs ∧ H0.bx[j]? = some (renL (posOf I) (posOf J) (posOf L) cs))
    (hJl : H0.tk.length = J.length) (hJ' : ∀ (j i : Nat), J[j]? = some i → ∃ x, H.tk[i]? = some x ∧ H0.tk[j]? = some x)
    (hLl : H0.mu.length = L.length) (hL' : ∀ (j i : Nat), L[j]? = some i → ∃ x, H.mu[i]? = some x ∧ H0.mu[j]? = some x) (ha : renL (posOf I) (posOf J) (posOf L) args' = args) :
    PC P f args' H (ren (backOf I H.bx.length) (backOf J H.tk.length) (backOf L H.mu.length) v) (back I J L H H1) := by
  intro c vs hr hargs
  have hIb : ∀ i ∈ I, i < c.σ.length := fun i hi => by
    obtain ⟨j, hj⟩ := List.getElem?_of_mem hi
    obtain ⟨cs, h1, _⟩ := hI' j i hj
    rw [hr.len]; exact (List.getElem?_eq_some_iff.1 h1).1
  have htl : c.τ.length = H.tk.length := by rw [← hr.tk]; simp
  have hJb : ∀ i ∈ J, i < c.τ.length := fun i hi => by
    obtain ⟨j, hj⟩ := List.getElem?_of_mem hi
    obtain ⟨x, h1, _⟩ := hJ' j i hj
    rw [htl]; exact (List.getElem?_eq_some_iff.1 h1).1
  have hml : c.μ.length = H.mu.length := hr.mlen
  have hLb : ∀ i ∈ L, i < c.μ.length := fun i hi => by
    obtain ⟨j, hj⟩ := List.getElem?_of_mem hi
    obtain ⟨x, h1, _⟩ := hL' j i hj
    rw [hml]; exact (List.getElem?_eq_some_iff.1 h1).1
  generalize hμ0 : L.map (c.μ[·]!) = μ0
  have gμ : ∀ (j i : Nat), L[j]? = some i → μ0[j]? = c.μ[i]? := fun j i hj => hμ0 ▸ getElem_of_list hLb j i hj
  have lμ : μ0.length = L.length := by rw [← hμ0]; simp
  have mμ : ∀ t ∈ μ0, t ∈ c.μ := fun b hb => by
    obtain ⟨j, hj⟩ := List.getElem?_of_mem hb
    have hlt : j < L.length := by rw [← lμ]; exact (List.getElem?_eq_some_iff.1 hj).1
    rw [gμ j L[j] (List.getElem?_eq_getElem hlt)] at hj
    exact List.mem_of_getElem? hj
  have minj : ∀ t ∈ c.μ, ∀ t' ∈ c.μ, t.live = true → t'.live = true → t.g = t'.g → t = t' := by
    intro t ht t' ht' lv lv' e
    obtain ⟨i, hi⟩ := List.getElem?_of_mem ht
    obtain ⟨j, hj⟩ := List.getElem?_of_mem ht'
    have hij : i = j := hr.md i j t t' hi hj lv lv' e
    subst hij
    rw [hi] at hj
    exact Option.some.inj hj
  generalize hσ0 : I.map (c.σ[·]!) = σ0
  generalize hτ0 : J.map (c.τ[·]!) = τ0
  have gσ : ∀ (j i : Nat), I[j]? = some i → σ0[j]? = c.σ[i]? := fun j i hj => hσ0 ▸ getElem_of_list hIb j i hj
  have gτ : ∀ (j i : Nat), J[j]? = some i → τ0[j]? = c.τ[i]? := fun j i hj => hτ0 ▸ getElem_of_list hJb j i hj
  have lσ : σ0.length = I.length := by rw [← hσ0]; simp
  have lτ : τ0.length = J.length := by rw [← hτ0]; simp
  have mσ : ∀ b ∈ σ0, b ∈ c.σ := fun b hb => by
    obtain ⟨j, hj⟩ := List.getElem?_of_mem hb
    have hlt : j < I.length := by rw [← lσ]; exact (List.getElem?_eq_some_iff.1 hj).1
    rw [gσ j I[j] (List.getElem?_eq_getElem hlt)] at hj
    exact List.mem_of_getElem? hj
  have mτ : ∀ t ∈ τ0, t ∈ c.τ := fun b hb => by
    obtain ⟨j, hj⟩ := List.getElem?_of_mem hb
    have hlt : j < J.length := by rw [← lτ]; exact (List.getElem?_eq_some_iff.1 hj).1
    rw [gτ j J[j] (List.getElem?_eq_getElem hlt)] at hj
    exact List.mem_of_getElem? hj
  have tinj : ∀ t ∈ c.τ, ∀ t' ∈ c.τ, t.live = true → t'.live = true → t.g = t'.g → t = t' := by
    intro t ht t' ht' lv lv' e
    obtain ⟨i, hi⟩ := List.getElem?_of_mem ht
    obtain ⟨j, hj⟩ := List.getElem?_of_mem ht'
    have hij : i = j := hr.td i j t t' hi hj lv lv' e
    subst hij
    rw [hi] at hj
    exact Option.some.inj hj
  -- the callee's context
  generalize hc0 : (⟨σ0, τ0, μ0, fun b p => c.hid b p ∨ (b ∈ c.σ ∧ b ∉ σ0) ∨ (∃ t ∈ c.τ, t ∉ τ0 ∧ t.live = true ∧ t.g = b ∧ ¬ p < t.hw * t.size) ∨ ∃ t ∈ c.μ, t ∉ μ0 ∧ t.live = true ∧ t.g = b, c.w⟩ : Ctx) = c0
  have s0 : c0.σ = σ0 := by rw [← hc0]
  have t0 : c0.τ = τ0 := by rw [← hc0]
  have m0 : c0.μ = μ0 := by rw [← hc0]
  have w0 : c0.w = c.w := by rw [← hc0]
  have h0 : ∀ b p, c0.hid b p ↔ (c.hid b p ∨ (b ∈ c.σ ∧ b ∉ σ0) ∨ (∃ t ∈ c.τ, t ∉ τ0 ∧ t.live = true ∧ t.g = b ∧ ¬ p < t.hw * t.size) ∨ ∃ t ∈ c.μ, t ∉ μ0 ∧ t.live = true ∧ t.g = b) := fun b p => by rw [← hc0]
  have st0 : ∀ b p, c.stab b p → c0.stab b p := by
    rintro b p ⟨q1, q2, q3, q4⟩
    refine ⟨?_, fun hb => q2 (mσ b (s0 ▸ hb)), fun t ht lv => q3 t (mτ t (t0 ▸ ht)) lv, fun t ht lv => q4 t (mμ t (m0 ▸ ht)) lv⟩
    rw [h0]
    rintro (h | ⟨h, _⟩ | ⟨t, ht, _, lv, e, hn⟩ | ⟨t, ht, _, lv, e⟩)
    · exact q1 h
    · exact q2 h
    · exact hn (q3 t ht lv e)
    · exact q4 t ht lv e
  have rv0 : ∀ p v, RV c p v → RV c0 (ren (posOf I) (posOf J) (posOf L) p) v := fun p v h => RV_ren w0 st0
    (fun b b' blk e hb => by rw [s0, gσ b' b (posOf_some e)]; exact hb) (fun i i' t e ht => by rw [t0, gτ i' i (posOf_some e)]; exact ht) (fun i i' t e ht => by rw [m0, gμ i' i (posOf_some e)]; exact ht) h
  have mok0 : ∀ t o, MOk P c t o → MOk P c0 t o := by
    intro t o h
    have hg : ∀ g v, RG c.w c.stab g v → RG c0.w c0.stab g v := fun g v h => h.mono fun a u _ hs hc => ⟨by rw [w0]; exact hc, st0 _ _ hs⟩
    cases o with
    | gone n => exact h
    | arr n e es =>
      obtain ⟨a1, a2, a3, a4⟩ := h
      refine ⟨a1, a2, a3, a4.imp id ?_⟩
      rintro ⟨lv, cur, b1, b2, b3, b4, b5, b6⟩
      exact ⟨lv, cur, by rw [w0]; exact b1, b2, b3, b4, b5, fun i x j g v hx hg' hv => ⟨hg _ _ (b6 i x j g v hx hg' hv).1, (b6 i x j g v hx hg' hv).2⟩⟩
    | map es =>
      obtain ⟨a1, lv, ents, b1, b2, b3⟩ := h
      exact ⟨a1, lv, ents, by rw [w0]; exact b1, b2, fun i k v n hk hn => ⟨hg _ _ (b3 i k v n hk hn).1, hg _ _ (b3 i k v n hk hn).2.1, (b3 i k v n hk hn).2.2⟩⟩
  have rel0 : Rel P c0 H0 := by
    refine ⟨by rw [s0, lσ, hIl], ?_, ?_, ?_, ?_, ?_, ?_, ?_, ?_, ?_, fun t ht => hr.dead t (mτ t (t0 ▸ ht)), by rw [m0, lμ, hLl], ?_, fun t ht lv => by rw [w0]; exact hr.mlt t (mμ t (m0 ▸ ht)) lv, ?_, fun t ht lv hb => hr.ms t (mμ t (m0 ▸ ht)) lv (mσ _ (s0 ▸ hb)), fun t ht lv t' ht' lv' => hr.mt t (mμ t (m0 ▸ ht)) lv t' (mτ t' (t0 ▸ ht')) lv', ?_⟩
    · intro j b cs hb hcs
      rw [s0] at hb
      have hlt : j < I.length := by rw [← lσ]; exact (List.getElem?_eq_some_iff.1 hb).1
      have hj := List.getElem?_eq_getElem hlt
      rw [gσ j _ hj] at hb
      obtain ⟨cs', k1, k2⟩ := hI' j _ hj
      rw [k2] at hcs
      cases hcs
      obtain ⟨vals, T, e1, e2, e3⟩ := hr.bx _ b cs' hb k1
      rw [w0]
      refine ⟨vals, T, e1, by rw [renL_eq]; simpa using e2, fun k p u hk hu => ?_⟩
      rw [renL_eq] at hk
      simp only [List.getElem?_map, Option.map_eq_some_iff] at hk
      obtain ⟨q, hq, rfl⟩ := hk
      exact ⟨rv0 _ _ (e3 k q u hq hu).1, (e3 k q u hq hu).2⟩
    · rw [t0]
      refine List.ext_getElem? fun j => ?_
      by_cases hlt : j < J.length
      · have hj := List.getElem?_eq_getElem hlt
        obtain ⟨x, k1, k2⟩ := hJ' j _ hj
        rw [k2, List.getElem?_map, gτ j _ hj, ← List.getElem?_map, hr.tk]
        exact k1
      · rw [List.getElem?_eq_none (by simp [lτ]; omega), List.getElem?_eq_none (by omega)]
    · intro t ht lv
      rw [w0]
      exact hr.tb t (mτ t (t0 ▸ ht)) lv
    · rw [s0, ← hσ0]
      refine List.pairwise_map.2 (List.Pairwise.imp_of_mem ?_ hI)
      intro i i' hi hi' hne e
      have l1 := hIb i hi
      have l2 := hIb i' hi'
      simp only [getElem!_pos, l1, l2] at e
      exact hne (nodup_at hr.nd l1 l2 e)
    · intro i j t t' hi hj lv lv' e
      rw [t0] at hi hj
      have li : i < J.length := by rw [← lτ]; exact (List.getElem?_eq_some_iff.1 hi).1
      have lj : j < J.length := by rw [← lτ]; exact (List.getElem?_eq_some_iff.1 hj).1
      rw [gτ i _ (List.getElem?_eq_getElem li)] at hi
      rw [gτ j _ (List.getElem?_eq_getElem lj)] at hj
      exact nodup_at hJ li lj (hr.td _ _ t t' hi hj lv lv' e)
    · intro t ht lv hb
      exact hr.st t (mτ t (t0 ▸ ht)) lv (mσ _ (s0 ▸ hb))
    · intro b p h
      rw [w0]
      rcases (h0 b p).1 h with h | ⟨h, _⟩ | ⟨t, ht, _, lv, e, _⟩ | ⟨t, ht, _, lv, e⟩
      · exact hr.hidlt b p h
      · exact hr.shid b h
      · exact e ▸ hr.tlt ht lv
      · exact e ▸ hr.mlt t ht lv
    · intro t ht lv p h
      have ht' := mτ t (t0 ▸ ht)
      rcases (h0 _ p).1 h with h | ⟨h, _⟩ | ⟨t', ht1, ht2, lv', e, _⟩ | ⟨t', ht1, ht2, lv', e⟩
      · exact hr.thid t ht' lv p h
      · exact hr.st t ht' lv h
      · exact ht2 (tinj t' ht1 t ht' lv' lv e ▸ (t0 ▸ ht))
      · exact hr.mt t' ht1 lv' t ht' lv e
    · intro b hb
      rw [w0]
      exact hr.shid b (mσ b (s0 ▸ hb))
    · intro j t o hj ho
      rw [m0] at hj
      have hlt : j < L.length := by rw [← lμ]; exact (List.getElem?_eq_some_iff.1 hj).1
      have hj' := List.getElem?_eq_getElem hlt
      rw [gμ j _ hj'] at hj
      obtain ⟨x, k1, k2⟩ := hL' j _ hj'
      rw [k2] at ho
      cases ho
      exact mok0 t o (hr.mu _ t o hj k1)
    · intro i j t t' hi hj lv lv' e
      rw [m0] at hi hj
      have li : i < L.length := by rw [← lμ]; exact (List.getElem?_eq_some_iff.1 hi).1
      have lj : j < L.length := by rw [← lμ]; exact (List.getElem?_eq_some_iff.1 hj).1
      rw [gμ i _ (List.getElem?_eq_getElem li)] at hi
      rw [gμ j _ (List.getElem?_eq_getElem lj)] at hj
      exact nodup_at hL li lj (hr.md _ _ t t' hi hj lv lv' e)
    · intro t ht lv p h
      have ht' := mμ t (m0 ▸ ht)
      rcases (h0 _ p).1 h with h | ⟨h, _⟩ | ⟨t', ht1, ht2, lv', e, _⟩ | ⟨t', ht1, ht2, lv', e⟩
      · exact hr.mhid t ht' lv p h
      · exact hr.ms t ht' lv h
      · exact hr.mt t ht' lv t' ht1 lv' e.symm
      · exact ht2 (minj t' ht1 t ht' lv' lv e ▸ (m0 ▸ ht))
  have args0 : RVs c0 args vs := by
    rw [← ha, renL_eq]
    refine ⟨by simpa using hargs.1, fun i p u hp' hu => ?_⟩
    simp only [List.getElem?_map, Option.map_eq_some_iff] at hp'
    obtain ⟨q, hq, rfl⟩ := hp'
    exact rv0 q u (hargs.2 i q u hq hu)
  have hcall := hp c0 vs rel0 args0
  rw [w0] at hcall
  refine hcall.mono fun e w' ⟨rv, c1, he, hw1, hr1, hE1, hv1⟩ => ?_
  subst he; subst hw1
  -- the caller's context behind the call
  obtain ⟨n, hn, hnlt⟩ := hE1.sig
  rw [s0] at hn
  rw [w0] at hnlt
  have hdrop : c1.σ.drop I.length = n := by rw [hn, ← lσ]; simp
  have hlt1 : J.length ≤ c1.τ.length := by
    by_cases hz : J.length = 0
    · omega
    · have hj : J.length - 1 < τ0.length := by omega
      obtain ⟨t', ht', _⟩ := hE1.tok (J.length - 1) τ0[J.length - 1] (by rw [t0]; exact List.getElem?_eq_getElem hj)
      have := (List.getElem?_eq_some_iff.1 ht').1
      omega
  generalize hτ' : setAll c.τ J (c1.τ.take J.length) ++ c1.τ.drop J.length = τ'
  have memτ' : ∀ t ∈ τ', t ∈ c1.τ ∨ (t ∈ c.τ ∧ (t.live = true → t ∉ τ0)) := by
    intro t ht
    rw [← hτ', List.mem_append] at ht
    rcases ht with ht | ht
    · obtain ⟨k, hk⟩ := List.getElem?_of_mem ht
      by_cases hkJ : k ∈ J
      · obtain ⟨j, hj⟩ := List.getElem?_of_mem hkJ
        have hjl : j < J.length := (List.getElem?_eq_some_iff.1 hj).1
        have hj1 : j < c1.τ.length := by omega
        have : (c1.τ.take J.length)[j]? = some c1.τ[j] := by rw [List.getElem?_take, if_pos hjl]; exact List.getElem?_eq_getElem hj1
        rw [setAll_at c.τ J _ hJ hJb j k _ hj this] at hk
        cases hk
        exact .inl (List.getElem_mem hj1)
      · rw [setAll_other _ _ _ _ hkJ] at hk
        refine .inr ⟨List.mem_of_getElem? hk, fun lv hm => hkJ ?_⟩
        obtain ⟨j, hj⟩ := List.getElem?_of_mem hm
        have hjl : j < J.length := by rw [← lτ]; exact (List.getElem?_eq_some_iff.1 hj).1
        have hj' := List.getElem?_eq_getElem hjl
        rw [gτ j _ hj'] at hj
        have := hr.td _ _ t t hk hj lv lv rfl
        rw [this]
        exact List.getElem_mem hjl
    · exact .inl (List.mem_of_mem_drop ht)
  have hltm : L.length ≤ c1.μ.length := by
    by_cases hz : L.length = 0
    · omega
    · have hj : L.length - 1 < μ0.length := by omega
      obtain ⟨t', ht', _⟩ := hE1.mu (L.length - 1) μ0[L.length - 1] (by rw [m0]; exact List.getElem?_eq_getElem hj)
      have := (List.getElem?_eq_some_iff.1 ht').1
      omega
  generalize hμ' : setAll c.μ L (c1.μ.take L.length) ++ c1.μ.drop L.length = μ'
  have memμ' : ∀ t ∈ μ', t ∈ c1.μ ∨ (t ∈ c.μ ∧ (t.live = true → t ∉ μ0)) := by
    intro t ht
    rw [← hμ', List.mem_append] at ht
    rcases ht with ht | ht
    · obtain ⟨k, hk⟩ := List.getElem?_of_mem ht
      by_cases hkJ : k ∈ L
      · obtain ⟨j, hj⟩ := List.getElem?_of_mem hkJ
        have hjl : j < L.length := (List.getElem?_eq_some_iff.1 hj).1
        have hj1 : j < c1.μ.length := by omega
        have : (c1.μ.take L.length)[j]? = some c1.μ[j] := by rw [List.getElem?_take, if_pos hjl]; exact List.getElem?_eq_getElem hj1
        rw [setAll_at c.μ L _ hL hLb j k _ hj this] at hk
        cases hk
        exact .inl (List.getElem_mem hj1)
      · rw [setAll_other _ _ _ _ hkJ] at hk
        refine .inr ⟨List.mem_of_getElem? hk, fun lv hm => hkJ ?_⟩
        obtain ⟨j, hj⟩ := List.getElem?_of_mem hm
        have hjl : j < L.length := by rw [← lμ]; exact (List.getElem?_eq_some_iff.1 hj).1
        have hj' := List.getElem?_eq_getElem hjl
        rw [gμ j _ hj'] at hj
        have := hr.md _ _ t t hk hj lv lv rfl
        rw [this]
        exact List.getElem_mem hjl
    · exact .inl (List.mem_of_mem_drop ht)
  have hhid : c1.hid = c0.hid := hE1.hid
  have st1 : ∀ b p, c1.stab b p → Ctx.stab ⟨c.σ ++ n, τ', μ', c.hid, c1.w⟩ b p := by
    rintro b p ⟨q1, q2, q3, q4⟩
    rw [hhid, h0] at q1
    rw [hn] at q2
    refine ⟨fun h => q1 (.inl h), fun hb => ?_, fun t ht lv e => ?_, fun t ht lv e => ?_⟩
    · rcases List.mem_append.1 hb with hb | hb
      · by_cases h2 : b ∈ σ0
        · exact q2 (List.mem_append_left _ h2)
        · exact q1 (.inr (.inl ⟨hb, h2⟩))
      · exact q2 (List.mem_append_right _ hb)
    · rcases memτ' t ht with ht | ⟨h1, h2⟩
      · exact q3 t ht lv e
      · exact Classical.byContradiction fun hlt => q1 (.inr (.inr (.inl ⟨t, h1, h2 lv, lv, e, hlt⟩)))
    · rcases memμ' t ht with ht | ⟨h1, h2⟩
      · exact q4 t ht lv e
      · exact q1 (.inr (.inr (.inr ⟨t, h1, h2 lv, lv, e⟩)))
  have hframe : ∀ b, b < c.w.heap.size → b ∉ σ0 → (∀ t ∈ τ0, t.live = true → t.g ≠ b) → (∀ t ∈ μ0, t.live = true → t.g ≠ b) → c1.w.heap[b]? = c.w.heap[b]? := fun b h1 h2 h3 h4 => by
    have := hE1.frame b (by rw [w0]; exact h1) (by rw [s0]; exact h2) (by rw [t0]; exact h3) (by rw [m0]; exact h4)
    rwa [w0] at this
  have hEvo : Evo c ⟨c.σ ++ n, τ', μ', c.hid, c1.w⟩ := by
    refine ⟨by rw [← w0]; exact hE1.os, by rw [← w0]; exact hE1.tape, by rw [← w0]; exact hE1.output, by rw [← w0]; exact hE1.size, rfl, ⟨n, rfl, hnlt⟩, ?_, ?_, ?_, ?_, ?_, ?_⟩
    · intro id t ht
      by_cases hm : id ∈ J
      · obtain ⟨j, hj⟩ := List.getElem?_of_mem hm
        have hjl : j < J.length := (List.getElem?_eq_some_iff.1 hj).1
        obtain ⟨t', e1, e2, e3, e4⟩ := hE1.tok j t (by rw [t0, gτ j id hj]; exact ht)
        refine ⟨t', ?_, e2, e3, e4⟩
        show τ'[id]? = some t'
        rw [← hτ', List.getElem?_append_left (by rw [setAll_length]; exact (List.getElem?_eq_some_iff.1 ht).1)]
        exact setAll_at c.τ J _ hJ hJb j id t' hj (by rw [List.getElem?_take, if_pos hjl]; exact e1)
      · refine ⟨t, ?_, rfl, rfl, .inl rfl⟩
        show τ'[id]? = some t
        rw [← hτ', List.getElem?_append_left (by rw [setAll_length]; exact (List.getElem?_eq_some_iff.1 ht).1), setAll_other _ _ _ _ hm]
        exact ht
    · intro id t ht
      by_cases hm : id ∈ L
      · obtain ⟨j, hj⟩ := List.getElem?_of_mem hm
        have hjl : j < L.length := (List.getElem?_eq_some_iff.1 hj).1
        obtain ⟨t', e1, e2, e3⟩ := hE1.mu j t (by rw [m0, gμ j id hj]; exact ht)
        refine ⟨t', ?_, e2, e3⟩
        show μ'[id]? = some t'
        rw [← hμ', List.getElem?_append_left (by rw [setAll_length]; exact (List.getElem?_eq_some_iff.1 ht).1)]
        exact setAll_at c.μ L _ hL hLb j id t' hj (by rw [List.getElem?_take, if_pos hjl]; exact e1)
      · refine ⟨t, ?_, rfl, .inl rfl⟩
        show μ'[id]? = some t
        rw [← hμ', List.getElem?_append_left (by rw [setAll_length]; exact (List.getElem?_eq_some_iff.1 ht).1), setAll_other _ _ _ _ hm]
        exact ht
    · intro t ht lv
      rcases memμ' t ht with ht | ⟨ht, _⟩
      · rcases hE1.munew t ht lv with ⟨t1, h1, lv1, e⟩ | h1
        · exact .inl ⟨t1, mμ t1 (m0 ▸ h1), lv1, e⟩
        · rw [w0] at h1; exact .inr h1
      · exact .inl ⟨t, ht, lv, rfl⟩
    · intro t ht lv
      rcases memτ' t ht with ht | ⟨ht, _⟩
      · rcases hE1.toknew t ht lv with ⟨t1, h1, lv1, e⟩ | h1
        · exact .inl ⟨t1, mτ t1 (t0 ▸ h1), lv1, e⟩
        · rw [w0] at h1; exact .inr h1
      · exact .inl ⟨t, ht, lv, rfl⟩
    · intro a u hspot hs hcell
      obtain ⟨k1, k2⟩ := hE1.keep a u hspot (st0 _ _ hs) (by rw [w0]; exact hcell)
      exact ⟨k1, st1 _ _ k2⟩
    · intro b h1 h2 h3 h4
      exact hframe b h1 (fun hm => h2 (mσ b hm)) (fun t ht lv => h3 t (mτ t ht) lv) (fun t ht lv => h4 t (mμ t ht) lv)
  have rv1 : ∀ p u, RV c1 p u → RV ⟨c.σ ++ n, τ', μ', c.hid, c1.w⟩ (ren (backOf I H.bx.length) (backOf J H.tk.length) (backOf L H.mu.length) p) u := by
    intro p u h
    refine RV_ren (c := c1) (c1 := ⟨c.σ ++ n, τ', μ', c.hid, c1.w⟩) rfl st1 (fun b b' blk e hb => ?_) (fun i i' t e ht => ?_) (fun i i' t e ht => ?_) h
    · show (c.σ ++ n)[b']? = some blk
      rw [hn] at hb
      unfold backOf at e
      split at e
      · rename_i x hx
        cases e
        rw [List.getElem?_append_left (by rw [lσ]; exact (List.getElem?_eq_some_iff.1 hx).1), gσ b _ hx] at hb
        rw [List.getElem?_append_left (hIb _ (List.mem_of_getElem? hx))]
        exact hb
      · rename_i hx
        cases e
        have hge : I.length ≤ b := List.getElem?_eq_none_iff.1 hx
        rw [List.getElem?_append_right (by rw [lσ]; exact hge), lσ] at hb
        rw [List.getElem?_append_right (by rw [hr.len]; omega), hr.len, show H.bx.length + (b - I.length) - H.bx.length = b - I.length by omega]
        exact hb
    · show τ'[i']? = some t
      rw [← hτ']
      unfold backOf at e
      split at e
      · rename_i x hx
        cases e
        have hil : i < J.length := (List.getElem?_eq_some_iff.1 hx).1
        rw [List.getElem?_append_left (by rw [setAll_length]; exact hJb _ (List.mem_of_getElem? hx))]
        exact setAll_at c.τ J _ hJ hJb i _ t hx (by rw [List.getElem?_take, if_pos hil]; exact ht)
      · rename_i hx
        cases e
        have hge : J.length ≤ i := List.getElem?_eq_none_iff.1 hx
        rw [List.getElem?_append_right (by rw [setAll_length, htl]; omega), setAll_length, htl, List.getElem?_drop, show J.length + (H.tk.length + (i - J.length) - H.tk.length) = i by omega]
        exact ht
    · show μ'[i']? = some t
      rw [← hμ']
      unfold backOf at e
      split at e
      · rename_i x hx
        cases e
        have hil : i < L.length := (List.getElem?_eq_some_iff.1 hx).1
        rw [List.getElem?_append_left (by rw [setAll_length]; exact hLb _ (List.mem_of_getElem? hx))]
        exact setAll_at c.μ L _ hL hLb i _ t hx (by rw [List.getElem?_take, if_pos hil]; exact ht)
      · rename_i hx
        cases e
        have hge : L.length ≤ i := List.getElem?_eq_none_iff.1 hx
        rw [List.getElem?_append_right (by rw [setAll_length, hml]; omega), setAll_length, hml, List.getElem?_drop, show L.length + (H.mu.length + (i - L.length) - H.mu.length) = i by omega]
        exact ht
  have hl1 : c1.σ.length = H1.bx.length := hr1.len
  have hnl : n.length = H1.bx.length - I.length := by rw [← hl1, hn, List.length_append, lσ]; omega
  have hσlt : ∀ b ∈ c.σ, b < c.w.heap.size := hr.shid
  have unch : ∀ t ∈ c.τ, t.live = true → t ∉ τ0 → c1.w.heap[t.g]? = c.w.heap[t.g]? := fun t ht lv hnt =>
    hframe t.g (hr.tlt ht lv) (fun hm => hr.st t ht lv (mσ _ hm)) (fun t' ht' lv' e => hnt (tinj t' (mτ t' ht') t ht lv' lv e ▸ ht')) (fun t' ht' lv' e => hr.mt t' (mμ t' ht') lv' t ht lv e)
  have unchm : ∀ t ∈ c.μ, t.live = true → t ∉ μ0 → c1.w.heap[t.g]? = c.w.heap[t.g]? := fun t ht lv hnt =>
    hframe t.g (hr.mlt t ht lv) (fun hm => hr.ms t ht lv (mσ _ hm)) (fun t' ht' lv' e => hr.mt t ht lv t' (mτ t' ht') lv' e.symm) (fun t' ht' lv' e => hnt (minj t' (mμ t' ht') t ht lv' lv e ▸ ht'))
  have new1m : ∀ t ∈ c1.μ, t.live = true → t.g ∉ c.σ := by
    intro t ht lv hm
    rcases hE1.munew t ht lv with ⟨t1, h1, lv1, e⟩ | h1
    · exact hr.ms t1 (mμ t1 (m0 ▸ h1)) lv1 (e ▸ hm)
    · rw [w0] at h1; have := hσlt _ hm; omega
  have new1 : ∀ t ∈ c1.τ, t.live = true → t.g ∉ c.σ := by
    intro t ht lv hm
    rcases hE1.toknew t ht lv with ⟨t1, h1, lv1, e⟩ | h1
    · exact hr.st t1 (mτ t1 (t0 ▸ h1)) lv1 (e ▸ hm)
    · rw [w0] at h1; have := hσlt _ hm; omega
  refine ⟨rv, ⟨c.σ ++ n, τ', μ', c.hid, c1.w⟩, rfl, rfl, ?_, hEvo, rv1 _ _ hv1⟩
  refine ⟨?_, ?_, ?_, ?_, ?_, ?_, ?_, ?_, ?_, ?_, ?_, ?_, ?_, ?_, ?_, ?_, ?_, ?_⟩
  · show (c.σ ++ n).length = _
    simp [back, setAll_length, hr.len, hnl]
  · intro i b cs hb hcs
    replace hb : (c.σ ++ n)[i]? = some b := hb
    show ∃ (vals : Array Value) (T : TypeId), c1.w.heap[b]? = some (.cells vals T (0, 0)) ∧ _
    simp only [back] at hcs
    by_cases hi : i < c.σ.length
    · rw [List.getElem?_append_left hi] at hb
      rw [List.getElem?_append_left (by rw [setAll_length, ← hr.len]; exact hi)] at hcs
      by_cases hm : i ∈ I
      · obtain ⟨j, hj⟩ := List.getElem?_of_mem hm
        have hjl : j < I.length := (List.getElem?_eq_some_iff.1 hj).1
        have hj1 : j < H1.bx.length := by rw [← hl1, hn, List.length_append, lσ]; omega
        have hat : ((H1.bx.take I.length).map (renL (backOf I H.bx.length) (backOf J H.tk.length) (backOf L H.mu.length)))[j]? = some (renL (backOf I H.bx.length) (backOf J H.tk.length) (backOf L H.mu.length) H1.bx[j]) := by
          rw [List.getElem?_map, List.getElem?_take, if_pos hjl, List.getElem?_eq_getElem hj1]; rfl
        rw [setAll_at H.bx I _ hI (fun i hi => by rw [← hr.len]; exact hIb i hi) j i _ hj hat] at hcs
        cases hcs
        have hb1 : c1.σ[j]? = some b := by
          rw [hn, List.getElem?_append_left (by rw [lσ]; exact hjl), gσ j i hj]; exact hb
        obtain ⟨vals, T, e1, e2, e3⟩ := hr1.bx j b _ hb1 (List.getElem?_eq_getElem hj1)
        refine ⟨vals, T, e1, by rw [renL_eq]; simpa using e2, fun k p u hk hu => ?_⟩
        rw [renL_eq] at hk
        simp only [List.getElem?_map, Option.map_eq_some_iff] at hk
        obtain ⟨q, hq, rfl⟩ := hk
        exact ⟨rv1 _ _ (e3 k q u hq hu).1, (e3 k q u hq hu).2⟩
      · rw [setAll_other _ _ _ _ hm] at hcs
        obtain ⟨vals, T, e1, e2, e3⟩ := hr.bx i b cs hb hcs
        have hnb : b ∉ σ0 := fun hmb => by
          obtain ⟨j, hj⟩ := List.getElem?_of_mem hmb
          have hjl : j < I.length := by rw [← lσ]; exact (List.getElem?_eq_some_iff.1 hj).1
          have hj' := List.getElem?_eq_getElem hjl
          rw [gσ j _ hj'] at hj
          have := (List.getElem?_inj hi hr.nd).1 (hb.trans hj.symm)
          exact hm (this ▸ List.getElem_mem hjl)
        have hbm : b ∈ c.σ := List.mem_of_getElem? hb
        refine ⟨vals, T, ?_, e2, fun k p u hk hu => ⟨(e3 k p u hk hu).1.mono hEvo, (e3 k p u hk hu).2⟩⟩
        rw [hframe b (hσlt b hbm) hnb (fun t ht lv e => hr.st t (mτ t ht) lv (e ▸ hbm)) (fun t ht lv e => hr.ms t (mμ t ht) lv (e ▸ hbm))]
        exact e1
    · rw [List.getElem?_append_right (by omega)] at hb
      rw [List.getElem?_append_right (by rw [setAll_length, ← hr.len]; omega), setAll_length, ← hr.len] at hcs
      simp only [List.getElem?_map, List.getElem?_drop, Option.map_eq_some_iff] at hcs
      obtain ⟨cs', hcs', rfl⟩ := hcs
      have hb1 : c1.σ[I.length + (i - c.σ.length)]? = some b := by
        rw [hn, List.getElem?_append_right (by rw [lσ]; omega), lσ, show I.length + (i - c.σ.length) - I.length = i - c.σ.length by omega]; exact hb
      obtain ⟨vals, T, e1, e2, e3⟩ := hr1.bx _ b _ hb1 hcs'
      refine ⟨vals, T, e1, by rw [renL_eq]; simpa using e2, fun k p u hk hu => ?_⟩
      rw [renL_eq] at hk
      simp only [List.getElem?_map, Option.map_eq_some_iff] at hk
      obtain ⟨q, hq, rfl⟩ := hk
      have := e3 k q u hq hu
      rw [← hr.len] at rv1
      exact ⟨rv1 _ _ this.1, this.2⟩
  · show τ'.map (fun t => (t.e, t.hw)) = _
    rw [← hτ']
    have key : ∀ (l : List Tok) (J : List Nat) (xs : List Tok), (setAll l J xs).map (fun t => (t.e, t.hw)) = setAll (l.map (fun t => (t.e, t.hw))) J (xs.map (fun t => (t.e, t.hw))) := by
      intro l J
      induction J generalizing l with
      | nil => intro xs; simp [setAll]
      | cons i J ih =>
        intro xs
        cases xs with
        | nil => simp [setAll]
        | cons x xs => simp only [setAll, List.map_cons, ih]; rw [List.map_set]
    simp only [back, List.map_append, key, hr.tk, List.map_take, List.map_drop, hr1.tk]
  · intro t ht lv
    rcases memτ' t ht with ht | ⟨h1, h2⟩
    · exact hr1.tb t ht lv
    · obtain ⟨cur, e1, e2⟩ := hr.tb t h1 lv
      exact ⟨cur, (unch t h1 lv (h2 lv)).trans e1, e2⟩
  · refine List.nodup_append.2 ⟨hr.nd, ?_, fun a ha b hb e => ?_⟩
    · have := hr1.nd
      rw [hn] at this
      exact (List.nodup_append.1 this).2.1
    · have := hσlt a ha
      have := hnlt b hb
      omega
  · have cross : ∀ t ∈ c1.τ, ∀ t' ∈ c.τ, t.live = true → t'.live = true → t' ∉ τ0 → t.g ≠ t'.g := by
      intro t ht t' ht' lv lv' hnt e
      rcases hE1.toknew t ht lv with ⟨t1, h1, lv1, e1⟩ | h1
      · have h1' : t1 ∈ τ0 := t0 ▸ h1
        exact hnt (tinj t1 (mτ t1 h1') t' ht' lv1 lv' (e1.trans e) ▸ h1')
      · rw [w0] at h1; have := hr.tlt ht' lv'; omega
    have notin : ∀ (k : Nat) (t : Tok), k ∉ J → c.τ[k]? = some t → t.live = true → t ∉ τ0 := by
      intro k t hkJ hk lv hmt
      obtain ⟨q, hq⟩ := List.getElem?_of_mem hmt
      have hql : q < J.length := by rw [← lτ]; exact (List.getElem?_eq_some_iff.1 hq).1
      rw [gτ q _ (List.getElem?_eq_getElem hql)] at hq
      have := hr.td _ _ t t hk hq lv lv rfl
      exact hkJ (this ▸ List.getElem_mem hql)
    have look : ∀ k, k < τ'.length → (∃ m, m < c1.τ.length ∧ τ'[k]? = c1.τ[m]? ∧ ((∃ hk : k ∈ J, J[m]? = some k) ∨ (c.τ.length ≤ k ∧ m = J.length + (k - c.τ.length)))) ∨ (k < c.τ.length ∧ k ∉ J ∧ τ'[k]? = c.τ[k]?) := by
      intro k hk
      rw [← hτ'] at hk ⊢
      by_cases hkl : k < c.τ.length
      · rw [List.getElem?_append_left (by rw [setAll_length]; exact hkl)]
        by_cases hkJ : k ∈ J
        · obtain ⟨m, hm⟩ := List.getElem?_of_mem hkJ
          have hml : m < J.length := (List.getElem?_eq_some_iff.1 hm).1
          have hm1 : m < c1.τ.length := by omega
          refine .inl ⟨m, hm1, ?_, .inl ⟨hkJ, hm⟩⟩
          have : (c1.τ.take J.length)[m]? = some c1.τ[m] := by rw [List.getElem?_take, if_pos hml]; exact List.getElem?_eq_getElem hm1
          rw [setAll_at c.τ J _ hJ hJb m k _ hm this, List.getElem?_eq_getElem hm1]
        · exact .inr ⟨hkl, hkJ, setAll_other _ _ _ _ hkJ⟩
      · rw [List.getElem?_append_right (by rw [setAll_length]; omega), setAll_length, List.getElem?_drop]
        refine .inl ⟨J.length + (k - c.τ.length), ?_, rfl, .inr ⟨by omega, rfl⟩⟩
        simp [setAll_length] at hk
        omega
    intro i j t t' hi hj lv lv' e
    replace hi : τ'[i]? = some t := hi
    replace hj : τ'[j]? = some t' := hj
    rcases look i (List.getElem?_eq_some_iff.1 hi).1 with ⟨m, hm, e1, d1⟩ | ⟨hi1, hi2, e1⟩ <;> rcases look j (List.getElem?_eq_some_iff.1 hj).1 with ⟨m', hm', e2, d2⟩ | ⟨hj1, hj2, e2⟩
    · have := hr1.td m m' t t' (e1 ▸ hi) (e2 ▸ hj) lv lv' e
      subst this
      rcases d1 with ⟨_, d1⟩ | ⟨g1, d1⟩ <;> rcases d2 with ⟨_, d2⟩ | ⟨g2, d2⟩
      · rw [d1] at d2; cases d2; rfl
      · have := (List.getElem?_eq_some_iff.1 d1).1; omega
      · have := (List.getElem?_eq_some_iff.1 d2).1; omega
      · omega
    · exact absurd e (cross t (List.mem_of_getElem? (e1 ▸ hi)) t' (List.mem_of_getElem? (e2 ▸ hj)) lv lv' (notin j t' hj2 (e2 ▸ hj) lv'))
    · exact absurd e.symm (cross t' (List.mem_of_getElem? (e2 ▸ hj)) t (List.mem_of_getElem? (e1 ▸ hi)) lv' lv (notin i t hi2 (e1 ▸ hi) lv))
    · exact hr.td i j t t' (e1 ▸ hi) (e2 ▸ hj) lv lv' e
  · intro t ht lv hb
    replace hb : t.g ∈ c.σ ++ n := hb
    rcases memτ' t ht with h1 | ⟨h1, h2⟩
    · rcases List.mem_append.1 hb with hb | hb
      · exact new1 t h1 lv hb
      · exact hr1.st t h1 lv (by rw [hn]; exact List.mem_append_right _ hb)
    · rcases List.mem_append.1 hb with hb | hb
      · exact hr.st t h1 lv hb
      · have := hnlt _ hb; have := hr.tlt h1 lv; omega
  · intro b p h
    have := hr.hidlt b p h
    have hsz := hE1.size
    rw [w0] at hsz
    show b < c1.w.heap.size
    omega
  · intro t ht lv p h
    replace h : c.hid t.g p := h
    rcases memτ' t ht with h1 | ⟨h1, _⟩
    · exact hr1.thid t h1 lv p (by rw [hhid, h0]; exact .inl h)
    · exact hr.thid t h1 lv p h
  · intro b hb
    show b < c1.w.heap.size
    rcases List.mem_append.1 hb with hb | hb
    · have := hσlt b hb
      have hsz := hE1.size
      rw [w0] at hsz
      omega
    · exact hr1.shid b (by rw [hn]; exact List.mem_append_right _ hb)
  · intro t ht lv
    rcases memτ' t ht with h1 | ⟨h1, _⟩
    · exact hr1.dead t h1 lv
    · exact hr.dead t h1 lv
  · show μ'.length = _
    have := hr1.mlen
    simp only [back, ← hμ', List.length_append, setAll_length, List.length_drop, hml, this]
  · intro i t o hi ho
    replace hi : μ'[i]? = some t := hi
    simp only [back] at ho
    have mok1 : ∀ t o, MOk P c1 t o → MOk P ⟨c.σ ++ n, τ', μ', c.hid, c1.w⟩ t o := by
      intro t o h
      have hg : ∀ g v, RG c1.w c1.stab g v → RG c1.w (Ctx.stab ⟨c.σ ++ n, τ', μ', c.hid, c1.w⟩) g v := fun g v h => h.mono fun a u _ hs hc => ⟨hc, st1 _ _ hs⟩
      cases o with
      | gone n => exact h
      | arr n e es =>
        obtain ⟨a1, a2, a3, a4⟩ := h
        refine ⟨a1, a2, a3, a4.imp id ?_⟩
        rintro ⟨lv, cur, b1, b2, b3, b4, b5, b6⟩
        exact ⟨lv, cur, b1, b2, b3, b4, b5, fun i x j g v hx hg' hv => ⟨hg _ _ (b6 i x j g v hx hg' hv).1, (b6 i x j g v hx hg' hv).2⟩⟩
      | map es =>
        obtain ⟨a1, lv, ents, b1, b2, b3⟩ := h
        exact ⟨a1, lv, ents, b1, b2, fun i k v n hk hn => ⟨hg _ _ (b3 i k v n hk hn).1, hg _ _ (b3 i k v n hk hn).2.1, (b3 i k v n hk hn).2.2⟩⟩
    by_cases hil : i < c.μ.length
    · rw [← hμ', List.getElem?_append_left (by rw [setAll_length]; exact hil)] at hi
      rw [List.getElem?_append_left (by rw [setAll_length, ← hml]; exact hil)] at ho
      by_cases hm : i ∈ L
      · obtain ⟨j, hj⟩ := List.getElem?_of_mem hm
        have hjl : j < L.length := (List.getElem?_eq_some_iff.1 hj).1
        have hj1 : j < c1.μ.length := by omega
        have hj2 : j < H1.mu.length := by rw [← hr1.mlen]; exact hj1
        rw [setAll_at c.μ L _ hL hLb j i c1.μ[j] hj (by rw [List.getElem?_take, if_pos hjl]; exact List.getElem?_eq_getElem hj1)] at hi
        rw [setAll_at H.mu L _ hL (fun i hi => by rw [← hml]; exact hLb i hi) j i H1.mu[j] hj (by rw [List.getElem?_take, if_pos hjl]; exact List.getElem?_eq_getElem hj2)] at ho
        cases hi; cases ho
        exact mok1 _ _ (hr1.mu j _ _ (List.getElem?_eq_getElem hj1) (List.getElem?_eq_getElem hj2))
      · rw [setAll_other _ _ _ _ hm] at hi ho
        refine (hr.mu i t o hi ho).mono hEvo fun lv => unchm t (List.mem_of_getElem? hi) lv fun hmt => hm ?_
        obtain ⟨q, hq⟩ := List.getElem?_of_mem hmt
        have hql : q < L.length := by rw [← lμ]; exact (List.getElem?_eq_some_iff.1 hq).1
        rw [gμ q _ (List.getElem?_eq_getElem hql)] at hq
        have := hr.md _ _ t t hi hq lv lv rfl
        rw [this]
        exact List.getElem_mem hql
    · rw [← hμ', List.getElem?_append_right (by rw [setAll_length]; omega), setAll_length, List.getElem?_drop] at hi
      rw [List.getElem?_append_right (by rw [setAll_length, ← hml]; omega), setAll_length, List.getElem?_drop, ← hml] at ho
      exact mok1 _ _ (hr1.mu _ t o hi ho)
  · intro t ht lv
    show t.g < c1.w.heap.size
    rcases memμ' t ht with h1 | ⟨h1, _⟩
    · exact hr1.mlt t h1 lv
    · have := hr.mlt t h1 lv
      have hsz := hE1.size
      rw [w0] at hsz
      omega
  · have cross : ∀ t ∈ c1.μ, ∀ t' ∈ c.μ, t.live = true → t'.live = true → t' ∉ μ0 → t.g ≠ t'.g := by
      intro t ht t' ht' lv lv' hnt e
      rcases hE1.munew t ht lv with ⟨t1, h1, lv1, e1⟩ | h1
      · have h1' : t1 ∈ μ0 := m0 ▸ h1
        exact hnt (minj t1 (mμ t1 h1') t' ht' lv1 lv' (e1.trans e) ▸ h1')
      · rw [w0] at h1; have := hr.mlt t' ht' lv'; omega
    have notin : ∀ (k : Nat) (t : MTok), k ∉ L → c.μ[k]? = some t → t.live = true → t ∉ μ0 := by
      intro k t hkJ hk lv hmt
      obtain ⟨q, hq⟩ := List.getElem?_of_mem hmt
      have hql : q < L.length := by rw [← lμ]; exact (List.getElem?_eq_some_iff.1 hq).1
      rw [gμ q _ (List.getElem?_eq_getElem hql)] at hq
      have := hr.md _ _ t t hk hq lv lv rfl
      exact hkJ (this ▸ List.getElem_mem hql)
    have look : ∀ k, k < μ'.length → (∃ m, m < c1.μ.length ∧ μ'[k]? = c1.μ[m]? ∧ ((∃ hk : k ∈ L, L[m]? = some k) ∨ (c.μ.length ≤ k ∧ m = L.length + (k - c.μ.length)))) ∨ (k < c.μ.length ∧ k ∉ L ∧ μ'[k]? = c.μ[k]?) := by
      intro k hk
      rw [← hμ'] at hk ⊢
      by_cases hkl : k < c.μ.length
      · rw [List.getElem?_append_left (by rw [setAll_length]; exact hkl)]
        by_cases hkJ : k ∈ L
        · obtain ⟨m, hm⟩ := List.getElem?_of_mem hkJ
          have hml : m < L.length := (List.getElem?_eq_some_iff.1 hm).1
          have hm1 : m < c1.μ.length := by omega
          refine .inl ⟨m, hm1, ?_, .inl ⟨hkJ, hm⟩⟩
          have : (c1.μ.take L.length)[m]? = some c1.μ[m] := by rw [List.getElem?_take, if_pos hml]; exact List.getElem?_eq_getElem hm1
          rw [setAll_at c.μ L _ hL hLb m k _ hm this, List.getElem?_eq_getElem hm1]
        · exact .inr ⟨hkl, hkJ, setAll_other _ _ _ _ hkJ⟩
      · rw [List.getElem?_append_right (by rw [setAll_length]; omega), setAll_length, List.getElem?_drop]
        refine .inl ⟨L.length + (k - c.μ.length), ?_, rfl, .inr ⟨by omega, rfl⟩⟩
        simp [setAll_length] at hk
        omega
    intro i j t t' hi hj lv lv' e
    replace hi : μ'[i]? = some t := hi
    replace hj : μ'[j]? = some t' := hj
    rcases look i (List.getElem?_eq_some_iff.1 hi).1 with ⟨m, hm, e1, d1⟩ | ⟨hi1, hi2, e1⟩ <;> rcases look j (List.getElem?_eq_some_iff.1 hj).1 with ⟨m', hm', e2, d2⟩ | ⟨hj1, hj2, e2⟩
    · have := hr1.md m m' t t' (e1 ▸ hi) (e2 ▸ hj) lv lv' e
      subst this
      rcases d1 with ⟨_, d1⟩ | ⟨g1, d1⟩ <;> rcases d2 with ⟨_, d2⟩ | ⟨g2, d2⟩
      · rw [d1] at d2; cases d2; rfl
      · have := (List.getElem?_eq_some_iff.1 d1).1; omega
      · have := (List.getElem?_eq_some_iff.1 d2).1; omega
      · omega
    · exact absurd e (cross t (List.mem_of_getElem? (e1 ▸ hi)) t' (List.mem_of_getElem? (e2 ▸ hj)) lv lv' (notin j t' hj2 (e2 ▸ hj) lv'))
    · exact absurd e.symm (cross t' (List.mem_of_getElem? (e2 ▸ hj)) t (List.mem_of_getElem? (e1 ▸ hi)) lv' lv (notin i t hi2 (e1 ▸ hi) lv))
    · exact hr.md i j t t' (e1 ▸ hi) (e2 ▸ hj) lv lv' e
  · intro t ht lv hb
    replace hb : t.g ∈ c.σ ++ n := hb
    rcases memμ' t ht with h1 | ⟨h1, h2⟩
    · rcases List.mem_append.1 hb with hb | hb
      · exact new1m t h1 lv hb
      · exact hr1.ms t h1 lv (by rw [hn]; exact List.mem_append_right _ hb)
    · rcases List.mem_append.1 hb with hb | hb
      · exact hr.ms t h1 lv hb
      · have := hnlt _ hb; have := hr.mlt t h1 lv; omega
  · intro t ht lv t' ht' lv' e
    rcases memμ' t ht with h1 | ⟨h1, h2⟩ <;> rcases memτ' t' ht' with k1 | ⟨k1, k2⟩
    · exact hr1.mt t h1 lv t' k1 lv' e
    · rcases hE1.munew t h1 lv with ⟨t1, q1, lv1, e1⟩ | q1
      · exact hr.mt t1 (mμ t1 (m0 ▸ q1)) lv1 t' k1 lv' (e1.trans e)
      · rw [w0] at q1; have := hr.tlt k1 lv'; omega
    · rcases hE1.toknew t' k1 lv' with ⟨t1, q1, lv1, e1⟩ | q1
      · exact hr.mt t h1 lv t1 (mτ t1 (t0 ▸ q1)) lv1 (e.trans e1.symm)
      · rw [w0] at q1; have := hr.mlt t h1 lv; omega
    · exact hr.mt t h1 lv t' k1 lv' e
  · intro t ht lv p h
    replace h : c.hid t.g p := h
    rcases memμ' t ht with h1 | ⟨h1, _⟩
    · exact hr1.mhid t h1 lv p (by rw [hhid, h0]; exact .inl h)
    · exact hr.mhid t h1 lv p h
end Go.Pure

/- A generic layer: appending to an array that is being filled. -/
namespace Go.Pure
open Go

section
variable {P : Program} {c : Ctx} {H : PH}

/-- An array gets more elements: in place, or in new memory. -/
theorem Rel.setTok (hr : Rel P c H) {id : Nat} {t t' : Tok} (ht : c.τ[id]? = some t) (he : t'.e = t.e) (hsz : t'.size = t.size) (hlt : t.hw < t'.hw) (hlv : t'.live = true) {w' : World}
    (hos : w'.os = c.w.os) (htape : w'.tape = c.w.tape) (hout : w'.output = c.w.output) (hsize : c.w.heap.size ≤ w'.heap.size)
    (hblk : ∀ b, b < c.w.heap.size → (t.live = true → b ≠ t.g) → w'.heap[b]? = c.w.heap[b]?)
    (hown : t.live = true → ∀ k, k < t.hw * t.size → w'.cell? ⟨t.g, k, none⟩ = c.w.cell? ⟨t.g, k, none⟩)
    (hg : (t.live = true ∧ t'.g = t.g) ∨ c.w.heap.size ≤ t'.g)
    (htb : ∃ cur, w'.heap[t'.g]? = some (.cells cur t'.e (0, 0)) ∧ cur.size = t'.cap * t'.size ∧ t'.hw ≤ t'.cap ∧ t'.cap ≤ maxLen ∧ (P.info? t'.e).map (·.size) = some t'.size) :
    Rel P ⟨c.σ, c.τ.set id t', c.μ, c.hid, w'⟩ ⟨H.bx, H.tk.set id (t'.e, t'.hw), H.mu⟩ ∧ Evo c ⟨c.σ, c.τ.set id t', c.μ, c.hid, w'⟩ := by
  have hid := (List.getElem?_eq_some_iff.1 ht).1
  have htm := List.mem_of_getElem? ht
  have mem' : ∀ t2 ∈ c.τ.set id t', t2 = t' ∨ ∃ k, k ≠ id ∧ c.τ[k]? = some t2 := by
    intro t2 h2
    obtain ⟨k, hk⟩ := List.getElem?_of_mem h2
    by_cases e : k = id
    · subst e
      rw [List.getElem?_set_self hid] at hk
      cases hk
      exact .inl rfl
    · rw [List.getElem?_set_ne (fun e' => e e'.symm)] at hk
      exact .inr ⟨k, e, hk⟩
  have hE : Evo c ⟨c.σ, c.τ.set id t', c.μ, c.hid, w'⟩ := by
    refine ⟨hos, htape, hout, hsize, rfl, ⟨[], by simp, by simp⟩, ?_, fun id t ht => ⟨t, ht, rfl, .inl rfl⟩, fun t ht lv => .inl ⟨t, ht, lv, rfl⟩, ?_, ?_, ?_⟩
    · intro k t2 h2
      by_cases e : k = id
      · subst e
        rw [ht] at h2
        cases h2
        exact ⟨t', by simp [hid], hsz, he, .inr hlt⟩
      · exact ⟨t2, by show (c.τ.set id t')[k]? = _; rw [List.getElem?_set_ne (fun e' => e e'.symm)]; exact h2, rfl, rfl, .inl rfl⟩
    · intro t2 h2 lv
      rcases mem' t2 h2 with rfl | ⟨k, hk, hk2⟩
      · rcases hg with ⟨l1, g1⟩ | g1
        · exact .inl ⟨t, htm, l1, g1.symm⟩
        · exact .inr g1
      · exact .inl ⟨t2, List.mem_of_getElem? hk2, lv, rfl⟩
    · intro a v hspot hs hcell
      have hab := World.block_lt_of_cell? c.w a hcell
      refine ⟨?_, hs.1, hs.2.1, fun t2 h2 lv e => ?_, hs.2.2.2⟩
      · by_cases e : t.live = true ∧ a.block = t.g
        · have hp := hs.2.2.1 t htm e.1 e.2.symm
          have ha : a = ⟨t.g, a.off, none⟩ := by cases a; simp_all
          rw [← hcell, ha]
          exact hown e.1 _ hp
        · rw [← hcell]
          exact World.cell?_of_block (hblk a.block hab fun l e' => e ⟨l, e'⟩)
      · rcases mem' t2 h2 with rfl | ⟨k, hk, hk2⟩
        · rcases hg with ⟨l1, g1⟩ | g1
          · have hp := hs.2.2.1 t htm l1 (g1.symm.trans e)
            rw [hsz]
            exact Nat.lt_of_lt_of_le hp (Nat.mul_le_mul_right _ (by omega))
          · omega
        · exact hs.2.2.1 t2 (List.mem_of_getElem? hk2) lv e
    · intro b hb _ h3 _
      exact hblk b hb fun l e => h3 t htm l e.symm
  have hσ : ∀ b ∈ c.σ, w'.heap[b]? = c.w.heap[b]? := fun b hb => hblk b (hr.shid b hb) fun l e => hr.st t htm l (e ▸ hb)
  have hother : ∀ k t2, k ≠ id → c.τ[k]? = some t2 → t2.live = true → w'.heap[t2.g]? = c.w.heap[t2.g]? := fun k t2 hk hk2 lv =>
    hblk t2.g (hr.tlt (List.mem_of_getElem? hk2) lv) fun l e => hk (hr.td k id t2 t hk2 ht lv l e)
  refine ⟨⟨hr.len, ?_, ?_, ?_, hr.nd, ?_, ?_, fun b p h => Nat.lt_of_lt_of_le (hr.hidlt b p h) hsize, ?_, fun b hb => Nat.lt_of_lt_of_le (hr.shid b hb) hsize, ?_, hr.mlen, ?_, fun t ht lv => Nat.lt_of_lt_of_le (hr.mlt t ht lv) hsize, hr.md, hr.ms, ?_, hr.mhid⟩, hE⟩
  · intro i b cs hb hcs
    obtain ⟨vals, T, e1, e2, e3⟩ := hr.bx i b cs hb hcs
    exact ⟨vals, T, (hσ b (List.mem_of_getElem? hb)).trans e1, e2, fun j p v hp hv => ⟨(e3 j p v hp hv).1.mono hE, (e3 j p v hp hv).2⟩⟩
  · show (c.τ.set id t').map _ = H.tk.set id _
    rw [List.map_set, hr.tk]
  · intro t2 h2 lv
    rcases mem' t2 h2 with rfl | ⟨k, hk, hk2⟩
    · exact htb
    · obtain ⟨cur, e1, e2⟩ := hr.tb t2 (List.mem_of_getElem? hk2) lv
      exact ⟨cur, (hother k t2 hk hk2 lv).trans e1, e2⟩
  · intro i j t1 t2 hi hj l1 l2 e
    replace hi : (c.τ.set id t')[i]? = some t1 := hi
    replace hj : (c.τ.set id t')[j]? = some t2 := hj
    by_cases ei : i = id <;> by_cases ej : j = id
    · omega
    · subst ei
      rw [List.getElem?_set_self hid] at hi
      rw [List.getElem?_set_ne (fun e' => ej e'.symm)] at hj
      cases hi
      rcases hg with ⟨lv, g1⟩ | g1
      · exact hr.td _ j t t2 ht hj lv l2 (g1.symm.trans e)
      · have := hr.tlt (List.mem_of_getElem? hj) l2; omega
    · subst ej
      rw [List.getElem?_set_self hid] at hj
      rw [List.getElem?_set_ne (fun e' => ei e'.symm)] at hi
      cases hj
      rcases hg with ⟨lv, g1⟩ | g1
      · exact hr.td i _ t1 t hi ht l1 lv (e.trans g1)
      · have := hr.tlt (List.mem_of_getElem? hi) l1; omega
    · rw [List.getElem?_set_ne (fun e' => ei e'.symm)] at hi
      rw [List.getElem?_set_ne (fun e' => ej e'.symm)] at hj
      exact hr.td i j t1 t2 hi hj l1 l2 e
  · intro t2 h2 lv hm
    rcases mem' t2 h2 with rfl | ⟨k, hk, hk2⟩
    · rcases hg with ⟨l1, g1⟩ | g1
      · exact hr.st t htm l1 (g1 ▸ hm)
      · have := hr.shid _ hm; omega
    · exact hr.st t2 (List.mem_of_getElem? hk2) lv hm
  · intro t2 h2 lv p hp
    rcases mem' t2 h2 with rfl | ⟨k, hk, hk2⟩
    · rcases hg with ⟨l1, g1⟩ | g1
      · exact hr.thid t htm l1 p (g1 ▸ hp)
      · have := hr.hidlt _ _ hp; omega
    · exact hr.thid t2 (List.mem_of_getElem? hk2) lv p hp
  · intro t2 h2 lv
    rcases mem' t2 h2 with rfl | ⟨k, hk, hk2⟩
    · rw [hlv] at lv; cases lv
    · exact hr.dead t2 (List.mem_of_getElem? hk2) lv
  · intro i t2 o h2 ho
    have hm := List.mem_of_getElem? h2
    exact (hr.mu i t2 o h2 ho).mono hE fun lv => hblk _ (hr.mlt t2 hm lv) fun l e => hr.mt t2 hm lv t htm l e
  · intro t2 h2 lv t3 h3 lv3 e
    rcases mem' t3 h3 with rfl | ⟨k, hk, hk2⟩
    · rcases hg with ⟨l1, g1⟩ | g1
      · exact hr.mt t2 h2 lv t htm l1 (e.trans g1)
      · have := hr.mlt t2 h2 lv; omega
    · exact hr.mt t2 h2 lv t3 (List.mem_of_getElem? hk2) lv3 e
end
end Go.Pure

/- A generic layer: append. -/
namespace Go.Pure
open Go

def bytesB (P : Program) (t : TypeId) : Option Nat := (P.info? t).map (·.bytes)

section
variable {P : Program} {o : Oper} {ρ : Operand → PV} {H : PH}

theorem run_append_zero (w : World) {t ty e : TypeId} {i : TypeInfo} (ht : P.underlying t = some (.slice e)) (hi : P.info? e = some i) (b : Option Addr) (n c : Nat) (h : n ≤ c) (hb : b = none ∨ ∃ g, b = some g) (x : Value) (hx : x = .slice none 0 0 ∨ ∃ a c', x = .slice (some a) 0 c') :
    (Builtin.append_ #[t, t] ty #[.slice b n c, x]).run P w = .ok (.slice b n c) w := by
  rcases hx with rfl | ⟨a, c', rfl⟩
  · cases b with
    | none => simp [Builtin.append_, run_underlying ht, sizeOf, typeInfo, hi, Builtin.lenOf, h, Builtin.firstCells]
    | some g => simp [Builtin.append_, run_underlying ht, sizeOf, typeInfo, hi, Builtin.lenOf, h, Builtin.firstCells, storeCells]
  · have hf : (Builtin.firstCells i.size 0 (.slice (some a) 0 c')).run P w = .ok #[] w := by
      have := run_firstCells_some (P := P) w i.size 0 a 0 c' [] (by simp) (by simp)
      simpa using this
    cases b with
    | none => simp [Builtin.append_, run_underlying ht, sizeOf, typeInfo, hi, Builtin.lenOf, h, hf]
    | some g => simp [Builtin.append_, run_underlying ht, sizeOf, typeInfo, hi, Builtin.lenOf, h, hf, storeCells]

/-- The elements of an array, whose cells are told by two lists. -/
theorem RG_appended {w : World} {S : Nat → Nat → Prop} {blk : Nat} {cur : Array Value} {e : TypeId} {es xs : List GV} {size cap : Nat} {olds news rest : List Value} (hb : w.heap[blk]? = some (.cells cur e (0, 0)))
    (hcur : cur = (olds ++ news ++ rest).toArray) (lo : olds.length = es.length * size) (ln : news.length = xs.length * size)
    (hes : ∀ x ∈ es, x.cells.length = size) (hxs : ∀ x ∈ xs, x.cells.length = size) (hc : es.length + xs.length ≤ cap) (hm : cap ≤ maxLen) (hS : ∀ p, p < (es.length + xs.length) * size → S blk p)
    (ho : ∀ (i : Nat) (x : GV) (j : Nat) (g : GV) (v : Value), es[i]? = some x → x.cells[j]? = some g → olds[i * size + j]? = some v → RG w S g v)
    (hn : ∀ (i : Nat) (x : GV) (j : Nat) (g : GV) (v : Value), xs[i]? = some x → x.cells[j]? = some g → news[i * size + j]? = some v → RG w S g v)
    (ho1 : ∀ v ∈ olds, v.oneCell' = true) (hn1 : ∀ v ∈ news, v.oneCell' = true) :
    RG w S (.sl (es ++ xs)) (.slice (some ⟨blk, 0, none⟩) (es.length + xs.length) cap) := by
  have hlen : (es ++ xs).length = es.length + xs.length := by simp
  have hmul : (es.length + xs.length) * size = olds.length + news.length := by rw [lo, ln, Nat.add_mul]
  have hcells : ∀ (i : Nat) (x : GV), (es ++ xs)[i]? = some x → x.cells.length = size := fun i x hx => by
    rcases List.mem_append.1 (List.mem_of_getElem? hx) with h | h
    · exact hes x h
    · exact hxs x h
  have := RG_row (es := es ++ xs) (size := size) (cap := cap) (S := S) hb hcells (by rw [hlen]; exact hc) hm (by rw [hlen, hmul, hcur]; simp) (by rw [hlen]; exact hS) (fun k hk => ?_) (fun i x j g v hx hg hv => ?_)
  · rw [hlen] at this; exact this
  · rw [hlen, hmul] at hk
    rw [hcur]
    simp only [List.getElem?_toArray]
    rw [List.getElem?_append_left (by simp; omega)]
    have hk' : k < (olds ++ news).length := by simp; omega
    refine ⟨(olds ++ news)[k], List.getElem?_eq_getElem hk', ?_⟩
    rcases List.mem_append.1 (List.getElem_mem hk') with h | h
    · exact ho1 _ h
    · exact hn1 _ h
  · have hj : j < size := by rw [← hcells i x hx]; exact (List.getElem?_eq_some_iff.1 hg).1
    have hi := (List.getElem?_eq_some_iff.1 hx).1
    rw [hlen] at hi
    rw [hcur] at hv
    simp only [List.getElem?_toArray] at hv
    have hlt : i * size + j < olds.length + news.length := by
      rw [← hmul]
      calc i * size + j < i * size + size := by omega
        _ = (i + 1) * size := by rw [Nat.add_mul, Nat.one_mul]
        _ ≤ _ := Nat.mul_le_mul_right _ hi
    rw [List.getElem?_append_left (by simp; omega)] at hv
    by_cases h1 : i < es.length
    · rw [List.getElem?_append_left h1] at hx
      have hlt' : i * size + j < olds.length := by
        rw [lo]
        calc i * size + j < i * size + size := by omega
          _ = (i + 1) * size := by rw [Nat.add_mul, Nat.one_mul]
          _ ≤ _ := Nat.mul_le_mul_right _ h1
      rw [List.getElem?_append_left hlt'] at hv
      exact ho i x j g v hx hg hv
    · rw [List.getElem?_append_right (by omega)] at hx
      have hge : olds.length ≤ i * size + j := by
        rw [lo]
        exact Nat.le_trans (Nat.mul_le_mul_right _ (by omega)) (Nat.le_add_right _ _)
      rw [List.getElem?_append_right hge] at hv
      refine hn (i - es.length) x j g v hx hg ?_
      rw [← hv]
      congr 1
      rw [lo, Nat.sub_mul]
      have := Nat.mul_le_mul_right size (show es.length ≤ i by omega)
      omega

/-- A list's cells. -/
theorem slice_cells {w : World} {S : Nat → Nat → Prop} {xs : List GV} {u : Value} {size : Nat} (h : RG w S (.sl xs) u) (hxs : ∀ x ∈ xs, x.cells.length = size) (hne : xs ≠ []) :
    ∃ (a : Addr) (cap : Nat) (news : List Value), u = .slice (some a) xs.length cap ∧ news.length = xs.length * size ∧ (∀ j v, news[j]? = some v → w.cell? (a.add j) = some v) ∧ (∀ v ∈ news, v.oneCell' = true) ∧
      ∀ (i : Nat) (x : GV) (j : Nat) (g : GV) (v : Value), xs[i]? = some x → x.cells[j]? = some g → news[i * size + j]? = some v → RG w S g v := by
  cases h with
  | nil => exact absurd rfl hne
  | sl _ a cap size' f ha hc hm hs hf hh =>
    have hsz : size' = size := by
      obtain ⟨x, hx⟩ : ∃ x, xs[0]? = some x := by
        cases xs with
        | nil => exact absurd rfl hne
        | cons x r => exact ⟨x, rfl⟩
      rw [← hs 0 x hx, hxs x (List.mem_of_getElem? hx)]
    subst hsz
    refine ⟨a, cap, (List.range (xs.length * size')).map f, rfl, by simp, fun j v hv => ?_, fun v hv => ?_, fun i x j g v hx hg hv => ?_⟩
    · simp only [List.getElem?_map, Option.map_eq_some_iff] at hv
      obtain ⟨k, hk, rfl⟩ := hv
      obtain ⟨h1, rfl⟩ := List.getElem?_eq_some_iff.1 hk
      rw [List.getElem_range]
      exact (hf j (by simpa using h1)).1
    · obtain ⟨k, hk, rfl⟩ := List.mem_map.1 hv
      exact (hf k (by simpa using hk)).2.2
    · simp only [List.getElem?_map, Option.map_eq_some_iff] at hv
      obtain ⟨k, hk, rfl⟩ := hv
      obtain ⟨h1, rfl⟩ := List.getElem?_eq_some_iff.1 hk
      rw [List.getElem_range]
      exact hh i x j g hx hg

theorem PO_append {x y : Operand} {t e : TypeId} {es xs : List GV} {id n size bytes : Nat} {z : Value} (ho : o.op = .call { callee := .builtin .append, args := ⟨[x, y]⟩, argTypes := ⟨[t, t]⟩ })
    (ht : P.underlying t = some (.slice e)) (hs : szB P e = some size) (hby : bytesB P e = some bytes) (hz : zeroB P e = some z) (hzs : Nat.beq z.cells.size size = true) (hx : ρ x = .own es id) (hy : elems (ρ y) = some xs)
    (hk : H.tk[id]? = some (e, n)) (hn : es.length = n) (hxs : ∀ x ∈ xs, x.cells.length = size) (hfit : (n + xs.length) * bytes ≤ 140737488355328) (hmax : n + xs.length ≤ maxLen) :
    PO P o ρ H (.own (es ++ xs) id) ⟨H.bx, H.tk.set id (e, n + xs.length), H.mu⟩ := by
  intro c ρr hr hxx
  subst hn
  have hzs := Nat.eq_of_beq_eq_true hzs
  have hx1 := hxx x (by simp [ho, Op.operands, Call.operands])
  have hy1 := elems_ok (hxx y (by simp [ho, Op.operands, Call.operands])) hy
  rw [hx] at hx1
  obtain ⟨i, hi, hisz⟩ : ∃ i, P.info? e = some i ∧ i.size = size := by
    unfold szB at hs
    simpa using hs
  have hiby : i.bytes = bytes := by
    unfold bytesB at hby; rw [hi] at hby; simpa using hby
  have hiz : i.zero = some z := by
    unfold zeroB at hz; rw [hi] at hz; simpa using hz
  subst hisz; subst hiby
  generalize hvx : ρr x = v at hx1
  generalize hvy : ρr y = u at hy1
  cases hx1 with
  | own _ _ _ tk hrg htk hsz hle hv =>
  have htk2 : (tk.e, tk.hw) = (e, es.length) := by
    have := hr.tk
    have h1 : (c.τ.map (fun t => (t.e, t.hw)))[id]? = some (tk.e, tk.hw) := by simp [htk]
    rw [this, hk] at h1
    exact (Option.some.inj h1).symm
  have hte : tk.e = e := congrArg Prod.fst htk2
  have hhw : tk.hw = es.length := congrArg Prod.snd htk2
  have hop : (execOp ρr o).run P c.w = ((Builtin.append_ #[t, t] o.type #[v, u]).run P c.w).andThen fun r w => .ok (.value r) w := by
    simp [execOp, ho, resolve, invoke, builtin, hvx, hvy]
  unfold OpGoes
  rw [hop]
  have hid := (List.getElem?_eq_some_iff.1 htk).1
  by_cases hne : xs = []
  · -- nothing is appended
    subst hne
    have hu : u = .slice none 0 0 ∨ ∃ a c', u = .slice (some a) 0 c' := by
      cases hy1 with
      | nil => exact .inl rfl
      | sl _ a cap => exact .inr ⟨a, cap, rfl⟩
    have hrun : (Builtin.append_ #[t, t] o.type #[v, u]).run P c.w = .ok v c.w := by
      rcases hv hhw.symm with ⟨lv, rfl⟩ | ⟨_, rfl⟩
      · obtain ⟨cur, _, _, h3, _⟩ := hr.tb tk (List.mem_of_getElem? htk) lv
        exact run_append_zero c.w ht hi _ _ _ (by omega) (.inr ⟨_, rfl⟩) u hu
      · exact run_append_zero c.w ht hi none 0 0 (Nat.le_refl _) (.inl rfl) u hu
    rw [hrun]
    refine ⟨c, rfl, ?_, Evo.refl c, ?_⟩
    · have : (⟨H.bx, H.tk.set id (e, es.length + ([] : List GV).length), H.mu⟩ : PH) = H := by
        have : H.tk.set id (e, es.length) = H.tk := by
          refine List.ext_getElem? fun k => ?_
          by_cases ek : k = id
          · subst ek; rw [hk, List.getElem?_set_self (List.getElem?_eq_some_iff.1 hk).1]
          · rw [List.getElem?_set_ne (fun e' => ek e'.symm)]
        simp only [List.length_nil, Nat.add_zero, this]
      rw [this]; exact hr
    · rw [List.append_nil]; exact .own es id v tk hrg htk hsz hle hv
  · obtain ⟨a, m, news, rfl, ln, hnews, hn1, hnrg⟩ := slice_cells hy1 hxs hne
    have hpos : 0 < xs.length := List.length_pos_iff.2 hne
    -- what came of it
    have hsame : tk.size = i.size := by
      cases hl : tk.live with
      | true =>
        obtain ⟨_, _, _, _, _, h5⟩ := hr.tb tk (List.mem_of_getElem? htk) hl
        rw [hte, hi] at h5; simpa using h5.symm
      | false =>
        have h5 := (hr.dead tk (List.mem_of_getElem? htk) hl).2
        rw [hte, hi] at h5; simpa using h5.symm
    have fin : ∀ (w' : World) (t' : Tok) (olds rest : List Value) (cur : Array Value),
        t'.e = e → t'.size = i.size → t'.hw = es.length + xs.length → t'.live = true → w'.os = c.w.os → w'.tape = c.w.tape → w'.output = c.w.output → c.w.heap.size ≤ w'.heap.size →
        (∀ b, b < c.w.heap.size → (tk.live = true → b ≠ tk.g) → w'.heap[b]? = c.w.heap[b]?) →
        (tk.live = true → ∀ k, k < tk.hw * tk.size → w'.cell? ⟨tk.g, k, none⟩ = c.w.cell? ⟨tk.g, k, none⟩) → ((tk.live = true ∧ t'.g = tk.g) ∨ c.w.heap.size ≤ t'.g) →
        w'.heap[t'.g]? = some (.cells cur e (0, 0)) → cur = (olds ++ news ++ rest).toArray → cur.size = t'.cap * i.size → t'.cap ≤ maxLen → es.length + xs.length ≤ t'.cap → olds.length = es.length * i.size → (∀ v ∈ olds, v.oneCell' = true) →
        (∀ (k : Nat) (x : GV) (j : Nat) (g : GV) (v : Value), es[k]? = some x → x.cells[j]? = some g → olds[k * i.size + j]? = some v → RG c.w c.stab g v) →
        ∃ c' : Ctx, c'.w = w' ∧ Rel P c' ⟨H.bx, H.tk.set id (e, es.length + xs.length), H.mu⟩ ∧ Evo c c' ∧ RV c' (.own (es ++ xs) id) (.slice (some ⟨t'.g, 0, none⟩) (es.length + xs.length) t'.cap) := by
      intro w' t' olds rest cur e1 e2 e4 e5 o1 o2 o3 o4 o5 o6 o7 hh hcur hcs hcm hcap lo ho1 horg
      obtain ⟨g1, g2⟩ := hr.setTok htk (t' := t') (by rw [e1, hte]) (by rw [hsame, e2]) (by rw [hhw, e4]; omega) e5 o1 o2 o3 o4 o5 o6 o7 ⟨cur, by rw [e1]; exact hh, by rw [e2]; exact hcs, by rw [e4]; exact hcap, hcm, by rw [e1, hi, e2]; rfl⟩
      refine ⟨⟨c.σ, c.τ.set id t', c.μ, c.hid, w'⟩, rfl, ?_, g2, ?_⟩
      · rw [e1, e4] at g1; exact g1
      · have hS : ∀ p, p < (es.length + xs.length) * i.size → Ctx.stab ⟨c.σ, c.τ.set id t', c.μ, c.hid, w'⟩ t'.g p := by
          intro p hp
          have tm : t' ∈ c.τ.set id t' := List.mem_of_getElem? (List.getElem?_set_self hid)
          refine ⟨fun h => g1.thid t' tm e5 p h, fun h => g1.st t' tm e5 h, fun t2 h2 lv e => ?_, fun t2 h2 lv e => g1.mt t2 h2 lv t' tm e5 e⟩
          obtain ⟨k2, hk2⟩ := List.getElem?_of_mem h2
          have := g1.td k2 id t2 t' hk2 (List.getElem?_set_self hid) lv e5 e
          subst this
          replace hk2 : (c.τ.set k2 t')[k2]? = some t2 := hk2
          rw [List.getElem?_set_self hid] at hk2
          cases hk2
          rw [e4, e2]; exact hp
        have hes : ∀ x ∈ es, x.cells.length = i.size := fun x hx => by
          obtain ⟨k, hk⟩ := List.getElem?_of_mem hx
          rw [hsz k x hk, hsame]
        have hR := RG_appended (S := Ctx.stab ⟨c.σ, c.τ.set id t', c.μ, c.hid, w'⟩) hh hcur lo ln hes hxs hcap hcm hS (fun k x j g v h1 h2 h3 => (horg k x j g v h1 h2 h3).mono g2.keep) (fun k x j g v h1 h2 h3 => (hnrg k x j g v h1 h2 h3).mono g2.keep) ho1 hn1
        refine .own (es ++ xs) id _ t' hR (List.getElem?_set_self hid) (fun k x hx => ?_) (by simp [e4]) (fun _ => .inl ⟨e5, by simp⟩)
        rw [e2]
        rcases List.mem_append.1 (List.mem_of_getElem? hx) with h | h
        · exact hes x h
        · exact hxs x h
    rcases hv hhw.symm with ⟨lv, rfl⟩ | ⟨he0, rfl⟩
    · obtain ⟨cur, hcur, hcs, hle2, hcm, _⟩ := hr.tb tk (List.mem_of_getElem? htk) lv
      rw [hte] at hcur
      rw [hsame] at hcs
      rw [hhw] at hle2
      have hcell : ∀ k, c.w.cell? ⟨tk.g, k, none⟩ = cur[k]? := fun k => cell_of_row c.w tk.g k cur e (0, 0) hcur
      have hes : ∀ x ∈ es, x.cells.length = i.size := fun x hx => by
        obtain ⟨k, hk⟩ := List.getElem?_of_mem hx
        rw [hsz k x hk, hsame]
      obtain ⟨olds, lo, hocell, ho1, horg⟩ : ∃ olds : List Value, olds.length = es.length * i.size ∧ (∀ j v, olds[j]? = some v → c.w.cell? ((⟨tk.g, 0, none⟩ : Addr).add j) = some v) ∧ (∀ v ∈ olds, v.oneCell' = true) ∧
          ∀ (k : Nat) (x : GV) (j : Nat) (g : GV) (v : Value), es[k]? = some x → x.cells[j]? = some g → olds[k * i.size + j]? = some v → RG c.w c.stab g v := by
        by_cases hes0 : es = []
        · subst hes0; exact ⟨[], by simp, by simp, by simp, by simp⟩
        · obtain ⟨a', m', olds, e1, l1, l2, l3, l4⟩ := slice_cells hrg hes hes0
          cases e1
          exact ⟨olds, l1, l2, l3, l4⟩
      have hocell' : ∀ j v, olds[j]? = some v → cur[j]? = some v := fun j v h => by
        have := hocell j v h
        rw [add_eq _ _ rfl] at this
        rw [← hcell]
        simpa using this
      have hlc : es.length * i.size ≤ cur.size := by rw [hcs]; exact Nat.mul_le_mul_right _ hle2
      have htake : cur.toList.take (es.length * i.size) = olds := by
        refine List.ext_getElem? fun k => ?_
        by_cases hk : k < es.length * i.size
        · have h1 : k < olds.length := by rw [lo]; exact hk
          rw [List.getElem?_take, if_pos hk, List.getElem?_eq_getElem h1]
          have := hocell' k _ (List.getElem?_eq_getElem h1)
          simpa using this
        · rw [List.getElem?_eq_none (by simp; omega), List.getElem?_eq_none (by omega)]
      by_cases hroom : es.length + xs.length ≤ tk.cap
      · have hfit' : es.length * i.size + news.length ≤ cur.size := by
          rw [ln, hcs, ← Nat.add_mul]; exact Nat.mul_le_mul_right _ hroom
        rw [run_append_room c.w t o.type e i ht hi tk.g es.length tk.cap cur hcur a xs.length m news ln hnews hn1 hroom hfit', htake]
        refine fin _ { tk with hw := es.length + xs.length } olds (cur.toList.drop (es.length * i.size + news.length)) _ hte hsame rfl lv rfl rfl rfl (by simp) (fun b hb h => setRow_other c.w tk.g b _ (h lv)) (fun _ k hk => ?_) (.inl ⟨lv, rfl⟩) (setRow_heap c.w tk.g cur _ e (0, 0) hcur) rfl ?_ hcm hroom lo ho1 horg
        · rw [cell_of_row _ tk.g k _ e (0, 0) (setRow_heap c.w tk.g cur _ e (0, 0) hcur), hcell]
          rw [hhw, hsame, ← lo] at hk
          simp only [List.getElem?_toArray]
          rw [List.append_assoc, List.getElem?_append_left hk]
          rw [List.getElem?_eq_getElem hk]
          exact (hocell' k _ (List.getElem?_eq_getElem hk)).symm
        · simp [lo]
          rw [hcs] at hfit' ⊢
          omega
      · have hg : tk.cap < es.length + xs.length := by omega
        have h63 : ((es.length + xs.length : Nat) : Int) ≤ 9223372036854775807 := by simp only [maxLen] at hmax; omega
        rw [run_append_grow c.w t o.type e i z ht hi hiz ⟨tk.g, 0, none⟩ es.length tk.cap olds lo hocell a xs.length m news ln hnews hg h63 (growslice_fits hg hfit)]
        have hge := grownCap_ge c.w (es.length + xs.length) tk.cap e
        refine fin _ ⟨true, c.w.heap.size, e, i.size, grownCap c.w (es.length + xs.length) tk.cap e, es.length + xs.length⟩ olds (Builtin.zeroCells z.cells (grownCap c.w (es.length + xs.length) tk.cap e - (es.length + xs.length))).toList _ rfl rfl rfl rfl rfl rfl rfl (by simp) (fun b hb _ => Go.heap_alloc_old c.w.drew _ b hb) (fun _ k hk => ?_) (.inr (Nat.le_refl _)) (Go.heap_alloc_new c.w.drew _) (by simp) ?_ (grownCap_le_maxLen _ _ _ _ hmax) hge lo ho1 horg
        · have hlt := hr.tlt (List.mem_of_getElem? htk) lv
          exact World.cell?_of_block (Go.heap_alloc_old c.w.drew _ tk.g hlt)
        · simp only [Array.size_append, List.size_toArray, size_zeroCells, hzs, lo, ln]
          rw [← Nat.add_mul, ← Nat.add_mul]
          congr 1
          omega
    · subst he0
      have h63 : (xs.length : Int) ≤ 9223372036854775807 := by simp only [maxLen, List.length_nil] at hmax; omega
      have hfit' : xs.length * i.bytes ≤ 140737488355328 := by simpa using hfit
      rw [run_append_nil c.w t o.type e i z ht hi hiz a xs.length m news ln hnews hpos h63 (by omega)]
      have hge := grownCap_ge c.w xs.length 0 e
      have := fin (c.w.drew.alloc (.cells (news.toArray ++ Builtin.zeroCells z.cells (grownCap c.w xs.length 0 e - xs.length)) e)) ⟨true, c.w.heap.size, e, i.size, grownCap c.w xs.length 0 e, xs.length⟩ [] (Builtin.zeroCells z.cells (grownCap c.w xs.length 0 e - xs.length)).toList _ rfl rfl (by simp) rfl rfl rfl rfl (by simp) (fun b hb _ => Go.heap_alloc_old c.w.drew _ b hb) (fun _ k hk => by rw [hhw] at hk; simp at hk) (.inr (Nat.le_refl _)) (Go.heap_alloc_new c.w.drew _) (by simp) (by
        simp only [Array.size_append, List.size_toArray, size_zeroCells, hzs, ln]
        rw [← Nat.add_mul]
        congr 1
        omega) (grownCap_le_maxLen _ _ _ _ (by simpa using hmax)) (by simpa using hge) (by simp) (by simp) (by simp)
      simpa using this
end
end Go.Pure

/- A generic layer: calls that hand boxes and arrays over. -/
namespace Go.Pure
open Go

/-- An argument: handed over as it is (with its array), or as what it reads as. -/
def argP (k : Bool) (p : PV) : PV := bif k then p else pack p
def argsK (ρ : Operand → PV) : List Bool → List Operand → List PV
  | _, [] => []
  | [], x :: r => pack (ρ x) :: argsK ρ [] r
  | k :: ks, x :: r => argP k (ρ x) :: argsK ρ ks r
theorem argP_ok {c : Ctx} {k : Bool} {p : PV} {v : Value} (h : RV c p v) : RV c (argP k p) v := by
  cases k with
  | true => exact h
  | false => exact pack_ok h
theorem argsK_length (ρ : Operand → PV) : ∀ (ks : List Bool) (l : List Operand), (argsK ρ ks l).length = l.length
  | _, [] => by simp [argsK]
  | [], x :: r => by simp [argsK, argsK_length ρ [] r]
  | k :: ks, x :: r => by simp [argsK, argsK_length ρ ks r]
theorem argsK_get {c : Ctx} {ρ : Operand → PV} {ρr : Operand → Value} : ∀ (ks : List Bool) (l : List Operand), (∀ x ∈ l, RV c (ρ x) (ρr x)) → ∀ (i : Nat) (p : PV) (x : Operand), (argsK ρ ks l)[i]? = some p → l[i]? = some x → RV c p (ρr x)
  | _, [], _, i, p, x, _, h => by simp at h
  | [], y :: r, hx, i, p, x, hp, h => by
    cases i with
    | zero => simp [argsK] at hp h; subst hp; subst h; exact pack_ok (hx y (by simp))
    | succ i => exact argsK_get [] r (fun z hz => hx z (by simp [hz])) i p x (by simpa [argsK] using hp) (by simpa using h)
  | k :: ks, y :: r, hx, i, p, x, hp, h => by
    cases i with
    | zero => simp [argsK] at hp h; subst hp; subst h; exact argP_ok (hx y (by simp))
    | succ i => exact argsK_get ks r (fun z hz => hx z (by simp [hz])) i p x (by simpa [argsK] using hp) (by simpa using h)

section
variable {P : Program} {o : Oper} {ρ : Operand → PV} {H H' : PH} {v : PV}

/-- A call, over the caller's own boxes and arrays. -/
theorem PO_call_at (ks : List Bool) {f : Operand} {args : Array Operand} {ts : Array TypeId} {id : FuncId} {ps : List PV} (ho : o.op = .call { callee := .value f, args := args, argTypes := ts })
    (hf : ρ f = .g (.raw (.func (.func id) #[] #[]))) (he : enterB P id = true) (ha : argsK ρ ks args.toList = ps) (hp : PC P id ps H v H') : PO P o ρ H v H' := by
  intro c ρr hr hx
  have hops : ∀ x, x = f ∨ x ∈ args.toList → x ∈ o.op.operands.toList := by
    intro x hx
    simp [ho, Op.operands, Call.operands]
    rcases hx with rfl | hx
    · exact .inl rfl
    · exact .inr (by simpa using hx)
  have hf1 := hx f (hops f (.inl rfl))
  rw [hf] at hf1
  have hf2 := RV_raw hf1
  have hrun : (execOp ρr o).run P c.w = .ok (.enter id (args.map ρr)) c.w := by
    simp [execOp, ho, resolve, hf2, Deferred.ofValue, invoke, run_callFunc he]
  unfold OpGoes
  rw [hrun]
  refine (hp c _ hr ⟨by rw [← ha, argsK_length]; simp, fun i p u hp' hu => ?_⟩).mono ?_
  · simp only [Array.getElem?_map, Option.map_eq_some_iff] at hu
    obtain ⟨x, hx1, rfl⟩ := hu
    rw [← ha] at hp'
    exact argsK_get ks args.toList (fun z hz => hx z (hops z (.inr hz))) i p x hp' (by simpa using hx1)
  · rintro e w' ⟨rv, c', rfl, rfl, hr', hE, hv'⟩
    exact ⟨rv, rfl, c', rfl, hr', hE, hv'⟩

/-- A call of a function value that has captured. -/
theorem PO_call_clo (ks : List Bool) {f : Operand} {args : Array Operand} {ts : Array TypeId} {id : FuncId} {first cap ps : List PV} (ho : o.op = .call { callee := .value f, args := args, argTypes := ts })
    (hf : ρ f = .clo (.func id) first cap) (he : enterB P id = true) (ha : first ++ argsK ρ ks args.toList ++ cap = ps) (hp : PC P id ps H v H') : PO P o ρ H v H' := by
  intro c ρr hr hx
  have hops : ∀ x, x = f ∨ x ∈ args.toList → x ∈ o.op.operands.toList := by
    intro x hx
    simp [ho, Op.operands, Call.operands]
    rcases hx with rfl | hx
    · exact .inl rfl
    · exact .inr (by simpa using hx)
  have hf1 := hx f (hops f (.inl rfl))
  rw [hf] at hf1
  generalize hvf : ρr f = vf at hf1
  cases hf1 with
  | clo _ _ _ us vs hl1 hl2 h1 h2 =>
  have hrun : (execOp ρr o).run P c.w = .ok (.enter id (us ++ args.map ρr ++ vs)) c.w := by
    simp [execOp, ho, resolve, hvf, Deferred.ofValue, invoke, run_callFunc he]
  unfold OpGoes
  rw [hrun]
  refine (hp c _ hr ⟨by rw [← ha]; simp [argsK_length, hl1, hl2], fun i p u hp' hu => ?_⟩).mono ?_
  · rw [← ha] at hp'
    by_cases i1 : i < first.length
    · rw [List.append_assoc, List.getElem?_append_left i1] at hp'
      rw [Array.append_assoc, Array.getElem?_append_left (by omega)] at hu
      exact h1 i p u hp' hu
    · by_cases i2 : i < first.length + args.size
      · rw [List.getElem?_append_left (by simp [argsK_length]; omega), List.getElem?_append_right (by omega)] at hp'
        rw [Array.getElem?_append_left (by simp; omega), Array.getElem?_append_right (by omega)] at hu
        simp only [Array.getElem?_map, Option.map_eq_some_iff] at hu
        obtain ⟨x, hx1, rfl⟩ := hu
        exact argsK_get ks args.toList (fun z hz => hx z (hops z (.inr hz))) _ p x hp' (by rw [hl1]; simpa using hx1)
      · rw [List.getElem?_append_right (by simp [argsK_length]; omega)] at hp'
        rw [Array.getElem?_append_right (by simp; omega)] at hu
        refine h2 _ p u hp' ?_
        rw [← hu]
        congr 1
        simp [argsK_length]; omega
  · rintro e w' ⟨rv, c', rfl, rfl, hr', hE, hv'⟩
    exact ⟨rv, rfl, c', rfl, hr', hE, hv'⟩

/-- A function value is made. -/
theorem PO_makeFunc {fn : Fn} {first cap : Array Operand} (ho : o.op = .makeFunc fn first cap) : PO P o ρ H (.clo fn (first.toList.map ρ) (cap.toList.map ρ)) H :=
  PO_val fun c ρr hr hx => by
    refine ⟨.func fn (first.map ρr) (cap.map ρr), by simp [execOp, ho, Instr.makeFunc], .clo fn _ _ _ _ (by simp) (by simp) (fun i p u hp hu => ?_) (fun i p u hp hu => ?_)⟩
    · simp only [List.getElem?_map, Array.getElem?_map, Option.map_eq_some_iff] at hp hu
      obtain ⟨x, hx1, rfl⟩ := hp
      obtain ⟨y, hy1, rfl⟩ := hu
      have : x = y := by simpa [hy1] using hx1.symm
      subst this
      exact hx x (by rw [ho]; simp [Op.operands]; exact .inl (by simpa using List.mem_of_getElem? hx1))
    · simp only [List.getElem?_map, Array.getElem?_map, Option.map_eq_some_iff] at hp hu
      obtain ⟨x, hx1, rfl⟩ := hp
      obtain ⟨y, hy1, rfl⟩ := hu
      have : x = y := by simpa [hy1] using hx1.symm
      subst this
      exact hx x (by rw [ho]; simp [Op.operands]; exact .inr (by simpa using List.mem_of_getElem? hx1))
end

/-! ### Only what is handed over -/
mutual
/-- The boxes that a value names. -/
def refB : PV → List Nat
  | .ptr b _ => [b]
  | .clo _ a b => refBL a ++ refBL b
  | .agg cs => refBL cs
  | .tuple cs => refBL cs
  | _ => []
def refBL : List PV → List Nat
  | [] => []
  | p :: r => refB p ++ refBL r
end
def refT : List PV → List Nat
  | [] => []
  | .own _ id :: r => id :: refT r
  | _ :: r => refT r
mutual
/-- What may be written that a value names. -/
def refM : PV → List Nat
  | .mar id _ => [id]
  | .mref id _ _ _ => [id]
  | .mp id => [id]
  | .clo _ a b => refML a ++ refML b
  | .agg cs => refML cs
  | .tuple cs => refML cs
  | _ => []
def refML : List PV → List Nat
  | [] => []
  | p :: r => refM p ++ refML r
end
mutual
/-- The arrays that a value names. -/
def refO : PV → List Nat
  | .own _ id => [id]
  | .clo _ a b => refOL a ++ refOL b
  | .agg cs => refOL cs
  | .tuple cs => refOL cs
  | _ => []
def refOL : List PV → List Nat
  | [] => []
  | p :: r => refO p ++ refOL r
end
def dedup : List Nat → List Nat → List Nat
  | acc, [] => acc
  | acc, x :: r => bif memB acc x then dedup acc r else dedup (acc ++ [x]) r
def nodupB : List Nat → Bool
  | [] => true
  | x :: r => !(memB r x) && nodupB r
theorem nodupB_spec : ∀ {l : List Nat}, nodupB l = true → l.Nodup
  | [], _ => List.nodup_nil
  | x :: r, h => by
    simp only [nodupB, Bool.and_eq_true, Bool.not_eq_true'] at h
    refine List.nodup_cons.2 ⟨fun hm => ?_, nodupB_spec h.2⟩
    rw [memB_iff.2 hm] at h
    cases h.1
def pickB (I J L : List Nat) (bx : List (List PV)) : List Nat → Option (List (List PV))
  | [] => some []
  | i :: r => match bx[i]?, pickB I J L bx r with
    | some cs, some l => some (renL (posOf I) (posOf J) (posOf L) cs :: l)
    | _, _ => none
theorem pickB_spec {I J L : List Nat} {bx : List (List PV)} : ∀ {K : List Nat} {l : List (List PV)}, pickB I J L bx K = some l → l.length = K.length ∧ ∀ (j i : Nat), K[j]? = some i → ∃ cs, bx[i]? = some cs ∧ l[j]? = some (renL (posOf I) (posOf J) (posOf L) cs)
  | [], l, h => by cases h; simp
  | i :: r, l, h => by
    unfold pickB at h
    split at h
    · rename_i cs l' h1 h2
      cases h
      obtain ⟨e1, e2⟩ := pickB_spec h2
      refine ⟨by simp [e1], fun j k hj => ?_⟩
      cases j with
      | zero => simp at hj; subst hj; exact ⟨cs, h1, rfl⟩
      | succ j => simpa using e2 j k (by simpa using hj)
    · cases h
def pickT (tk : List (TypeId × Nat)) : List Nat → Option (List (TypeId × Nat))
  | [] => some []
  | i :: r => match tk[i]?, pickT tk r with
    | some x, some l => some (x :: l)
    | _, _ => none
theorem pickT_spec {tk : List (TypeId × Nat)} : ∀ {K : List Nat} {l : List (TypeId × Nat)}, pickT tk K = some l → l.length = K.length ∧ ∀ (j i : Nat), K[j]? = some i → ∃ x, tk[i]? = some x ∧ l[j]? = some x
  | [], l, h => by cases h; simp
  | i :: r, l, h => by
    unfold pickT at h
    split at h
    · rename_i x l' h1 h2
      cases h
      obtain ⟨e1, e2⟩ := pickT_spec h2
      refine ⟨by simp [e1], fun j k hj => ?_⟩
      cases j with
      | zero => simp at hj; subst hj; exact ⟨x, h1, rfl⟩
      | succ j => simpa using e2 j k (by simpa using hj)
    · cases h

mutual
/-- Laid open, all of it. -/
def deepV : PV → Option PV
  | .g x => some (.g x)
  | .own es id => match litO id with | some id' => some (.own es id') | none => none
  | .ptr b off => match litO b with
    | some b' => match litO off with | some off' => some (.ptr b' off') | none => none
    | none => none
  | .nilp => some .nilp
  | .nils => some .nils
  | .pat cs => some (.pat cs)
  | .clo f a b => match deepL a with
    | some a' => match deepL b with | some b' => some (.clo f a' b') | none => none
    | none => none
  | .agg cs => match deepL cs with | some cs' => some (.agg cs') | none => none
  | .tuple cs => match deepL cs with | some cs' => some (.tuple cs') | none => none
  | .lit es => some (.lit es)
  | .mar id n => match litO id with | some id' => some (.mar id' n) | none => none
  | .mref id n i off => match litO id with
    | some id' => match litO off with | some off' => some (.mref id' n i off') | none => none
    | none => none
  | .mp id => match litO id with | some id' => some (.mp id') | none => none
  | .any => some .any
def deepL : List PV → Option (List PV)
  | [] => some []
  | p :: r => match deepV p with
    | some p' => match deepL r with | some r' => some (p' :: r') | none => none
    | none => none
end
mutual
theorem deepV_eq : ∀ p : PV, deepV p = some p
  | .g x => by simp [deepV]
  | .own es id => by simp [deepV, litO_eq]
  | .ptr b off => by simp [deepV, litO_eq]
  | .nilp => by simp [deepV]
  | .nils => by simp [deepV]
  | .pat cs => by simp [deepV]
  | .clo f a b => by simp [deepV, deepL_eq a, deepL_eq b]
  | .agg cs => by simp [deepV, deepL_eq cs]
  | .tuple cs => by simp [deepV, deepL_eq cs]
  | .lit es => by simp [deepV]
  | .mar id n => by simp [deepV, litO_eq]
  | .mref id n i off => by simp [deepV, litO_eq]
  | .mp id => by simp [deepV, litO_eq]
  | .any => by simp [deepV]
theorem deepL_eq : ∀ l : List PV, deepL l = some l
  | [] => by simp [deepL]
  | p :: r => by simp [deepL, deepV_eq p, deepL_eq r]
end
def deepB : List (List PV) → Option (List (List PV))
  | [] => some []
  | l :: r => match deepL l with
    | some l' => match deepB r with | some r' => some (l' :: r') | none => none
    | none => none
theorem deepB_eq : ∀ l, deepB l = some l
  | [] => rfl
  | l :: r => by simp [deepB, deepL_eq l, deepB_eq r]
def deepT : List (TypeId × Nat) → Option (List (TypeId × Nat))
  | [] => some []
  | (e, n) :: r => match deepT r with | some r' => some ((e, n) :: r') | none => none
theorem deepT_eq : ∀ l, deepT l = some l
  | [] => rfl
  | (e, n) :: r => by simp [deepT, deepT_eq r]
def deepM : List MO → Option (List MO)
  | [] => some []
  | o :: r => match deepM r with | some r' => some (o :: r') | none => none
theorem deepM_eq : ∀ l, deepM l = some l
  | [] => rfl
  | o :: r => by simp [deepM, deepM_eq r]
def deepH : PH → Option PH
  | ⟨bx, tk, mu⟩ => match deepB bx with
    | some bx' => match deepT tk with
      | some tk' => match deepM mu with | some mu' => some ⟨bx', tk', mu'⟩ | none => none
      | none => none
    | none => none
theorem deepH_eq (H : PH) : deepH H = some H := by simp [deepH, deepB_eq, deepT_eq, deepM_eq]
def pickM (mu : List MO) : List Nat → Option (List MO)
  | [] => some []
  | i :: r => match mu[i]?, pickM mu r with
    | some x, some l => some (x :: l)
    | _, _ => none
theorem pickM_spec {mu : List MO} : ∀ {K : List Nat} {l : List MO}, pickM mu K = some l → l.length = K.length ∧ ∀ (j i : Nat), K[j]? = some i → ∃ x, mu[i]? = some x ∧ l[j]? = some x
  | [], l, h => by cases h; simp
  | i :: r, l, h => by
    unfold pickM at h
    split at h
    · rename_i x l' h1 h2
      cases h
      obtain ⟨e1, e2⟩ := pickM_spec h2
      refine ⟨by simp [e1], fun j k hj => ?_⟩
      cases j with
      | zero => simp at hj; subst hj; exact ⟨x, h1, rfl⟩
      | succ j => simpa using e2 j k (by simpa using hj)
    · cases h
/-- All that is reached from some values through boxes: boxes, arrays, what may be written. -/
def reachB (bx : List (List PV)) : Nat → List Nat → List Nat → List Nat
  | 0, _, acc => acc
  | _ + 1, [], acc => acc
  | n + 1, b :: r, acc => bif memB acc b then reachB bx n r acc else
    match bx[b]? with
    | some cs => reachB bx n (r ++ refBL cs) (acc ++ [b])
    | none => acc
def boxesOf (bx : List (List PV)) : List Nat → List PV
  | [] => []
  | b :: r => match bx[b]? with
    | some cs => cs ++ boxesOf bx r
    | none => boxesOf bx r

section
variable {P : Program} {o : Oper} {ρ : Operand → PV} {H H' : PH} {v v' : PV}

theorem PC_at {id : FuncId} {qs ps : List PV} {H0 H1 : PH} {v1 : PV} (hp : PC P id ps H0 v1 H1) (I J L : List Nat) (hn : (nodupB I && nodupB J && nodupB L) = true) (hb : pickB I J L H.bx I = some H0.bx) (ht : pickT H.tk J = some H0.tk) (hm : pickM H.mu L = some H0.mu)
    (ha : renL (posOf I) (posOf J) (posOf L) qs = ps) (hv : deepV (ren (backOf I H.bx.length) (backOf J H.tk.length) (backOf L H.mu.length) v1) = some v') (hH : deepH (back I J L H H1) = some H') : PC P id qs H v' H' := by
  rw [deepV_eq] at hv
  rw [deepH_eq] at hH
  cases hv
  cases hH
  simp only [Bool.and_eq_true] at hn
  obtain ⟨b1, b2⟩ := pickB_spec hb
  obtain ⟨t1, t2⟩ := pickT_spec ht
  obtain ⟨m1, m2⟩ := pickM_spec hm
  exact PC_frame hp (nodupB_spec hn.1.1) (nodupB_spec hn.1.2) (nodupB_spec hn.2) b1 b2 t1 t2 m1 m2 ha

/-- A call that hands over what its arguments name. -/
theorem call_box (ks : List Bool) {f : Operand} {args : Array Operand} {ts : Array TypeId} {id : FuncId} {qs ps : List PV} {H0 H1 : PH} {v1 : PV} {I J L : List Nat} (ho : o.op = .call { callee := .value f, args := args, argTypes := ts })
    (hf : ρ f = .g (.raw (.func (.func id) #[] #[]))) (he : enterB P id = true) (hp : PC P id ps H0 v1 H1) (hq : deepL (argsK ρ ks args.toList) = some qs) (_hI : dedup [] (refBL qs) = I) (_hJ : refT qs = J) (_hL : dedup [] (refML qs) = L) (hn : (nodupB I && nodupB J && nodupB L) = true)
    (hb : pickB I J L H.bx I = some H0.bx) (ht : pickT H.tk J = some H0.tk) (hm : pickM H.mu L = some H0.mu) (ha : renL (posOf I) (posOf J) (posOf L) qs = ps) (hv : deepV (ren (backOf I H.bx.length) (backOf J H.tk.length) (backOf L H.mu.length) v1) = some v') (hH : deepH (back I J L H H1) = some H') :
    PO P o ρ H v' H' := by
  rw [deepL_eq] at hq
  exact PO_call_at ks ho hf he (Option.some.inj hq) (PC_at hp I J L hn hb ht hm ha hv hH)
theorem call_clo (ks : List Bool) {f : Operand} {args : Array Operand} {ts : Array TypeId} {id : FuncId} {first cap qs ps : List PV} {H0 H1 : PH} {v1 : PV} {I J L : List Nat} (ho : o.op = .call { callee := .value f, args := args, argTypes := ts })
    (hf : ρ f = .clo (.func id) first cap) (he : enterB P id = true) (hp : PC P id ps H0 v1 H1) (hq : deepL (first ++ argsK ρ ks args.toList ++ cap) = some qs) (_hI : dedup [] (refBL qs) = I) (_hJ : refT qs = J) (_hL : dedup [] (refML qs) = L) (hn : (nodupB I && nodupB J && nodupB L) = true)
    (hb : pickB I J L H.bx I = some H0.bx) (ht : pickT H.tk J = some H0.tk) (hm : pickM H.mu L = some H0.mu) (ha : renL (posOf I) (posOf J) (posOf L) qs = ps) (hv : deepV (ren (backOf I H.bx.length) (backOf J H.tk.length) (backOf L H.mu.length) v1) = some v') (hH : deepH (back I J L H H1) = some H') :
    PO P o ρ H v' H' := by
  rw [deepL_eq] at hq
  exact PO_call_clo ks ho hf he (Option.some.inj hq) (PC_at hp I J L hn hb ht hm ha hv hH)

/-- A call that hands over all that is reached from its arguments. -/
theorem call_deep (ks : List Bool) {f : Operand} {args : Array Operand} {ts : Array TypeId} {id : FuncId} {qs ps : List PV} {H0 H1 : PH} {v1 : PV} {I J L : List Nat} (ho : o.op = .call { callee := .value f, args := args, argTypes := ts })
    (hf : ρ f = .g (.raw (.func (.func id) #[] #[]))) (he : enterB P id = true) (hp : PC P id ps H0 v1 H1) (hq : deepL (argsK ρ ks args.toList) = some qs) (_hI : reachB H.bx 40 (refBL qs) [] = I) (_hJ : dedup [] (refOL qs ++ refOL (boxesOf H.bx I)) = J) (_hL : dedup [] (refML qs ++ refML (boxesOf H.bx I)) = L) (hn : (nodupB I && nodupB J && nodupB L) = true)
    (hb : pickB I J L H.bx I = some H0.bx) (ht : pickT H.tk J = some H0.tk) (hm : pickM H.mu L = some H0.mu) (ha : renL (posOf I) (posOf J) (posOf L) qs = ps) (hv : deepV (ren (backOf I H.bx.length) (backOf J H.tk.length) (backOf L H.mu.length) v1) = some v') (hH : deepH (back I J L H H1) = some H') :
    PO P o ρ H v' H' := by
  rw [deepL_eq] at hq
  exact PO_call_at ks ho hf he (Option.some.inj hq) (PC_at hp I J L hn hb ht hm ha hv hH)
theorem call_cdeep (ks : List Bool) {f : Operand} {args : Array Operand} {ts : Array TypeId} {id : FuncId} {first cap qs ps : List PV} {H0 H1 : PH} {v1 : PV} {I J L : List Nat} (ho : o.op = .call { callee := .value f, args := args, argTypes := ts })
    (hf : ρ f = .clo (.func id) first cap) (he : enterB P id = true) (hp : PC P id ps H0 v1 H1) (hq : deepL (first ++ argsK ρ ks args.toList ++ cap) = some qs) (_hI : reachB H.bx 40 (refBL qs) [] = I) (_hJ : dedup [] (refOL qs ++ refOL (boxesOf H.bx I)) = J) (_hL : dedup [] (refML qs ++ refML (boxesOf H.bx I)) = L) (hn : (nodupB I && nodupB J && nodupB L) = true)
    (hb : pickB I J L H.bx I = some H0.bx) (ht : pickT H.tk J = some H0.tk) (hm : pickM H.mu L = some H0.mu) (ha : renL (posOf I) (posOf J) (posOf L) qs = ps) (hv : deepV (ren (backOf I H.bx.length) (backOf J H.tk.length) (backOf L H.mu.length) v1) = some v') (hH : deepH (back I J L H H1) = some H') :
    PO P o ρ H v' H' := by
  rw [deepL_eq] at hq
  exact PO_call_clo ks ho hf he (Option.some.inj hq) (PC_at hp I J L hn hb ht hm ha hv hH)
end
end Go.Pure

/- A generic layer: conversions, parts of texts and slices. -/
namespace Go.Pure
open Go

theorem intB_ok {P : Program} {t : TypeId} {k : IntKind} (h : intB P t = some k) : P.underlying t = some (.int k) := by
  unfold intB at h
  split at h
  · rename_i k' hu; cases h; exact hu
  · cases h

def byteG (b : UInt8) : GV := .int .u8 b.toNat
def bys (l : List UInt8) : List GV := l.map byteG

def loOf : Option (IntKind × Int) → Int | none => 0 | some p => p.2
def hiOf (n : Nat) : Option (IntKind × Int) → Int | none => n | some p => p.2
/-- A bound that may be left out. -/
def boundP (ρ : Operand → PV) : Option Operand → Option (Option (IntKind × Int))
  | none => some none
  | some x => match ρ x with
    | .g (.int k n) => some (some (k, n))
    | _ => none
theorem boundP_ok {c : Ctx} {ρ : Operand → PV} {ρr : Operand → Value} {o : Option Operand} {r : Option (IntKind × Int)} (h : boundP ρ o = some r) (hx : ∀ x, o = some x → RV c (ρ x) (ρr x)) : o.map ρr = r.map fun p => .int p.1 p.2 := by
  cases o with
  | none => cases h; rfl
  | some x =>
    simp only [boundP] at h
    split at h
    · rename_i k n e
      cases h
      have := hx x rfl
      rw [e] at this
      simp [RV_int this]
    · cases h

section
variable {P : Program} {o : Oper} {ρ : Operand → PV} {H : PH}

theorem PO_conv_int {src dst : TypeId} {x : Operand} {ks kd k : IntKind} {n : Int} (ho : o.op = .convert src dst x) (hs : intB P src = some ks) (hd : intB P dst = some kd) (hx : ρ x = .g (.int k n)) : PO P o ρ H (.g (.int kd (kd.wrap n))) H :=
  PO_val fun c ρr hr hxx => by
    have h1 := hxx x (by simp [ho, Op.operands])
    rw [hx] at h1
    exact ⟨.int kd (kd.wrap n), by simp [execOp, ho, RV_int h1, convert, run_underlying (intB_ok hs), run_underlying (intB_ok hd), Conv.intToInt], .g _ _ (.int _ _)⟩

theorem PO_conv_rune {src dst : TypeId} {x : Operand} {ks k : IntKind} {n : Int} (ho : o.op = .convert src dst x) (hs : intB P src = some ks) (hd : P.underlying dst = some .string) (hx : ρ x = .g (.int k n)) : PO P o ρ H (.g (.str (Utf8.encode n))) H :=
  PO_val fun c ρr hr hxx => by
    have h1 := hxx x (by simp [ho, Op.operands])
    rw [hx] at h1
    exact ⟨.string (Utf8.encode n), by simp [execOp, ho, RV_int h1, convert, run_underlying (intB_ok hs), run_underlying hd, Conv.intToString], .g _ _ (.str _)⟩

theorem PO_conv_text {src dst : TypeId} {x : Operand} {s : ByteArray} (ho : o.op = .convert src dst x) (hs : P.underlying src = some .string) (hd : P.underlying dst = some .string) (hx : ρ x = .g (.str s)) : PO P o ρ H (.g (.str s)) H :=
  PO_val fun c ρr hr hxx => by
    have h1 := hxx x (by simp [ho, Op.operands])
    rw [hx] at h1
    exact ⟨.string s, by simp [execOp, ho, RV_str h1, convert, run_underlying hs, run_underlying hd], .g _ _ (.str _)⟩

/-- Bytes as a text. -/
theorem PO_conv_bytes {src dst e : TypeId} {x : Operand} {l : List UInt8} (ho : o.op = .convert src dst x) (hs : P.underlying src = some (.slice e)) (he : intB P e = some .u8) (hd : P.underlying dst = some .string)
    (hx : elems (ρ x) = some (bys l)) : PO P o ρ H (.g (.str ⟨l.toArray⟩)) H :=
  PO_val fun c ρr hr hxx => by
    have h1 := elems_ok (hxx x (by simp [ho, Op.operands])) hx
    refine ⟨.string ⟨l.toArray⟩, ?_, .g _ _ (.str _)⟩
    generalize hv : ρr x = v at h1
    have hrun : (convert src dst v).run P c.w = .ok (.string ⟨l.toArray⟩) c.w := by
      by_cases hne : bys l = []
      · have hl : l = [] := by simpa [bys] using hne
        subst hl
        cases h1 with
        | nil => exact run_convert_bytes_nil c.w src e hs (intB_ok he) 0 0 dst hd
        | sl _ a cap => exact run_convert_bytes_back c.w src dst e a cap [] hs (intB_ok he) hd (by simp)
      · obtain ⟨a, cap, news, rfl, ln, h2, _, h4⟩ := slice_cells (size := 1) h1 (fun x hx => by obtain ⟨b, _, rfl⟩ := List.mem_map.1 hx; rfl) hne
        have hlen : (bys l).length = l.length := by simp [bys]
        rw [hlen]
        refine run_convert_bytes_back c.w src dst e a cap l hs (intB_ok he) hd fun j hj => ?_
        have hj' : j < news.length := by rw [ln, hlen]; omega
        have e1 := h2 j _ (List.getElem?_eq_getElem hj')
        rw [e1]
        have e2 := h4 j (byteG l[j]) 0 (byteG l[j]) news[j] (by simp [bys, hj]) rfl (by simp [hj'])
        generalize news[j] = u at e2
        cases e2
        rfl
    simp [execOp, ho, hv, hrun]

/-- A part of a text. -/
theorem PO_slice_str {t : TypeId} {x : Operand} {lo hi : Option Operand} {s : ByteArray} {l h : Option (IntKind × Int)} (ho : o.op = .slice t x lo hi none) (ht : P.underlying t = some .string) (hx : ρ x = .g (.str s)) (hl : boundP ρ lo = some l) (hh : boundP ρ hi = some h)
    (h1 : 0 ≤ loOf l) (h2 : loOf l ≤ hiOf s.size h) (h3 : hiOf s.size h ≤ s.size) : PO P o ρ H (.g (.str (s.extract (loOf l).toNat (hiOf s.size h).toNat))) H :=
  PO_val fun c ρr hr hxx => by
    have e1 := hxx x (by simp [ho, Op.operands])
    rw [hx] at e1
    have el := boundP_ok (ρr := ρr) hl fun y hy => hxx y (by subst hy; simp [ho, Op.operands])
    have eh := boundP_ok (ρr := ρr) hh fun y hy => hxx y (by subst hy; simp [ho, Op.operands])
    refine ⟨_, ?_, .g _ _ (.str _)⟩
    simp only [execOp, ho, RV_str e1, el, eh]
    cases l with
    | none =>
      cases h with
      | none => simp [Instr.sliceAt, Instr.slice, run_underlying ht, Instr.sliceBounds, loOf, hiOf]
      | some q =>
        simp only [loOf, hiOf] at h2 h3
        have : 0 ≤ q.2 ∧ q.2 ≤ (s.size : Int) := ⟨h2, h3⟩
        simp [Instr.sliceAt, Instr.slice, run_underlying ht, Instr.sliceBounds, Instr.sliceBound, asIntOf, this, loOf, hiOf]
    | some p =>
      cases h with
      | none =>
        simp only [loOf, hiOf] at h1 h2
        have : 0 ≤ p.2 ∧ p.2 ≤ (s.size : Int) := ⟨h1, h2⟩
        simp [Instr.sliceAt, Instr.slice, run_underlying ht, Instr.sliceBounds, Instr.sliceBound, asIntOf, this, loOf, hiOf]
      | some q =>
        simp only [loOf, hiOf] at h1 h2 h3
        have e1 : 0 ≤ q.2 ∧ q.2 ≤ (s.size : Int) := ⟨by omega, h3⟩
        have e2 : 0 ≤ p.2 ∧ p.2 ≤ q.2 := ⟨h1, h2⟩
        have e3 : ((q.2.toNat : Nat) : Int) = q.2 := Int.toNat_of_nonneg e1.1
        simp [Instr.sliceAt, Instr.slice, run_underlying ht, Instr.sliceBounds, Instr.sliceBound, asIntOf, e1, e2, e3, loOf, hiOf]

/-- A part of a slice, within its length. -/
theorem PO_slice_sl {t e : TypeId} {x : Operand} {lo hi : Option Operand} {es : List GV} {l h : Option (IntKind × Int)} {size : Nat} (ho : o.op = .slice t x lo hi none) (ht : P.underlying t = some (.slice e)) (hs : szB P e = some size) (hx : elems (ρ x) = some es) (hl : boundP ρ lo = some l) (hh : boundP ρ hi = some h)
    (h1 : 0 ≤ loOf l) (h2 : loOf l ≤ hiOf es.length h) (h3 : hiOf es.length h ≤ es.length) (hes : ∀ x ∈ es, x.cells.length = size) : PO P o ρ H (.g (.sl ((es.drop (loOf l).toNat).take ((hiOf es.length h).toNat - (loOf l).toNat)))) H :=
  PO_val fun c ρr hr hxx => by
    have e1 := elems_ok (hxx x (by simp [ho, Op.operands])) hx
    have el := boundP_ok (ρr := ρr) hl fun y hy => hxx y (by subst hy; simp [ho, Op.operands])
    have eh := boundP_ok (ρr := ρr) hh fun y hy => hxx y (by subst hy; simp [ho, Op.operands])
    obtain ⟨a, cap, hv, hlc, hcm, hnil⟩ := RG_len e1
    have hrun : (execOp ρr o).run P c.w = .ok (.value (.slice (if cap = (loOf l).toNat then a else a.map (·.add ((loOf l).toNat * size))) ((hiOf es.length h).toNat - (loOf l).toNat) (cap - (loOf l).toNat))) c.w := by
      simp only [execOp, ho, hv, el, eh]
      cases l with
      | none =>
        cases h with
        | none => simp [Instr.sliceAt, Instr.slice, run_underlying ht, run_sizeOf hs, Instr.sliceBounds, loOf, hiOf]
        | some q =>
          simp only [loOf, hiOf] at h2 h3
          have : 0 ≤ q.2 ∧ q.2 ≤ (cap : Int) := ⟨h2, by omega⟩
          simp [Instr.sliceAt, Instr.slice, run_underlying ht, run_sizeOf hs, Instr.sliceBounds, Instr.sliceBound, asIntOf, this, loOf, hiOf]
      | some p =>
        cases h with
        | none =>
          simp only [loOf, hiOf] at h1 h2
          have : 0 ≤ p.2 ∧ p.2 ≤ (es.length : Int) := ⟨h1, h2⟩
          simp [Instr.sliceAt, Instr.slice, run_underlying ht, run_sizeOf hs, Instr.sliceBounds, Instr.sliceBound, asIntOf, this, loOf, hiOf]
          by_cases hcc : cap = p.2.toNat <;> simp [hcc]
        | some q =>
          simp only [loOf, hiOf] at h1 h2 h3
          have e1 : 0 ≤ q.2 ∧ q.2 ≤ (cap : Int) := ⟨by omega, by omega⟩
          have e2 : 0 ≤ p.2 ∧ p.2 ≤ q.2 := ⟨h1, h2⟩
          have e3 : ((q.2.toNat : Nat) : Int) = q.2 := Int.toNat_of_nonneg e1.1
          simp [Instr.sliceAt, Instr.slice, run_underlying ht, run_sizeOf hs, Instr.sliceBounds, Instr.sliceBound, asIntOf, e1, e2, e3, loOf, hiOf]
          by_cases hcc : cap = p.2.toNat <;> simp [hcc]
    refine ⟨_, hrun, .g _ _ ?_⟩
    generalize hL : (loOf l).toNat = L
    generalize hU : (hiOf es.length h).toNat = U
    have hLU : L ≤ U ∧ U ≤ es.length := by omega
    rw [hv] at e1
    have hlen : ((es.drop L).take (U - L)).length = U - L := by simp; omega
    generalize hq : (es.drop L).take (U - L) = qs at hlen
    cases e1 with
    | nil =>
      simp at hLU
      have hU0 : U = 0 := hLU.2
      have hL0 : L = 0 := by omega
      subst hU0; subst hL0
      have : qs = [] := List.eq_nil_of_length_eq_zero hlen
      subst this
      simp
      exact .nil
    | sl _ a' _ size' f ha hc hm hsz hf hh =>
      by_cases hz : U - L = 0
      · have hnil : qs = [] := List.eq_nil_of_length_eq_zero (hlen.trans hz)
        subst hnil
        rw [hz]
        have key : ∀ b : Addr, RG c.w c.stab (.sl []) (.slice (some b) 0 (cap - L)) := fun b => by
          have := RG.sl (w := c.w) (S := c.stab) [] b (cap - L) 0 (fun _ => undef) (fun h => absurd rfl h) (by simp) (by omega) (by simp) (by simp) (by simp)
          simpa using this
        split <;> exact key _
      · have hcap : ¬ cap = L := by omega
        rw [if_neg hcap]
        have hsz' : size' = size := by
          obtain ⟨x, hx⟩ : ∃ x, es[0]? = some x := ⟨es[0]'(by omega), List.getElem?_eq_getElem (by omega)⟩
          rw [← hsz 0 x hx, hes x (List.mem_of_getElem? hx)]
        subst hsz'
        have hne : es ≠ [] := fun h => by subst h; simp at hLU; omega
        have hspot := ha hne
        have hqget : ∀ i, i < U - L → qs[i]? = es[L + i]? := fun i hi => by
          rw [← hq, List.getElem?_take, if_pos hi, List.getElem?_drop]
        have := RG.sl (w := c.w) (S := c.stab) qs (a'.add (L * size')) (cap - L) size' (fun k => f (L * size' + k)) (fun _ => add_spot _ _ hspot) (by rw [hlen]; omega) (by omega) (fun i x hx => ?_) (fun k hk => ?_) (fun i x j g hx hg => ?_)
        · rw [hlen] at this; simpa using this
        · have hi : i < U - L := by rw [← hlen]; exact (List.getElem?_eq_some_iff.1 hx).1
          rw [hqget i hi] at hx
          exact hsz _ x hx
        · rw [hlen] at hk
          have hlt : L * size' + k < es.length * size' := by
            have h1 : (U - L) * size' + L * size' ≤ es.length * size' := by rw [← Nat.add_mul]; exact Nat.mul_le_mul_right _ (by omega)
            omega
          have h3 := hf _ hlt
          rw [add_eq _ _ (add_spot _ _ hspot), add_block, add_off, Nat.add_assoc]
          rw [add_eq _ _ hspot] at h3
          exact h3
        · have hi : i < U - L := by rw [← hlen]; exact (List.getElem?_eq_some_iff.1 hx).1
          rw [hqget i hi] at hx
          have := hh (L + i) x j g hx hg
          rw [Nat.add_mul, Nat.add_assoc] at this
          exact this
end
end Go.Pure

/- A generic layer: arrays that begin as nil; texts as bytes. -/
namespace Go.Pure
open Go

section
variable {P : Program} {c : Ctx} {H : PH}

/-- A place for an array that isn't there yet. -/
theorem Rel.addDead (hr : Rel P c H) {e size : Nat} (hs : szB P e = some size) :
    Rel P ⟨c.σ, c.τ ++ [⟨false, 0, e, size, 0, 0⟩], c.μ, c.hid, c.w⟩ ⟨H.bx, H.tk ++ [(e, 0)], H.mu⟩ ∧ Evo c ⟨c.σ, c.τ ++ [⟨false, 0, e, size, 0, 0⟩], c.μ, c.hid, c.w⟩ := by
  have e2 := evo_ext (Ext.refl c.w) [] [⟨false, 0, e, size, 0, 0⟩] [] (by simp) (by simp) (by simp)
  simp only [List.append_nil] at e2
  have e1 := hr.ext (Ext.refl c.w) [] [⟨false, 0, e, size, 0, 0⟩] [] (by simp) (by simp) (by
    intro i j t1 t2 h1 h2
    have := (List.getElem?_eq_some_iff.1 h1).1
    have := (List.getElem?_eq_some_iff.1 h2).1
    simp at *
    omega) (by
    intro t ht _
    simp at ht
    subst ht
    exact ⟨rfl, hs⟩) (by simp) (by simp) (by simp) (by simp)
  simp only [List.map_cons, List.map_nil, List.append_nil] at e1
  exact ⟨e1, e2⟩

theorem RV.ofNil {v : Value} {id : Nat} {t : Tok} (h : RV c .nils v) (ht : c.τ[id]? = some t) : RV c (.own [] id) v := by
  cases h with
  | nils => exact .own [] id _ t .nil ht (by simp) (by simp) (fun _ => .inr ⟨rfl, rfl⟩)
end

section
variable {P : Program} {N : Nat} {Q : Exit → Env → PH → Prop} {env : Env} {H : PH}

/-- A slot that holds nil from here on is an array without elements. -/
theorem PW_buf {code : Code} (k e : Nat) {size : Nat} (hs : szB P e = some size) (hk : env k = .nils) (h : PW P N code Q (upd env (some k) (.own [] H.tk.length)) ⟨H.bx, H.tk ++ [(e, 0)], H.mu⟩) : PW P N code Q env H := by
  intro c a hr he
  obtain ⟨r1, e1⟩ := hr.addDead hs
  have hlen : c.τ.length = H.tk.length := by rw [← hr.tk]; simp
  have hE : ER ⟨c.σ, c.τ ++ [⟨false, 0, e, size, 0, 0⟩], c.μ, c.hid, c.w⟩ N (upd env (some k) (.own [] H.tk.length)) a := by
    refine ⟨he.defers, he.size, fun t => ?_⟩
    simp only [upd]
    cases ht : Nat.beq t k with
    | true =>
      rw [cond_true]
      have := Nat.eq_of_beq_eq_true ht
      subst this
      have h1 := (he.slot t).mono e1
      rw [hk] at h1
      refine RV.ofNil h1 (t := ⟨false, 0, e, size, 0, 0⟩) ?_
      show (c.τ ++ [_])[H.tk.length]? = _
      rw [← hlen]; simp
    | false => rw [cond_false]; exact (he.slot t).mono e1
  refine wp_mono (h ⟨c.σ, c.τ ++ [⟨false, 0, e, size, 0, 0⟩], c.μ, c.hid, c.w⟩ a r1 hE) ?_
  rintro x a' w' ⟨c', env', H', q, rfl, hr', hE', he'⟩
  exact ⟨c', env', H', q, rfl, hr', e1.trans hE', he'⟩
end

/-- nil in the place of an array without elements. -/
def nilArg (n : Nat) : PV → PV
  | .own [] id => bif Nat.beq id n then .nils else .own [] id
  | p => p
theorem nilArg_ok {c : Ctx} {n : Nat} {t : Tok} (ht : c.τ[n]? = some t) {p : PV} {u : Value} (h : RV c (nilArg n p) u) : RV c p u := by
  unfold nilArg at h
  split at h
  · rename_i id
    cases hb : Nat.beq id n with
    | true =>
      rw [hb, cond_true] at h
      have := Nat.eq_of_beq_eq_true hb
      subst this
      exact RV.ofNil h ht
    | false => rw [hb, cond_false] at h; exact h
  · exact h

/-- A contract over an array without elements is one over nil. -/
theorem PC_nil {P : Program} {f : FuncId} {args args' : List PV} {H H1 : PH} {v : PV} (e : Nat) {size : Nat} (hs : szB P e = some size) (hp : PC P f args ⟨H.bx, H.tk ++ [(e, 0)], H.mu⟩ v H1)
    (ha : args.map (nilArg H.tk.length) = args') : PC P f args' H v H1 := by
  intro c vs hr hargs
  obtain ⟨r1, e1⟩ := hr.addDead hs
  have hlen : c.τ.length = H.tk.length := by rw [← hr.tk]; simp
  have hnew : (c.τ ++ [(⟨false, 0, e, size, 0, 0⟩ : Tok)])[H.tk.length]? = some ⟨false, 0, e, size, 0, 0⟩ := by rw [← hlen]; simp
  refine (hp ⟨c.σ, c.τ ++ [⟨false, 0, e, size, 0, 0⟩], c.μ, c.hid, c.w⟩ vs r1 ⟨?_, fun i p u hp' hu => ?_⟩).mono ?_
  · rw [← hargs.1, ← ha]; simp
  · have h1 : args'[i]? = some (nilArg H.tk.length p) := by rw [← ha]; simp [hp']
    exact nilArg_ok hnew ((hargs.2 i _ u h1 hu).mono e1)
  · rintro x w' ⟨rv, c', rfl, hw, hr', hE, hv'⟩
    exact ⟨rv, c', rfl, hw, hr', e1.trans hE, hv'⟩
end Go.Pure

/- A generic layer: texts as bytes. -/
namespace Go.Pure
open Go

section
variable {P : Program} {o : Oper} {ρ : Operand → PV} {H : PH}

theorem bys_length (s : ByteArray) : (bys s.data.toList).length = s.size := by simp [bys]

theorem PO_conv_str {src dst e : TypeId} {x : Operand} {s : ByteArray} (ho : o.op = .convert src dst x) (hs : P.underlying src = some .string) (hd : P.underlying dst = some (.slice e)) (he : intB P e = some .u8)
    (hx : ρ x = .g (.str s)) (hm : s.size ≤ maxLen) : PO P o ρ H (.g (.sl (bys s.data.toList))) H := by
  intro c ρr hr hxx
  have h1 := hxx x (by simp [ho, Op.operands])
  rw [hx] at h1
  have hrun : (execOp ρr o).run P c.w = .ok (.value (.slice (some ⟨c.w.heap.size, 0, none⟩) s.size (grownCap c.w s.size 0 e)))
      (c.w.drew.alloc (.cells (bytesRow s (grownCap c.w s.size 0 e)) e ((bytesRow s (grownCap c.w s.size 0 e)).size, (bytesRow s (grownCap c.w s.size 0 e)).size + 1))) := by
    simp [execOp, ho, RV_str h1, run_bytes_of_string c.w src dst e s hs hd (intB_ok he)]
  unfold OpGoes
  rw [hrun]
  generalize hob : Obj.cells (bytesRow s (grownCap c.w s.size 0 e)) e ((bytesRow s (grownCap c.w s.size 0 e)).size, (bytesRow s (grownCap c.w s.size 0 e)).size + 1) = ob
  obtain ⟨r1, e1⟩ := hr.grow ((Ext.drew c.w).trans (Ext.alloc c.w.drew ob))
  refine ⟨_, rfl, r1, e1, .g _ _ ?_⟩
  have hheap : (c.w.drew.alloc ob).heap[c.w.heap.size]? = some ob := Go.heap_alloc_new c.w.drew ob
  have hcell : ∀ k (hk : k < s.size), (c.w.drew.alloc ob).cell? ⟨c.w.heap.size, k, none⟩ = some (.int .u8 (s.data.toList[k]'(by simpa using hk)).toNat) := by
    intro k hk
    rw [← hob] at hheap ⊢
    rw [cell_of_row _ _ k _ e _ hheap]
    have hk' : k < s.data.size := hk
    rw [bytesRow, Array.getElem?_append_left (by simpa using hk'), Array.getElem?_map, Array.getElem?_eq_getElem hk']
    simp
  have := RG.sl (w := c.w.drew.alloc ob) (S := Ctx.stab ⟨c.σ, c.τ, c.μ, c.hid, c.w.drew.alloc ob⟩) (bys s.data.toList) ⟨c.w.heap.size, 0, none⟩ (grownCap c.w s.size 0 e) 1 (fun k => .int .u8 (s.data.toList.getD k 0).toNat) (fun _ => rfl)
    (by rw [bys_length]; exact grownCap_ge _ _ _ _) (grownCap_le_maxLen _ _ _ _ hm) (fun i x hx => by
      obtain ⟨b, _, rfl⟩ := List.mem_map.1 (List.mem_of_getElem? hx); rfl) (fun k hk => ?_) (fun i x j g hx hg => ?_)
  · rw [bys_length] at this; exact this
  · rw [bys_length, Nat.mul_one] at hk
    rw [add_eq _ _ rfl]
    simp only [Nat.zero_add]
    refine ⟨?_, fresh_stab hr (Nat.le_refl _) k, rfl⟩
    rw [hcell k hk]
    simp only [List.getD_eq_getElem?_getD, Array.getElem?_toList]
    rw [Array.getElem?_eq_getElem (show k < s.data.size from hk)]
    rfl
  · simp only [bys, List.getElem?_map, Option.map_eq_some_iff] at hx
    obtain ⟨b, hb, rfl⟩ := hx
    have : j = 0 ∧ g = byteG b := by
      cases j with
      | zero => simp [byteG, GV.cells] at hg; exact ⟨rfl, hg.symm⟩
      | succ j => simp [byteG, GV.cells] at hg
    obtain ⟨rfl, rfl⟩ := this
    simp only [Nat.mul_one, Nat.add_zero, List.getD_eq_getElem?_getD, hb, Option.getD_some]
    exact .int _ _

/-- What a text's bytes are as cells. -/
def strCells (s : ByteArray) : List Value := s.data.toList.map fun b => .int .u8 b.toNat
theorem run_firstCells_str (w : World) (size : Nat) (s : ByteArray) : (Builtin.firstCells size s.size (.string s)).run P w = .ok (strCells s).toArray w := by
  have : s.extract 0 s.size = s := by simp
  simp only [Builtin.firstCells, this, strCells, Sem.run_pure]
  congr 1
  apply Array.ext'
  simp

theorem run_append_room_str (w : World) (t u ty e : TypeId) (i : TypeInfo) (ht : P.underlying t = some (.slice e)) (hu : P.underlying u = some .string) (hi : P.info? e = some i)
    (g sLen sCap : Nat) (cur : Array Value) (hg : w.heap[g]? = some (.cells cur e (0, 0))) (s : ByteArray) (hroom : sLen + s.size ≤ sCap) (hfit : sLen * i.size + (strCells s).length ≤ cur.size) :
    (Builtin.append_ #[t, u] ty #[.slice (some ⟨g, 0, none⟩) sLen sCap, .string s]).run P w =
      .ok (.slice (some ⟨g, 0, none⟩) (sLen + s.size) sCap) (w.setRow g (cur.toList.take (sLen * i.size) ++ strCells s ++ cur.toList.drop (sLen * i.size + (strCells s).length)).toArray) := by
  have hf := run_firstCells_str (P := P) w i.size s
  have hst := run_storeCells_at P g (sLen * i.size) e (strCells s) 0 cur w hg (by simpa using hfit) (fun v hv => by obtain ⟨b, _, rfl⟩ := List.mem_map.1 hv; rfl)
  simp only [Nat.add_zero] at hst
  simp [Builtin.append_, run_underlying ht, run_underlying hu, sizeOf, typeInfo, hi, Builtin.lenOf, hroom, hf, Addr.add_lit, hst]

theorem run_append_grow_str (w : World) (t u ty e : TypeId) (i : TypeInfo) (z : Value) (ht : P.underlying t = some (.slice e)) (hu : P.underlying u = some .string) (hi : P.info? e = some i) (hz : i.zero = some z)
    (b : Addr) (sLen sCap : Nat) (olds : List Value) (hlo : olds.length = sLen * i.size) (holds : ∀ j v, olds[j]? = some v → w.cell? (b.add j) = some v) (s : ByteArray)
    (hg : sCap < sLen + s.size) (h63 : ((sLen + s.size : Nat) : Int) ≤ 9223372036854775807) (hfit : Builtin.nextslicecap (sLen + s.size) sCap * i.bytes ≤ 281474976710656) :
    (Builtin.append_ #[t, u] ty #[.slice (some b) sLen sCap, .string s]).run P w =
      .ok (.slice (some ⟨w.heap.size, 0, none⟩) (sLen + s.size) (grownCap w (sLen + s.size) sCap e))
        (w.drew.alloc (.cells (olds.toArray ++ (strCells s).toArray ++ Builtin.zeroCells z.cells (grownCap w (sLen + s.size) sCap e - (sLen + s.size))) e)) := by
  have hn : ¬ (sLen + s.size ≤ sCap) := by omega
  have h63' : ¬ (9223372036854775807 < ((sLen : Int) + (s.size : Int))) := by omega
  have h48' : ¬ (281474976710656 < Builtin.nextslicecap (sLen + s.size) sCap * i.bytes) := by omega
  have hf := run_firstCells_str (P := P) w.drew i.size s
  have hfo := run_firstCells_some (P := P) w.drew i.size sLen b sLen sCap olds hlo (by simpa using holds)
  simp [Builtin.append_, run_underlying ht, run_underlying hu, sizeOf, typeInfo, zeroValue, hi, hz, Builtin.lenOf, hn, h63', h48', Question.forced, hf, hfo, newRow, grownCap]
  congr 2
  apply Array.ext'
  simp [List.append_assoc]
end

section
variable {P : Program} {o : Oper} {ρ : Operand → PV} {H : PH}
/-- What is no nil. -/
def notNil : PV → Option PV
  | .ptr b off => some (.ptr b off)
  | .pat cs => some (.pat cs)
  | _ => none
theorem PO_nilCheck {x : Operand} {p : PV} (ho : o.op = .nilCheck x) (hx : notNil (ρ x) = some p) : PO P o ρ H p H :=
  PO_val fun c ρr hr hxx => by
    have h1 := hxx x (by simp [ho, Op.operands])
    unfold notNil at hx
    split at hx
    · rename_i b off e
      cases hx
      rw [e] at h1
      generalize hv : ρr x = v at h1
      cases h1 with
      | ptr _ _ blk hb => exact ⟨_, by simp [execOp, ho, hv], .ptr _ _ _ hb⟩
    · rename_i cs e
      cases hx
      rw [e] at h1
      generalize hv : ρr x = v at h1
      cases h1 with
      | pat _ a f ha hf hh => exact ⟨_, by simp [execOp, ho, hv], .pat _ _ _ ha hf hh⟩
    · cases hx
end

mutual
/-- Does a value name boxes and arrays below these numbers alone? -/
def refsOk (nb nt nm : Nat) : PV → Bool
  | .own _ id => Nat.blt id nt
  | .ptr b _ => Nat.blt b nb
  | .clo _ a b => refsOkL nb nt nm a && refsOkL nb nt nm b
  | .agg cs => refsOkL nb nt nm cs
  | .tuple cs => refsOkL nb nt nm cs
  | .g _ => true
  | .nilp => true
  | .nils => true
  | .pat _ => true
  | .lit _ => true
  | .mar id _ => Nat.blt id nm
  | .mref id _ _ _ => Nat.blt id nm
  | .mp id => Nat.blt id nm
  | .any => true
def refsOkL (nb nt nm : Nat) : List PV → Bool
  | [] => true
  | p :: r => refsOk nb nt nm p && refsOkL nb nt nm r
end
mutual
theorem refsOk_spec {nb nt nm : Nat} : ∀ {p : PV}, refsOk nb nt nm p = true → RefsIn nb nt nm p
  | .own es id, h => by simp only [refsOk, Nat.blt_eq] at h; exact .own _ _ h
  | .ptr b off, h => by simp only [refsOk, Nat.blt_eq] at h; exact .ptr _ _ h
  | .clo f a b, h => by simp only [refsOk, Bool.and_eq_true] at h; exact .clo _ _ _ (refsOkL_spec h.1) (refsOkL_spec h.2)
  | .agg cs, h => by simp only [refsOk] at h; exact .agg _ (refsOkL_spec h)
  | .tuple cs, h => by simp only [refsOk] at h; exact .tuple _ (refsOkL_spec h)
  | .g x, _ => .g x
  | .nilp, _ => .nilp
  | .nils, _ => .nils
  | .pat cs, _ => .pat cs
  | .lit es, _ => .lit es
  | .mar id n, h => by simp only [refsOk, Nat.blt_eq] at h; exact .mar _ _ h
  | .mref id n i off, h => by simp only [refsOk, Nat.blt_eq] at h; exact .mref _ _ _ _ h
  | .mp id, h => by simp only [refsOk, Nat.blt_eq] at h; exact .mp _ h
  | .any, _ => .any
theorem refsOkL_spec {nb nt nm : Nat} : ∀ {l : List PV}, refsOkL nb nt nm l = true → ∀ p ∈ l, RefsIn nb nt nm p
  | [], _, p, hp => by simp at hp
  | q :: r, h, p, hp => by
    simp only [refsOkL, Bool.and_eq_true] at h
    rcases List.mem_cons.1 hp with e | hp
    · rw [e]; exact refsOk_spec h.1
    · exact refsOkL_spec h.2 p hp
end
def refsOkB (nb nt nm : Nat) : List (List PV) → Bool
  | [] => true
  | l :: r => refsOkL nb nt nm l && refsOkB nb nt nm r
theorem refsOkB_spec {nb nt nm : Nat} : ∀ {l : List (List PV)}, refsOkB nb nt nm l = true → ∀ cs ∈ l, ∀ p ∈ cs, RefsIn nb nt nm p
  | [], _, p, hp => by simp at hp
  | q :: r, h, p, hp => by
    simp only [refsOkB, Bool.and_eq_true] at h
    rcases List.mem_cons.1 hp with rfl | hp
    · exact refsOkL_spec h.1
    · exact refsOkB_spec h.2 p hp

section
variable {P : Program} {H H' H2 : PH} {v : PV} {env : Env}
/-- The end of a function that keeps boxes and arrays. -/
theorem Ret_box {rs : List ResultVar} {ps : List PV} {e : Exit} {v' : PV} {B : List (List PV)} {T : List (TypeId × Nat)} (hs : resRs P env H2 rs = some ps) (hv : deepV (retV ps) = some v') (hB : deepB (H2.bx.take H'.bx.length) = some B) (hT : deepT (H2.tk.take H'.tk.length) = some T) {M : List MO} (hM : deepM (H2.mu.take H'.mu.length) = some M)
    (h1 : Nat.ble H.bx.length H'.bx.length = true) (h2 : Nat.ble H.tk.length H'.tk.length = true) (h3 : Nat.ble H.mu.length H'.mu.length = true) (hc : refsOk H'.bx.length H'.tk.length H'.mu.length v' = true) (hb : refsOkB H'.bx.length H'.tk.length H'.mu.length B = true)
    (hvv : v' = v) (hbx : B = H'.bx) (htk : T = H'.tk) (hmu : M = H'.mu) (he : e = .normal ∨ e = .ret := by first | exact .inl rfl | exact .inr rfl) : Ret P rs H v H' e env H2 := by
  rw [deepV_eq] at hv
  rw [deepB_eq] at hB
  rw [deepT_eq] at hT
  rw [deepM_eq] at hM
  cases hv; cases hB; cases hT; cases hM
  subst hvv
  refine ⟨he, ps, .inr hs, rfl, ⟨H2.bx.drop H'.bx.length, ?_⟩, ⟨H2.tk.drop H'.tk.length, ?_⟩, ⟨H2.mu.drop H'.mu.length, ?_⟩, Nat.le_of_ble_eq_true h1, Nat.le_of_ble_eq_true h2, Nat.le_of_ble_eq_true h3, refsOk_spec hc, ?_⟩
  · conv => lhs; rw [← List.take_append_drop H'.bx.length H2.bx]
    rw [hbx]
  · conv => lhs; rw [← List.take_append_drop H'.tk.length H2.tk]
    rw [htk]
  · conv => lhs; rw [← List.take_append_drop H'.mu.length H2.mu]
    rw [hmu]
  · rw [hbx] at hb
    exact refsOkB_spec hb
end
end Go.Pure

/- A generic layer: appending a text to bytes. -/
namespace Go.Pure
open Go

section
variable {P : Program} {o : Oper} {ρ : Operand → PV} {H : PH}

theorem PO_append_str {x y : Operand} {t t2 e : TypeId} {es : List GV} {src : ByteArray} {id n bytes : Nat} {z : Value} (ho : o.op = .call { callee := .builtin .append, args := ⟨[x, y]⟩, argTypes := ⟨[t, t2]⟩ })
    (ht : P.underlying t = some (.slice e)) (ht2 : P.underlying t2 = some .string) (hs : szB P e = some 1) (hby : bytesB P e = some bytes) (hz : zeroB P e = some z) (hzs : Nat.beq z.cells.size 1 = true) (hx : ρ x = .own es id) (hy : ρ y = .g (.str src))
    (hk : H.tk[id]? = some (e, n)) (hn : es.length = n) (hfit : (n + src.size) * bytes ≤ 140737488355328) (hmax : n + src.size ≤ maxLen) :
    PO P o ρ H (.own (es ++ bys src.data.toList) id) ⟨H.bx, H.tk.set id (e, n + src.size), H.mu⟩ := by
  intro c ρr hr hxx
  subst hn
  have hzs := Nat.eq_of_beq_eq_true hzs
  have hx1 := hxx x (by simp [ho, Op.operands, Call.operands])
  have hy1 := hxx y (by simp [ho, Op.operands, Call.operands])
  rw [hy] at hy1
  have hy2 := RV_str hy1
  have hsl : (bys src.data.toList).length = src.size := bys_length src
  have hxs : ∀ x ∈ bys src.data.toList, x.cells.length = 1 := fun x hx => by obtain ⟨b, _, rfl⟩ := List.mem_map.1 hx; rfl
  have hnrg0 : ∀ (i : Nat) (x : GV) (j : Nat) (g : GV) (v : Value), (bys src.data.toList)[i]? = some x → x.cells[j]? = some g → (strCells src)[i * 1 + j]? = some v → RG c.w c.stab g v := by
    intro i x j g v h1 h2 h3
    simp only [bys, List.getElem?_map, Option.map_eq_some_iff] at h1
    obtain ⟨b, hb, rfl⟩ := h1
    have : j = 0 ∧ g = byteG b := by
      cases j with
      | zero => simp [byteG, GV.cells] at h2; exact ⟨rfl, h2.symm⟩
      | succ j => simp [byteG, GV.cells] at h2
    obtain ⟨rfl, rfl⟩ := this
    simp only [strCells, Nat.mul_one, Nat.add_zero, List.getElem?_map, hb, Option.map_some, Option.some.injEq] at h3
    subst h3
    exact .int _ _
  have hln0 : (strCells src).length = (bys src.data.toList).length * 1 := by simp [strCells, bys]
  rw [← hsl] at hfit hmax ⊢
  have hz0 : bys src.data.toList = [] → src = ⟨#[]⟩ := fun h => by
    have h1 : src.data.toList = [] := by simpa [bys] using h
    have h2 : src.data = #[] := by simpa using h1
    cases src; simp at h2; rw [h2]
  generalize hxsd : bys src.data.toList = xs at *
  rw [hx] at hx1
  obtain ⟨i, hi, hisz⟩ : ∃ i, P.info? e = some i ∧ i.size = 1 := by
    unfold szB at hs
    simpa using hs
  have hiby : i.bytes = bytes := by
    unfold bytesB at hby; rw [hi] at hby; simpa using hby
  have hiz : i.zero = some z := by
    unfold zeroB at hz; rw [hi] at hz; simpa using hz
  subst hiby
  rw [← hisz] at hzs
  generalize hvx : ρr x = v at hx1
  cases hx1 with
  | own _ _ _ tk hrg htk hsz hle hv =>
  have htk2 : (tk.e, tk.hw) = (e, es.length) := by
    have := hr.tk
    have h1 : (c.τ.map (fun t => (t.e, t.hw)))[id]? = some (tk.e, tk.hw) := by simp [htk]
    rw [this, hk] at h1
    exact (Option.some.inj h1).symm
  have hte : tk.e = e := congrArg Prod.fst htk2
  have hhw : tk.hw = es.length := congrArg Prod.snd htk2
  have hop : (execOp ρr o).run P c.w = ((Builtin.append_ #[t, t2] o.type #[v, .string src]).run P c.w).andThen fun r w => .ok (.value r) w := by
    simp [execOp, ho, resolve, invoke, builtin, hvx, hy2]
  unfold OpGoes
  rw [hop]
  have hid := (List.getElem?_eq_some_iff.1 htk).1
  by_cases hne : xs = []
  · -- nothing is appended
    have hs0 := hz0 hne
    subst hne
    have hrun : (Builtin.append_ #[t, t2] o.type #[v, .string src]).run P c.w = .ok v c.w := by
      rw [hs0]
      have hf : (Builtin.firstCells i.size 0 (.string ⟨#[]⟩)).run P c.w = .ok #[] c.w := by simp [Builtin.firstCells]
      have hz : (⟨#[]⟩ : ByteArray).size = 0 := rfl
      rcases hv hhw.symm with ⟨lv, rfl⟩ | ⟨_, rfl⟩
      · obtain ⟨cur, _, _, h3, _⟩ := hr.tb tk (List.mem_of_getElem? htk) lv
        have h3' : es.length ≤ tk.cap := by omega
        simp [Builtin.append_, run_underlying ht, run_underlying ht2, sizeOf, typeInfo, hi, Builtin.lenOf, hz, h3', hf, storeCells]
      · simp [Builtin.append_, run_underlying ht, run_underlying ht2, sizeOf, typeInfo, hi, Builtin.lenOf, hz, hf]
    rw [hrun]
    refine ⟨c, rfl, ?_, Evo.refl c, ?_⟩
    · have : (⟨H.bx, H.tk.set id (e, es.length + ([] : List GV).length), H.mu⟩ : PH) = H := by
        have : H.tk.set id (e, es.length) = H.tk := by
          refine List.ext_getElem? fun k => ?_
          by_cases ek : k = id
          · subst ek; rw [hk, List.getElem?_set_self (List.getElem?_eq_some_iff.1 hk).1]
          · rw [List.getElem?_set_ne (fun e' => ek e'.symm)]
        simp only [List.length_nil, Nat.add_zero, this]
      rw [this]; exact hr
    · rw [List.append_nil]; exact .own es id v tk hrg htk hsz hle hv
  · have ln : (strCells src).length = xs.length * i.size := by rw [hisz]; exact hln0
    have hn1 : ∀ v ∈ strCells src, v.oneCell' = true := fun v hv => by obtain ⟨b, _, rfl⟩ := List.mem_map.1 hv; rfl
    have hnrg : ∀ (k : Nat) (x : GV) (j : Nat) (g : GV) (v : Value), xs[k]? = some x → x.cells[j]? = some g → (strCells src)[k * i.size + j]? = some v → RG c.w c.stab g v := by rw [hisz]; exact hnrg0
    have hxs : ∀ x ∈ xs, x.cells.length = i.size := by rw [hisz]; exact hxs
    generalize hnews : strCells src = news at ln hn1 hnrg
    have hpos : 0 < xs.length := List.length_pos_iff.2 hne
    -- what came of it
    have hsame : tk.size = i.size := by
      cases hl : tk.live with
      | true =>
        obtain ⟨_, _, _, _, _, h5⟩ := hr.tb tk (List.mem_of_getElem? htk) hl
        rw [hte, hi] at h5; simpa using h5.symm
      | false =>
        have h5 := (hr.dead tk (List.mem_of_getElem? htk) hl).2
        rw [hte, hi] at h5; simpa using h5.symm
    have fin : ∀ (w' : World) (t' : Tok) (olds rest : List Value) (cur : Array Value),
        t'.e = e → t'.size = i.size → t'.hw = es.length + xs.length → t'.live = true → w'.os = c.w.os → w'.tape = c.w.tape → w'.output = c.w.output → c.w.heap.size ≤ w'.heap.size →
        (∀ b, b < c.w.heap.size → (tk.live = true → b ≠ tk.g) → w'.heap[b]? = c.w.heap[b]?) →
        (tk.live = true → ∀ k, k < tk.hw * tk.size → w'.cell? ⟨tk.g, k, none⟩ = c.w.cell? ⟨tk.g, k, none⟩) → ((tk.live = true ∧ t'.g = tk.g) ∨ c.w.heap.size ≤ t'.g) →
        w'.heap[t'.g]? = some (.cells cur e (0, 0)) → cur = (olds ++ news ++ rest).toArray → cur.size = t'.cap * i.size → t'.cap ≤ maxLen → es.length + xs.length ≤ t'.cap → olds.length = es.length * i.size → (∀ v ∈ olds, v.oneCell' = true) →
        (∀ (k : Nat) (x : GV) (j : Nat) (g : GV) (v : Value), es[k]? = some x → x.cells[j]? = some g → olds[k * i.size + j]? = some v → RG c.w c.stab g v) →
        ∃ c' : Ctx, c'.w = w' ∧ Rel P c' ⟨H.bx, H.tk.set id (e, es.length + xs.length), H.mu⟩ ∧ Evo c c' ∧ RV c' (.own (es ++ xs) id) (.slice (some ⟨t'.g, 0, none⟩) (es.length + xs.length) t'.cap) := by
      intro w' t' olds rest cur e1 e2 e4 e5 o1 o2 o3 o4 o5 o6 o7 hh hcur hcs hcm hcap lo ho1 horg
      obtain ⟨g1, g2⟩ := hr.setTok htk (t' := t') (by rw [e1, hte]) (by rw [hsame, e2]) (by rw [hhw, e4]; omega) e5 o1 o2 o3 o4 o5 o6 o7 ⟨cur, by rw [e1]; exact hh, by rw [e2]; exact hcs, by rw [e4]; exact hcap, hcm, by rw [e1, hi, e2]; rfl⟩
      refine ⟨⟨c.σ, c.τ.set id t', c.μ, c.hid, w'⟩, rfl, ?_, g2, ?_⟩
      · rw [e1, e4] at g1; exact g1
      · have hS : ∀ p, p < (es.length + xs.length) * i.size → Ctx.stab ⟨c.σ, c.τ.set id t', c.μ, c.hid, w'⟩ t'.g p := by
          intro p hp
          have tm : t' ∈ c.τ.set id t' := List.mem_of_getElem? (List.getElem?_set_self hid)
          refine ⟨fun h => g1.thid t' tm e5 p h, fun h => g1.st t' tm e5 h, fun t2 h2 lv e => ?_, fun t2 h2 lv e => g1.mt t2 h2 lv t' tm e5 e⟩
          obtain ⟨k2, hk2⟩ := List.getElem?_of_mem h2
          have := g1.td k2 id t2 t' hk2 (List.getElem?_set_self hid) lv e5 e
          subst this
          replace hk2 : (c.τ.set k2 t')[k2]? = some t2 := hk2
          rw [List.getElem?_set_self hid] at hk2
          cases hk2
          rw [e4, e2]; exact hp
        have hes : ∀ x ∈ es, x.cells.length = i.size := fun x hx => by
          obtain ⟨k, hk⟩ := List.getElem?_of_mem hx
          rw [hsz k x hk, hsame]
        have hR := RG_appended (S := Ctx.stab ⟨c.σ, c.τ.set id t', c.μ, c.hid, w'⟩) hh hcur lo ln hes hxs hcap hcm hS (fun k x j g v h1 h2 h3 => (horg k x j g v h1 h2 h3).mono g2.keep) (fun k x j g v h1 h2 h3 => (hnrg k x j g v h1 h2 h3).mono g2.keep) ho1 hn1
        refine .own (es ++ xs) id _ t' hR (List.getElem?_set_self hid) (fun k x hx => ?_) (by simp [e4]) (fun _ => .inl ⟨e5, by simp⟩)
        rw [e2]
        rcases List.mem_append.1 (List.mem_of_getElem? hx) with h | h
        · exact hes x h
        · exact hxs x h
    rcases hv hhw.symm with ⟨lv, rfl⟩ | ⟨he0, rfl⟩
    · obtain ⟨cur, hcur, hcs, hle2, hcm, _⟩ := hr.tb tk (List.mem_of_getElem? htk) lv
      rw [hte] at hcur
      rw [hsame] at hcs
      rw [hhw] at hle2
      have hcell : ∀ k, c.w.cell? ⟨tk.g, k, none⟩ = cur[k]? := fun k => cell_of_row c.w tk.g k cur e (0, 0) hcur
      have hes : ∀ x ∈ es, x.cells.length = i.size := fun x hx => by
        obtain ⟨k, hk⟩ := List.getElem?_of_mem hx
        rw [hsz k x hk, hsame]
      obtain ⟨olds, lo, hocell, ho1, horg⟩ : ∃ olds : List Value, olds.length = es.length * i.size ∧ (∀ j v, olds[j]? = some v → c.w.cell? ((⟨tk.g, 0, none⟩ : Addr).add j) = some v) ∧ (∀ v ∈ olds, v.oneCell' = true) ∧
          ∀ (k : Nat) (x : GV) (j : Nat) (g : GV) (v : Value), es[k]? = some x → x.cells[j]? = some g → olds[k * i.size + j]? = some v → RG c.w c.stab g v := by
        by_cases hes0 : es = []
        · subst hes0; exact ⟨[], by simp, by simp, by simp, by simp⟩
        · obtain ⟨a', m', olds, e1, l1, l2, l3, l4⟩ := slice_cells hrg hes hes0
          cases e1
          exact ⟨olds, l1, l2, l3, l4⟩
      have hocell' : ∀ j v, olds[j]? = some v → cur[j]? = some v := fun j v h => by
        have := hocell j v h
        rw [add_eq _ _ rfl] at this
        rw [← hcell]
        simpa using this
      have hlc : es.length * i.size ≤ cur.size := by rw [hcs]; exact Nat.mul_le_mul_right _ hle2
      have htake : cur.toList.take (es.length * i.size) = olds := by
        refine List.ext_getElem? fun k => ?_
        by_cases hk : k < es.length * i.size
        · have h1 : k < olds.length := by rw [lo]; exact hk
          rw [List.getElem?_take, if_pos hk, List.getElem?_eq_getElem h1]
          have := hocell' k _ (List.getElem?_eq_getElem h1)
          simpa using this
        · rw [List.getElem?_eq_none (by simp; omega), List.getElem?_eq_none (by omega)]
      by_cases hroom : es.length + xs.length ≤ tk.cap
      · have hfit' : es.length * i.size + news.length ≤ cur.size := by
          rw [ln, hcs, ← Nat.add_mul]; exact Nat.mul_le_mul_right _ hroom
        have hrr := run_append_room_str c.w t t2 o.type e i ht ht2 hi tk.g es.length tk.cap cur hcur src (by omega) (by rw [hnews]; exact hfit')
        rw [hnews, ← hsl] at hrr
        rw [hrr, htake]
        refine fin _ { tk with hw := es.length + xs.length } olds (cur.toList.drop (es.length * i.size + news.length)) _ hte hsame rfl lv rfl rfl rfl (by simp) (fun b hb h => setRow_other c.w tk.g b _ (h lv)) (fun _ k hk => ?_) (.inl ⟨lv, rfl⟩) (setRow_heap c.w tk.g cur _ e (0, 0) hcur) rfl ?_ hcm hroom lo ho1 horg
        · rw [cell_of_row _ tk.g k _ e (0, 0) (setRow_heap c.w tk.g cur _ e (0, 0) hcur), hcell]
          rw [hhw, hsame, ← lo] at hk
          simp only [List.getElem?_toArray]
          rw [List.append_assoc, List.getElem?_append_left hk]
          rw [List.getElem?_eq_getElem hk]
          exact (hocell' k _ (List.getElem?_eq_getElem hk)).symm
        · simp [lo]
          rw [hcs] at hfit' ⊢
          omega
      · have hg : tk.cap < es.length + xs.length := by omega
        have h63 : ((es.length + xs.length : Nat) : Int) ≤ 9223372036854775807 := by simp only [maxLen] at hmax; omega
        have hrr := run_append_grow_str c.w t t2 o.type e i z ht ht2 hi hiz ⟨tk.g, 0, none⟩ es.length tk.cap olds lo hocell src (by omega) (by rw [← hsl]; exact h63) (by rw [← hsl]; exact growslice_fits hg hfit)
        rw [hnews, ← hsl] at hrr
        rw [hrr]
        have hge := grownCap_ge c.w (es.length + xs.length) tk.cap e
        refine fin _ ⟨true, c.w.heap.size, e, i.size, grownCap c.w (es.length + xs.length) tk.cap e, es.length + xs.length⟩ olds (Builtin.zeroCells z.cells (grownCap c.w (es.length + xs.length) tk.cap e - (es.length + xs.length))).toList _ rfl rfl rfl rfl rfl rfl rfl (by simp) (fun b hb _ => Go.heap_alloc_old c.w.drew _ b hb) (fun _ k hk => ?_) (.inr (Nat.le_refl _)) (Go.heap_alloc_new c.w.drew _) (by simp) ?_ (grownCap_le_maxLen _ _ _ _ hmax) hge lo ho1 horg
        · have hlt := hr.tlt (List.mem_of_getElem? htk) lv
          exact World.cell?_of_block (Go.heap_alloc_old c.w.drew _ tk.g hlt)
        · simp only [Array.size_append, List.size_toArray, size_zeroCells, hzs, lo, ln]
          rw [← Nat.add_mul, ← Nat.add_mul]
          congr 1
          omega
    · subst he0
      have h63 : (xs.length : Int) ≤ 9223372036854775807 := by simp only [maxLen, List.length_nil] at hmax; omega
      have hfit' : xs.length * i.bytes ≤ 140737488355328 := by simpa using hfit
      have hrr := run_append_nil_string (P := P) c.w t t2 o.type e i z ht ht2 hi hiz src (by omega) (by rw [← hsl]; exact h63) (by rw [← hsl]; omega)
      have hdat : src.data.map (fun b => Value.int .u8 b.toNat) = news.toArray := by rw [← hnews]; apply Array.ext'; simp [strCells]
      rw [hdat, ← hsl] at hrr
      rw [hrr]
      have hge := grownCap_ge c.w xs.length 0 e
      have := fin (c.w.drew.alloc (.cells (news.toArray ++ Builtin.zeroCells z.cells (grownCap c.w xs.length 0 e - xs.length)) e)) ⟨true, c.w.heap.size, e, i.size, grownCap c.w xs.length 0 e, xs.length⟩ [] (Builtin.zeroCells z.cells (grownCap c.w xs.length 0 e - xs.length)).toList _ rfl rfl (by simp) rfl rfl rfl rfl (by simp) (fun b hb _ => Go.heap_alloc_old c.w.drew _ b hb) (fun _ k hk => by rw [hhw] at hk; simp at hk) (.inr (Nat.le_refl _)) (Go.heap_alloc_new c.w.drew _) (by simp) (by
        simp only [Array.size_append, List.size_toArray, size_zeroCells, hzs, ln]
        rw [← Nat.add_mul]
        congr 1
        omega) (grownCap_le_maxLen _ _ _ _ (by simpa using hmax)) (by simpa using hge) (by simp) (by simp) (by simp)
      simpa using this

/-- Bytes appended to bytes. -/
theorem PO_appb {x y : Operand} {t e : TypeId} {b : List UInt8} {xs : List GV} {id bytes : Nat} {z : Value} (l : List UInt8) (ho : o.op = .call { callee := .builtin .append, args := ⟨[x, y]⟩, argTypes := ⟨[t, t]⟩ })
    (ht : P.underlying t = some (.slice e)) (hs : szB P e = some 1) (hby : bytesB P e = some bytes) (hz : zeroB P e = some z) (hzs : Nat.beq z.cells.size 1 = true) (hx : ρ x = .own (bys b) id) (hy : elems (ρ y) = some xs)
    (hk : H.tk[id]? = some (e, b.length)) (hxs : xs = bys l) (hfit : (b.length + l.length) * bytes ≤ 140737488355328) (hmax : b.length + l.length ≤ maxLen) :
    PO P o ρ H (.own (bys (b ++ l)) id) ⟨H.bx, H.tk.set id (e, (b ++ l).length), H.mu⟩ := by
  subst hxs
  have hl : (bys l).length = l.length := by simp [bys]
  have := PO_append (H := H) ho ht hs hby hz hzs hx hy hk (by simp [bys]) (fun x hx => by obtain ⟨v, _, rfl⟩ := List.mem_map.1 hx; rfl) (by rw [hl]; exact hfit) (by rw [hl]; exact hmax)
  rw [hl] at this
  have e1 : bys b ++ bys l = bys (b ++ l) := by simp [bys]
  rw [e1] at this
  rw [List.length_append]
  exact this
/-- A text appended to bytes. -/
theorem PO_apps {x y : Operand} {t t2 e : TypeId} {b : List UInt8} {src : ByteArray} {id bytes : Nat} {z : Value} (ho : o.op = .call { callee := .builtin .append, args := ⟨[x, y]⟩, argTypes := ⟨[t, t2]⟩ })
    (ht : P.underlying t = some (.slice e)) (ht2 : P.underlying t2 = some .string) (hs : szB P e = some 1) (hby : bytesB P e = some bytes) (hz : zeroB P e = some z) (hzs : Nat.beq z.cells.size 1 = true) (hx : ρ x = .own (bys b) id) (hy : ρ y = .g (.str src))
    (hk : H.tk[id]? = some (e, b.length)) (hfit : (b.length + src.size) * bytes ≤ 140737488355328) (hmax : b.length + src.size ≤ maxLen) :
    PO P o ρ H (.own (bys (b ++ src.data.toList)) id) ⟨H.bx, H.tk.set id (e, (b ++ src.data.toList).length), H.mu⟩ := by
  have := PO_append_str (H := H) ho ht ht2 hs hby hz hzs hx hy hk (by simp [bys]) hfit hmax
  have e1 : bys b ++ bys src.data.toList = bys (b ++ src.data.toList) := by simp [bys]
  rw [e1] at this
  have e2 : (b ++ src.data.toList).length = b.length + src.size := by simp
  rw [e2]
  exact this
end
end Go.Pure

/- A generic layer: where ways meet again. -/
namespace Go.Pure
open Go
section
variable {P : Program} {N : Nat} {Q : Exit → Env → PH → Prop} {env : Env} {H : PH}

/-- Ways meet: what is told of the frame and of the state at the end of the first piece. -/
theorem PW_cut {x y : Code} (E : Env) (H' : PH) (h1 : PW P N x (Next (fun env' H1 => EnvLe env' E ∧ HLe P H1 H') Q) env H) (h2 : PW P N y Q E H') : PW P N (.seq x y) Q env H :=
  PW_seq (PW_mono h1 fun e env' H1 h => by
    cases e <;> simp only [Next] at h ⊢
    case normal => exact PW_weak h.1 h.2 h2
    all_goals exact h)
/-- The same with a frame that is told by cases. -/
theorem PW_cut_ex {S : Type} {x y : Code} (E : S → Env) (H' : S → PH) (I : S → Prop) (h1 : PW P N x (Next (fun env' H1 => ∃ s, I s ∧ EnvLe env' (E s) ∧ HLe P H1 (H' s)) Q) env H) (h2 : ∀ s, I s → PW P N y Q (E s) (H' s)) : PW P N (.seq x y) Q env H :=
  PW_seq (PW_mono h1 fun e env' H1 h => by
    cases e <;> simp only [Next] at h ⊢
    case normal => obtain ⟨s, hs, a, b⟩ := h; exact PW_weak a b (h2 s hs)
    all_goals exact h)

/-- The first region of a piece of code. -/
def headR : Code → Nat
  | .region id _ _ => id
  | .seq x _ => headR x
  | .block _ x => headR x
  | .loop x => headR x
  | _ => 100000
theorem PW_seq_unless (stops : List Nat) {x y : Code} (_h : memB stops (headR x) = false) (k : PW P N x (Next (PW P N y Q) Q) env H) : PW P N (.seq x y) Q env H := PW_seq k
theorem PW_loop_at {body : Code} (h : PW P N (.loop body) Q env H) : PW P N (.loop body) Q env H := h

theorem meet_nil {env : Env} : SlotsOk env [] := trivial
theorem meet_cons {env : Env} {k : Nat} {p : PV} {r : List (Nat × PV)} (h : env k = p ∨ pack (env k) = p) (hr : SlotsOk env r) : SlotsOk env ((k, p) :: r) := ⟨h, hr⟩

/-- A cell of a box that holds nil is an array without elements. -/
theorem PW_bufbox {code : Code} (b off e : Nat) {size : Nat} {cs : List PV} (hs : szB P e = some size) (hb : H.bx[b]? = some cs) (hk : cs[off]? = some .nils)
    (h : PW P N code Q env ⟨H.bx.set b (cs.set off (.own [] H.tk.length)), H.tk ++ [(e, 0)], H.mu⟩) : PW P N code Q env H := by
  intro c a hr he
  obtain ⟨r1, e1⟩ := hr.addDead hs
  have hlen : c.τ.length = H.tk.length := by rw [← hr.tk]; simp
  have hnew : (c.τ ++ [(⟨false, 0, e, size, 0, 0⟩ : Tok)])[H.tk.length]? = some ⟨false, 0, e, size, 0, 0⟩ := by rw [← hlen]; simp
  have r2 : Rel P ⟨c.σ, c.τ ++ [⟨false, 0, e, size, 0, 0⟩], c.μ, c.hid, c.w⟩ ⟨H.bx.set b (cs.set off (.own [] H.tk.length)), H.tk ++ [(e, 0)], H.mu⟩ := by
    refine { r1 with len := by simpa using r1.len, bx := ?_ }
    intro i blk ds hi hds
    by_cases eb : i = b
    · subst eb
      rw [List.getElem?_set_self (List.getElem?_eq_some_iff.1 hb).1] at hds
      cases hds
      obtain ⟨vals, T, a1, a2, a3⟩ := r1.bx i blk cs hi hb
      refine ⟨vals, T, a1, by simpa using a2, fun j p v hp hv => ?_⟩
      by_cases ej : j = off
      · subst ej
        rw [List.getElem?_set_self (List.getElem?_eq_some_iff.1 hk).1] at hp
        cases hp
        have := a3 j _ v hk hv
        exact ⟨RV.ofNil this.1 hnew, this.2⟩
      · rw [List.getElem?_set_ne (fun e => ej e.symm)] at hp
        exact a3 j p v hp hv
    · rw [List.getElem?_set_ne (fun e => eb e.symm)] at hds
      exact r1.bx i blk ds hi hds
  refine wp_mono (h ⟨c.σ, c.τ ++ [⟨false, 0, e, size, 0, 0⟩], c.μ, c.hid, c.w⟩ a r2 (he.mono e1)) ?_
  rintro x a' w' ⟨c', env', H', q, rfl, hr', hE', he'⟩
  exact ⟨c', env', H', q, rfl, hr', e1.trans hE', he'⟩
end

section
variable {P : Program} {o : Oper} {ρ : Operand → PV} {H : PH}
/-- A part of some bytes, told as such. -/
theorem PO_slice_bys (m : List UInt8) {t e : TypeId} {x : Operand} {lo hi : Option Operand} {l : List UInt8} {lw hw : Option (IntKind × Int)} (a b : Nat) (ho : o.op = .slice t x lo hi none) (ht : P.underlying t = some (.slice e)) (hs : szB P e = some 1) (hx : elems (ρ x) = some (bys l)) (hl : boundP ρ lo = some lw) (hh : boundP ρ hi = some hw)
    (ha : loOf lw = a) (hb : hiOf l.length hw = b) (hab : a ≤ b) (hbl : b ≤ l.length) (hm : (l.drop a).take (b - a) = m) : PO P o ρ H (.g (.sl (bys m))) H := by
  have hlen : (bys l).length = l.length := by simp [bys]
  have := PO_slice_sl (H := H) ho ht hs hx hl hh (by rw [ha]; omega) (by rw [hlen, ha, hb]; omega) (by rw [hlen, hb]; omega) (by intro x hx; obtain ⟨v, _, rfl⟩ := List.mem_map.1 hx; rfl)
  rw [hlen, ha, hb] at this
  have e : (List.drop ((a : Int)).toNat (bys l)).take (((b : Int)).toNat - ((a : Int)).toNat) = bys m := by
    rw [← hm]; simp [bys, List.map_drop, List.map_take]
  rw [e] at this
  exact this
end
section
variable {P : Program} {H H' H2 : PH} {v : PV} {env : Env}
/-- The end of a function that keeps boxes and arrays; its result is told without identity. -/
theorem Ret_boxp {rs : List ResultVar} {ps : List PV} {e : Exit} {v' : PV} {B : List (List PV)} {T : List (TypeId × Nat)} (hs : resVs P env H2 rs = some ps) (hv : deepV (retV ps) = some v') (hB : deepB (H2.bx.take H'.bx.length) = some B) (hT : deepT (H2.tk.take H'.tk.length) = some T) {M : List MO} (hM : deepM (H2.mu.take H'.mu.length) = some M)
    (h1 : Nat.ble H.bx.length H'.bx.length = true) (h2 : Nat.ble H.tk.length H'.tk.length = true) (h3 : Nat.ble H.mu.length H'.mu.length = true) (hc : refsOk H'.bx.length H'.tk.length H'.mu.length v' = true) (hb : refsOkB H'.bx.length H'.tk.length H'.mu.length B = true)
    (hvv : v' = v) (hbx : B = H'.bx) (htk : T = H'.tk) (hmu : M = H'.mu) (he : e = .normal ∨ e = .ret := by first | exact .inl rfl | exact .inr rfl) : Ret P rs H v H' e env H2 := by
  rw [deepV_eq] at hv
  rw [deepB_eq] at hB
  rw [deepT_eq] at hT
  rw [deepM_eq] at hM
  cases hv; cases hB; cases hT; cases hM
  subst hvv
  refine ⟨he, ps, .inl hs, rfl, ⟨H2.bx.drop H'.bx.length, ?_⟩, ⟨H2.tk.drop H'.tk.length, ?_⟩, ⟨H2.mu.drop H'.mu.length, ?_⟩, Nat.le_of_ble_eq_true h1, Nat.le_of_ble_eq_true h2, Nat.le_of_ble_eq_true h3, refsOk_spec hc, ?_⟩
  · conv => lhs; rw [← List.take_append_drop H'.bx.length H2.bx]
    rw [hbx]
  · conv => lhs; rw [← List.take_append_drop H'.tk.length H2.tk]
    rw [htk]
  · conv => lhs; rw [← List.take_append_drop H'.mu.length H2.mu]
    rw [hmu]
  · rw [hbx] at hb
    exact refsOkB_spec hb
end
end Go.Pure

/- A generic layer: what may be written changes. -/
namespace Go.Pure
open Go

section
variable {P : Program} {c : Ctx} {H : PH}

/-- Something that may be written is written, moves, or is given up. -/
theorem Rel.setMu (hr : Rel P c H) {id : Nat} {t t' : MTok} {o' : MO} (ht : c.μ[id]? = some t) (hsz : t'.size = t.size) (hd : t' = t ∨ t.gen < t'.gen) {w' : World}
    (hos : w'.os = c.w.os) (htape : w'.tape = c.w.tape) (hout : w'.output = c.w.output) (hsize : c.w.heap.size ≤ w'.heap.size)
    (hblk : ∀ b, b < c.w.heap.size → (t.live = true → b ≠ t.g) → w'.heap[b]? = c.w.heap[b]?)
    (hg : t'.live = true → (t.live = true ∧ t'.g = t.g) ∨ (c.w.heap.size ≤ t'.g ∧ t'.g < w'.heap.size))
    (hmo : Evo c ⟨c.σ, c.τ, c.μ.set id t', c.hid, w'⟩ → MOk P ⟨c.σ, c.τ, c.μ.set id t', c.hid, w'⟩ t' o') :
    Rel P ⟨c.σ, c.τ, c.μ.set id t', c.hid, w'⟩ ⟨H.bx, H.tk, H.mu.set id o'⟩ ∧ Evo c ⟨c.σ, c.τ, c.μ.set id t', c.hid, w'⟩ := by
  have hid := (List.getElem?_eq_some_iff.1 ht).1
  have htm := List.mem_of_getElem? ht
  have mem' : ∀ t2 ∈ c.μ.set id t', t2 = t' ∨ ∃ k, k ≠ id ∧ c.μ[k]? = some t2 := by
    intro t2 h2
    obtain ⟨k, hk⟩ := List.getElem?_of_mem h2
    by_cases e : k = id
    · subst e
      rw [List.getElem?_set_self hid] at hk
      cases hk
      exact .inl rfl
    · rw [List.getElem?_set_ne (fun e' => e e'.symm)] at hk
      exact .inr ⟨k, e, hk⟩
  have hE : Evo c ⟨c.σ, c.τ, c.μ.set id t', c.hid, w'⟩ := by
    refine ⟨hos, htape, hout, hsize, rfl, ⟨[], by simp, by simp⟩, fun id t ht => ⟨t, ht, rfl, rfl, .inl rfl⟩, ?_, ?_, fun t ht lv => .inl ⟨t, ht, lv, rfl⟩, ?_, ?_⟩
    · intro k t2 h2
      by_cases e : k = id
      · subst e
        rw [ht] at h2
        cases h2
        exact ⟨t', by simp [hid], hsz, hd⟩
      · exact ⟨t2, by show (c.μ.set id t')[k]? = _; rw [List.getElem?_set_ne (fun e' => e e'.symm)]; exact h2, rfl, .inl rfl⟩
    · intro t2 h2 lv
      rcases mem' t2 h2 with rfl | ⟨k, hk, hk2⟩
      · rcases hg lv with ⟨l1, g1⟩ | g1
        · exact .inl ⟨t, htm, l1, g1.symm⟩
        · exact .inr g1.1
      · exact .inl ⟨t2, List.mem_of_getElem? hk2, lv, rfl⟩
    · intro a v hspot hs hcell
      have hab := World.block_lt_of_cell? c.w a hcell
      refine ⟨?_, hs.1, hs.2.1, hs.2.2.1, fun t2 h2 lv e => ?_⟩
      · rw [← hcell]
        exact World.cell?_of_block (hblk a.block hab fun l e' => hs.2.2.2 t htm l e'.symm)
      · rcases mem' t2 h2 with rfl | ⟨k, hk, hk2⟩
        · rcases hg lv with ⟨l1, g1⟩ | g1
          · exact hs.2.2.2 t htm l1 (g1.symm.trans e)
          · omega
        · exact hs.2.2.2 t2 (List.mem_of_getElem? hk2) lv e
    · intro b hb _ _ h4
      exact hblk b hb fun l e => h4 t htm l e.symm
  have hσ : ∀ b ∈ c.σ, w'.heap[b]? = c.w.heap[b]? := fun b hb => hblk b (hr.shid b hb) fun l e => hr.ms t htm l (e ▸ hb)
  have hτ : ∀ t2 ∈ c.τ, t2.live = true → w'.heap[t2.g]? = c.w.heap[t2.g]? := fun t2 h2 lv => hblk t2.g (hr.tlt h2 lv) fun l e => hr.mt t htm l t2 h2 lv e.symm
  have hother : ∀ k t2, k ≠ id → c.μ[k]? = some t2 → t2.live = true → w'.heap[t2.g]? = c.w.heap[t2.g]? := fun k t2 hk hk2 lv =>
    hblk t2.g (hr.mlt t2 (List.mem_of_getElem? hk2) lv) fun l e => hk (hr.md k id t2 t hk2 ht lv l e)
  refine ⟨⟨hr.len, ?_, hr.tk, ?_, hr.nd, hr.td, hr.st, fun b p h => Nat.lt_of_lt_of_le (hr.hidlt b p h) hsize, hr.thid, fun b hb => Nat.lt_of_lt_of_le (hr.shid b hb) hsize, hr.dead, ?_, ?_, ?_, ?_, ?_, ?_, ?_⟩, hE⟩
  · intro i b cs hb hcs
    obtain ⟨vals, T, e1, e2, e3⟩ := hr.bx i b cs hb hcs
    exact ⟨vals, T, (hσ b (List.mem_of_getElem? hb)).trans e1, e2, fun j p v hp hv => ⟨(e3 j p v hp hv).1.mono hE, (e3 j p v hp hv).2⟩⟩
  · intro t2 h2 lv
    obtain ⟨cur, e1, e2⟩ := hr.tb t2 h2 lv
    exact ⟨cur, (hτ t2 h2 lv).trans e1, e2⟩
  · show (c.μ.set id t').length = (H.mu.set id o').length
    simp [hr.mlen]
  · intro i t2 o h2 ho
    replace h2 : (c.μ.set id t')[i]? = some t2 := h2
    replace ho : (H.mu.set id o')[i]? = some o := ho
    by_cases e : i = id
    · subst e
      rw [List.getElem?_set_self hid] at h2
      rw [List.getElem?_set_self (by rw [← hr.mlen]; exact hid)] at ho
      cases h2; cases ho
      exact hmo hE
    · rw [List.getElem?_set_ne (fun e' => e e'.symm)] at h2 ho
      exact (hr.mu i t2 o h2 ho).mono hE fun lv => hother i t2 e h2 lv
  · intro t2 h2 lv
    rcases mem' t2 h2 with rfl | ⟨k, hk, hk2⟩
    · rcases hg lv with ⟨l1, g1⟩ | g1
      · rw [g1]; exact Nat.lt_of_lt_of_le (hr.mlt t htm l1) hsize
      · exact g1.2
    · exact Nat.lt_of_lt_of_le (hr.mlt t2 (List.mem_of_getElem? hk2) lv) hsize
  · intro i j t1 t2 hi hj l1 l2 e
    replace hi : (c.μ.set id t')[i]? = some t1 := hi
    replace hj : (c.μ.set id t')[j]? = some t2 := hj
    by_cases ei : i = id <;> by_cases ej : j = id
    · omega
    · subst ei
      rw [List.getElem?_set_self hid] at hi
      rw [List.getElem?_set_ne (fun e' => ej e'.symm)] at hj
      cases hi
      rcases hg l1 with ⟨lv, g1⟩ | g1
      · exact hr.md _ j t t2 ht hj lv l2 (g1.symm.trans e)
      · have := hr.mlt t2 (List.mem_of_getElem? hj) l2; omega
    · subst ej
      rw [List.getElem?_set_self hid] at hj
      rw [List.getElem?_set_ne (fun e' => ei e'.symm)] at hi
      cases hj
      rcases hg l2 with ⟨lv, g1⟩ | g1
      · exact hr.md i _ t1 t hi ht l1 lv (e.trans g1)
      · have := hr.mlt t1 (List.mem_of_getElem? hi) l1; omega
    · rw [List.getElem?_set_ne (fun e' => ei e'.symm)] at hi
      rw [List.getElem?_set_ne (fun e' => ej e'.symm)] at hj
      exact hr.md i j t1 t2 hi hj l1 l2 e
  · intro t2 h2 lv hm
    rcases mem' t2 h2 with rfl | ⟨k, hk, hk2⟩
    · rcases hg lv with ⟨l1, g1⟩ | g1
      · exact hr.ms t htm l1 (g1 ▸ hm)
      · have := hr.shid _ hm; omega
    · exact hr.ms t2 (List.mem_of_getElem? hk2) lv hm
  · intro t2 h2 lv t3 h3 lv3 e
    rcases mem' t2 h2 with rfl | ⟨k, hk, hk2⟩
    · rcases hg lv with ⟨l1, g1⟩ | g1
      · exact hr.mt t htm l1 t3 h3 lv3 (g1.symm.trans e)
      · have := hr.tlt h3 lv3; omega
    · exact hr.mt t2 (List.mem_of_getElem? hk2) lv t3 h3 lv3 e
  · intro t2 h2 lv p hp
    rcases mem' t2 h2 with rfl | ⟨k, hk, hk2⟩
    · rcases hg lv with ⟨l1, g1⟩ | g1
      · exact hr.mhid t htm l1 p (g1 ▸ hp)
      · have := hr.hidlt _ _ hp; omega
    · exact hr.mhid t2 (List.mem_of_getElem? hk2) lv p hp

/-- An array that may be written reads as its elements. -/
theorem MOk.reads {t : MTok} {n : Nat} {e : TypeId} {es : List GV} (h : MOk P c t (.arr n e es)) (lv : t.live = true) {S : Nat → Nat → Prop} {w' : World}
    (hc : ∀ k, w'.cell? ⟨t.g, k, none⟩ = c.w.cell? ⟨t.g, k, none⟩) (hS : ∀ p, p < es.length * t.size → S t.g p) (hk : Keeps c.w w' c.stab S) : RG w' S (.sl es) (.slice (some ⟨t.g, 0, none⟩) t.len t.cap) := by
  obtain ⟨h1, h2, h3, h4⟩ := h
  rcases h4 with ⟨h4, _⟩ | ⟨_, cur, a1, a2, a3, a4, a5, a6⟩
  · rw [lv] at h4; cases h4
  · rw [h2]
    have hcell : ∀ k, c.w.cell? ⟨t.g, k, none⟩ = cur[k]? := fun k => cell_of_row c.w t.g k cur e (0, 0) a1
    have hle : es.length * t.size ≤ cur.size := by rw [a2]; exact Nat.mul_le_mul_right _ a3
    have hat : ∀ k, k < es.length * t.size → ∃ i j, k = i * t.size + j ∧ j < t.size ∧ i < es.length := by
      intro k hk
      have hpos : 0 < t.size := Nat.pos_of_ne_zero fun e => by rw [e, Nat.mul_zero] at hk; omega
      refine ⟨k / t.size, k % t.size, ?_, Nat.mod_lt _ hpos, ?_⟩
      · rw [Nat.mul_comm]; exact (Nat.div_add_mod k t.size).symm
      · exact Nat.div_lt_of_lt_mul (by rw [Nat.mul_comm]; exact hk)
    refine .sl es _ t.cap t.size (fun k => cur.getD k undef) (fun _ => rfl) a3 a4 (fun i x hx => a5 x (List.mem_of_getElem? hx)) (fun k hk' => ?_) (fun i x j g hx hg => ?_)
    · have hlt : k < cur.size := by omega
      obtain ⟨i, j, rfl, hj, hi⟩ := hat k hk'
      have hx := List.getElem?_eq_getElem hi
      have hl := a5 es[i] (List.getElem_mem hi)
      have hg := List.getElem?_eq_getElem (show j < (es[i]).cells.length by rw [hl]; exact hj)
      have hv : cur[i * t.size + j]? = some (cur.getD (i * t.size + j) undef) := by
        rw [Array.getElem?_eq_getElem hlt]
        simp [hlt, Array.getD_eq_getD_getElem?]
      refine ⟨?_, ?_, (a6 i _ j _ _ hx hg hv).2⟩
      · rw [add_eq _ _ rfl]
        simp only [Nat.zero_add]
        rw [hc, hcell]; exact hv
      · simp only [Nat.zero_add]; exact hS _ hk'
    · have hi := (List.getElem?_eq_some_iff.1 hx).1
      have hj := (List.getElem?_eq_some_iff.1 hg).1
      rw [a5 x (List.mem_of_getElem? hx)] at hj
      have hlt : i * t.size + j < cur.size := by
        have : i * t.size + j < es.length * t.size := by
          have h1 : (i + 1) * t.size ≤ es.length * t.size := Nat.mul_le_mul_right _ hi
          rw [Nat.add_mul, Nat.one_mul] at h1
          omega
        omega
      have hv : cur[i * t.size + j]? = some (cur.getD (i * t.size + j) undef) := by
        rw [Array.getElem?_eq_getElem hlt]
        simp [hlt, Array.getD_eq_getD_getElem?]
      exact (a6 i x j g _ hx hg hv).1.mono hk
end
end Go.Pure

/- A generic layer: arrays that may be written: made, read, written, given up. -/
namespace Go.Pure
open Go

section
variable {P : Program} {o : Oper} {ρ : Operand → PV} {H : PH}

/-- Slices that are made, and may be written. -/
theorem PO_buildSlice_mar {t n e size : Nat} {parts : Array (Nat × Operand)} {z : Value} {b : Bool} {cs : List PV} {gs : List GV} (ho : o.op = .buildSlice t n parts) (he : P.underlying t = some (.slice e)) (hs : szB P e = some size) (_ha : aggB P e = some b)
    (hz : zeroB P e = some z) (hz1 : z.cells.toList.all (·.oneCell') = true) (hzs : Nat.beq z.cells.size size = true) (hpos : Nat.ble 1 size = true) (hb : (b || Nat.beq size 1) = true) (hn : Nat.ble (n * size) 16777216 = true)
    (hfill : fillP (fun i => some (i * size, size)) (zerosP z n) (partsP ρ parts.toList) = some cs) (hg : allG cs = some gs) : PO P o ρ H (.mar H.mu.length 0) ⟨H.bx, H.tk, H.mu ++ [.arr 0 e (group b size n gs)]⟩ := by
  intro c ρr hr hx
  have hzs := Nat.eq_of_beq_eq_true hzs
  have hpos := Nat.le_of_ble_eq_true hpos
  have hn := Nat.le_of_ble_eq_true hn
  subst hzs
  obtain ⟨vs, hv1, hv2⟩ := fill_ok (c := c) (partsP ρ parts.toList) ((parts.map fun (i, x) => (i, ρr x)).toList) (zerosP z n) _ cs (zeros_ok c hz1 hpos n) (by simp [partsP_eq]) (by
    intro k x y hx1 hy
    rw [partsP_eq] at hx1
    simp only [List.getElem?_map, Option.map_eq_some_iff, Array.toList_map] at hx1 hy
    obtain ⟨q, hq, rfl⟩ := hx1
    obtain ⟨q', hq', rfl⟩ := hy
    rw [hq] at hq'
    cases hq'
    exact ⟨rfl, hx q.2 (by
      rw [ho]
      simpa [Op.operands] using ⟨q.1, by simpa using List.mem_of_getElem? hq⟩)⟩) hfill
  have hv1 : Instr.fill (fun i => some (i * z.cells.size, z.cells.size)) ((Array.range (n * z.cells.size)).map (z.cells[· % z.cells.size]!)) (List.map (fun x => (x.1, ρr x.2)) parts.toList) = some vs := by simpa using hv1
  have hrun : (execOp ρr o).run P c.w = .ok (.value (.slice (some ⟨c.w.heap.size, 0, none⟩) n n)) (c.w.alloc (.cells vs e)) := by
    have hne : ¬ (n * z.cells.size > 2 ^ 24) := by simp only [Nat.reducePow]; omega
    by_cases h0 : n * z.cells.size = 0
    · obtain rfl : n = 0 := by
        rcases Nat.mul_eq_zero.1 h0 with h | h
        · exact h
        · omega
      have e0 : ∀ f : Nat → Value, (Array.range (0 * z.cells.size)).map f = #[] := fun f => by simp
      rw [e0] at hv1
      have e1 : Array.map (fun _ : Nat => (default : Value)) (Array.range 0) = #[] := by simp
      simp [execOp, ho, Instr.buildSlice, run_underlying he, run_sizeOf hs, newRow, newObj, e1, hv1, Sem.run]
    · simp [execOp, ho, Instr.buildSlice, run_underlying he, run_sizeOf hs, hne, h0, run_zero hz, newRow, newObj, hv1, Sem.run]
  unfold OpGoes
  rw [hrun]
  have hcells : gs.length = vs.size := by rw [(allG_ok (c := c) hg).1, hv2.1]
  have hcs : ∀ (k : Nat) (g : GV) (v : Value), gs[k]? = some g → vs[k]? = some v → RG c.w c.stab g v ∧ v.oneCell' = true := by
    intro k g v hgk hvk
    have hlt : k < cs.length := by rw [← (allG_ok (c := c) hg).1]; exact (List.getElem?_eq_some_iff.1 hgk).1
    obtain ⟨r1, r2⟩ := hv2.2 k cs[k] v (List.getElem?_eq_getElem hlt) hvk
    exact ⟨(allG_ok (c := c) hg).2 k g cs[k] hgk (List.getElem?_eq_getElem hlt) v r1, r2⟩
  have hvsz : vs.size = n * z.cells.size := by
    rw [hv2.1]
    have : ∀ (ps : List (Nat × PV)) (l l' : List PV), fillP (fun i => some (i * z.cells.size, z.cells.size)) l ps = some l' → l'.length = l.length := by
      intro ps
      induction ps with
      | nil => intro l l' h; simp [fillP] at h; rw [h]
      | cons p ps ih =>
        obtain ⟨i, p⟩ := p
        intro l l' h
        unfold fillP at h
        split at h
        · rename_i off n' ds hpl hds
          cases hb : (Nat.beq ds.length n' && Nat.ble (off + n') l.length) with
          | false => rw [hb] at h; cases h
          | true =>
            rw [hb, cond_true] at h
            rw [ih _ _ h]
            simp only [Bool.and_eq_true] at hb
            have e1 := Nat.eq_of_beq_eq_true hb.1
            have e2 := Nat.le_of_ble_eq_true hb.2
            simp [splice]; omega
        · cases h
    rw [this _ _ _ hfill, zerosP_length]
  have hone : b = false → z.cells.size = 1 ∧ ∀ g ∈ gs, g.cells = [g] := fun e => by
    subst e
    refine ⟨Nat.eq_of_beq_eq_true (by simpa using hb), fun g hg' => ?_⟩
    obtain ⟨k, hk⟩ := List.getElem?_of_mem hg'
    have hlt : k < vs.size := by rw [← hcells]; exact (List.getElem?_eq_some_iff.1 hk).1
    obtain ⟨r1, r2⟩ := hcs k g vs[k] hk (by simp [hlt])
    exact r1.cells_one r2
  have hlen : (group b z.cells.size n gs).length = n := group_length n gs b (fun e => (hone e).1) (by rw [hcells, hvsz])
  have hget := group_get n gs b hone (by rw [hcells, hvsz])
  have hle : n ≤ n * z.cells.size := Nat.le_mul_of_pos_right _ hpos
  have hk : Keeps c.w (c.w.alloc (.cells vs e)) c.stab (Ctx.stab ⟨c.σ, c.τ, c.μ ++ [⟨true, c.w.heap.size, z.cells.size, 0, n, n⟩], c.hid, c.w.alloc (.cells vs e)⟩) := by
    have := (evo_ext (c := c) (Ext.alloc c.w (.cells vs e)) [] [] [⟨true, c.w.heap.size, z.cells.size, 0, n, n⟩] (by simp) (by simp) (by simp)).keep
    simpa using this
  have hmok : MOk P ⟨c.σ, c.τ, c.μ ++ [⟨true, c.w.heap.size, z.cells.size, 0, n, n⟩], c.hid, c.w.alloc (.cells vs e)⟩ ⟨true, c.w.heap.size, z.cells.size, 0, n, n⟩ (.arr 0 e (group b z.cells.size n gs)) := by
    refine ⟨rfl, hlen.symm, hs, .inr ⟨rfl, vs, Go.heap_alloc_new c.w _, hvsz, Nat.le_of_eq hlen, ?_, ?_, ?_⟩⟩
    · simp only [maxLen]; omega
    · intro x hx
      obtain ⟨i, hi⟩ := List.getElem?_of_mem hx
      exact (hget i x hi).1
    · intro i x j g v hx hg' hv
      have := hcs _ g v ((hget i x hx).2 j g hg') hv
      exact ⟨this.1.mono hk, this.2⟩
  obtain ⟨r1, r2⟩ := hr.addMu (Ext.alloc c.w (.cells vs e)) (t := ⟨true, c.w.heap.size, z.cells.size, 0, n, n⟩) (o := .arr 0 e (group b z.cells.size n gs)) (fun _ => ⟨Nat.le_refl _, by simp⟩) hmok
  refine ⟨_, rfl, r1, r2, .mar H.mu.length 0 _ ⟨true, c.w.heap.size, z.cells.size, 0, n, n⟩ ?_ (Nat.le_refl _) rfl (fun _ => .inl ⟨rfl, rfl⟩)⟩
  show (c.μ ++ [_])[H.mu.length]? = _
  rw [← hr.mlen]; simp

/-- The place of an element. -/
theorem PO_mindex {x y : Operand} {t e e' : TypeId} {id n m : Nat} {es : List GV} {k : IntKind} {i : Int} (ho : o.op = .indexAddr t x y) (ht : P.underlying t = some (.slice e)) (hs : szB P e = some m) (hx' : ρ x = .mar id n) (hi : ρ y = .g (.int k i))
    (hm : H.mu[id]? = some (.arr n e' es)) (he : szB P e' = some m) (h0 : 0 ≤ i) (hlt : i < es.length) : PO P o ρ H (.mref id n i.toNat 0) H :=
  PO_val fun c ρr hr hx => by
    have h1 := hx x (by simp [ho, Op.operands])
    have h2 := hx y (by simp [ho, Op.operands])
    rw [hx'] at h1
    rw [hi] at h2
    have h2 := RV_int h2
    generalize hv : ρr x = v at h1
    cases h1 with
    | mar _ _ _ t' ht' hn h1' hv' =>
      obtain ⟨a1, a2, a3, a4⟩ := hr.mu id t' _ ht' hm
      have hsz : t'.size = m := by unfold szB at he; rw [a3] at he; exact Option.some.inj he
      rcases hv' a1.symm with ⟨lv, rfl⟩ | ⟨lv, rfl⟩
      · refine ⟨.pointer (some ((⟨t'.g, 0, none⟩ : Addr).add (i.toNat * m))), ?_, .mref id n i.toNat 0 _ t' ht' hn (add_spot _ _ rfl) (fun _ => by rw [add_eq _ _ rfl, hsz]; simp)⟩
        have hlt' : i.toNat < t'.len := by rw [a2]; omega
        have hidx : 0 ≤ i ∧ i < (t'.len : Int) := ⟨h0, by omega⟩
        simp only [execOp, ho, hv, h2]
        simp [Instr.indexAt, asIntOf, run_underlying ht, hidx, run_sizeOf hs]
      · rcases a4 with ⟨_, rfl⟩ | ⟨lv', _⟩
        · simp at hlt; omega
        · rw [lv] at lv'; cases lv'

/-- An element's cells, read. -/
theorem PO_load_mref_one {t : TypeId} {x : Operand} {id n i off : Nat} {e : TypeId} {es : List GV} {x' g : GV} (ho : o.op = .load t x) (h1 : aggB P t = some false) (hp : ρ x = .mref id n i off)
    (hm : H.mu[id]? = some (.arr n e es)) (hx' : es[i]? = some x') (hg : x'.cells[off]? = some g) : PO P o ρ H (.g g) H :=
  PO_val fun c ρr hr hx => by
    have hx1 := hx x (by simp [ho, Op.operands])
    rw [hp] at hx1
    generalize hrx : ρr x = u at hx1
    cases hx1 with
    | mref _ _ _ _ a t' ht' hn hs hv' =>
      obtain ⟨a1, a2, a3, a4⟩ := hr.mu id t' _ ht' hm
      rcases a4 with ⟨_, rfl⟩ | ⟨lv, cur, b1, b2, b3, b4, b5, b6⟩
      · simp at hx'
      · have hi := (List.getElem?_eq_some_iff.1 hx').1
        have hj := (List.getElem?_eq_some_iff.1 hg).1
        rw [b5 x' (List.mem_of_getElem? hx')] at hj
        have hlt : i * t'.size + off < cur.size := by
          have h1 : (i + 1) * t'.size ≤ t'.cap * t'.size := Nat.mul_le_mul_right _ (by omega)
          rw [Nat.add_mul, Nat.one_mul] at h1
          omega
        have hv : cur[i * t'.size + off]? = some cur[i * t'.size + off] := Array.getElem?_eq_getElem hlt
        have hc : c.w.cell? a = some cur[i * t'.size + off] := by
          rw [hv' a1.symm, cell_of_row c.w t'.g _ cur e (0, 0) b1]; exact hv
        refine ⟨cur[i * t'.size + off], by simp only [execOp, ho, hrx, Instr.loadAt, Instr.sureAddr]; simp [run_loadVar_one h1 _ _ hc], .g _ _ (b6 i x' off g _ hx' hg hv).1⟩
theorem PO_load_mref_agg {t : TypeId} {x : Operand} {id n i off m : Nat} {e : TypeId} {es : List GV} {x' : GV} (ho : o.op = .load t x) (h1 : aggB P t = some true) (h2 : szB P t = some m) (hp : ρ x = .mref id n i off)
    (hm : H.mu[id]? = some (.arr n e es)) (hx' : es[i]? = some x') (hg : off + m ≤ x'.cells.length) : PO P o ρ H (.g (.agg ((x'.cells.drop off).take m))) H :=
  PO_val fun c ρr hr hx => by
    have hx1 := hx x (by simp [ho, Op.operands])
    rw [hp] at hx1
    generalize hrx : ρr x = u at hx1
    cases hx1 with
    | mref _ _ _ _ a t' ht' hn hs hv' =>
      obtain ⟨a1, a2, a3, a4⟩ := hr.mu id t' _ ht' hm
      rcases a4 with ⟨_, rfl⟩ | ⟨lv, cur, b1, b2, b3, b4, b5, b6⟩
      · simp at hx'
      · have hi := (List.getElem?_eq_some_iff.1 hx').1
        have hcl := b5 x' (List.mem_of_getElem? hx')
        have hlt : ∀ j, j < m → i * t'.size + (off + j) < cur.size := by
          intro j hj
          have h1 : (i + 1) * t'.size ≤ t'.cap * t'.size := Nat.mul_le_mul_right _ (by omega)
          rw [Nat.add_mul, Nat.one_mul] at h1
          omega
        have hv : ∀ j, j < m → cur[i * t'.size + (off + j)]? = some (cur.getD (i * t'.size + (off + j)) undef) := fun j hj => by
          have := hlt j hj
          rw [Array.getElem?_eq_getElem this]
          simp [this, Array.getD_eq_getD_getElem?]
        have hl := run_loadVar_agg (w := c.w) h1 h2 a (fun j => cur.getD (i * t'.size + (off + j)) undef) (fun j hj => by
          rw [add_eq _ _ hs, hv' a1.symm, cell_of_row c.w t'.g _ cur e (0, 0) b1]
          simp only [Nat.add_assoc]; exact hv j hj)
        refine ⟨_, by simp only [execOp, ho, hrx, Instr.loadAt, Instr.sureAddr]; simp [hl]; rfl, .g _ _ (.agg _ _ (by simp; omega) ?_ ?_)⟩
        · intro v hv2
          simp at hv2
          obtain ⟨j, hj, rfl⟩ := hv2
          have := (b6 i x' (off + j) (x'.cells[off + j]'(by omega)) _ hx' (by simp) (hv j hj)).2
          simpa [Array.getD_eq_getD_getElem?] using this
        · intro j p v hi2 hv2
          simp [List.getElem?_take] at hi2 hv2
          obtain ⟨hlt2, hi2⟩ := hi2
          obtain ⟨i', h0, rfl⟩ := hv2
          obtain ⟨h0, rfl⟩ := List.getElem?_eq_some_iff.1 h0
          rw [List.getElem_range]
          have := (b6 i x' (off + j) p _ hx' hi2 (hv j hlt2)).1
          simpa [Array.getD_eq_getD_getElem?] using this

/-- An element with some cells in the place of others. -/
def setCells (x : GV) (off : Nat) (cs : List GV) : GV :=
  match x with
  | .agg ds => .agg (ds.take off ++ cs ++ ds.drop (off + cs.length))
  | _ => match cs with | [g] => g | _ => x
theorem setCells_cells {x : GV} {off : Nat} {cs : List GV} (h : off + cs.length ≤ x.cells.length) (hpos : 0 < cs.length) (h1 : ∀ g ∈ cs, g.cells = [g]) : (setCells x off cs).cells = x.cells.take off ++ cs ++ x.cells.drop (off + cs.length) := by
  have one : ∀ y : GV, y.cells = [y] → off + cs.length ≤ y.cells.length → ∃ g, cs = [g] ∧ off = 0 := by
    intro y hy hl
    rw [hy] at hl
    simp at hl
    match cs, hpos, hl with
    | [g], _, hl => exact ⟨g, rfl, by simp at hl; omega⟩
    | g :: g' :: r, _, hl => simp at hl; omega
  cases x with
  | agg ds => rfl
  | _ => obtain ⟨g, rfl, rfl⟩ := one _ rfl h; simp [setCells, GV.cells]; exact h1 g (by simp)

theorem setCells_len {x : GV} {off : Nat} {cs : List GV} (h : off + cs.length ≤ x.cells.length) (hpos : 0 < cs.length) (h1 : ∀ g ∈ cs, g.cells = [g]) : (setCells x off cs).cells.length = x.cells.length := by
  rw [setCells_cells h hpos h1]
  simp
  omega

/-- An element's cells, written. -/
theorem PO_store_mref {t : TypeId} {x y : Operand} {id n i off m : Nat} {e : TypeId} {es : List GV} {x' : GV} {ps : List PV} {cs : List GV} (ho : o.op = .store t x y) (hs : szB P t = some m) (hp : ρ x = .mref id n i off) (hc : pvCells (ρ y) = some ps) (hg : allG ps = some cs) (hn : cs.length = m) (hpos : 0 < m)
    (hm : H.mu[id]? = some (.arr n e es)) (hx' : es[i]? = some x') (hfit : off + m ≤ x'.cells.length) :
    PO P o ρ H undefP ⟨H.bx, H.tk, H.mu.set id (.arr n e (es.set i (setCells x' off cs)))⟩ := by
  intro c ρr hr hx
  have hx1 := hx x (by simp [ho, Op.operands])
  have hy1 := hx y (by simp [ho, Op.operands])
  rw [hp] at hx1
  generalize hrx : ρr x = u at hx1
  obtain ⟨f1, f2⟩ := pvCells_ok hy1 hc
  obtain ⟨g1, g2⟩ := allG_ok (c := c) hg
  have hval : ∀ (j : Nat) (g : GV) (v : Value), cs[j]? = some g → (ρr y).cells[j]? = some v → RG c.w c.stab g v ∧ v.oneCell' = true := by
    intro j g v hj hv
    have hlt : j < ps.length := by rw [← g1]; exact (List.getElem?_eq_some_iff.1 hj).1
    obtain ⟨r1, r2⟩ := f2 j ps[j] v (List.getElem?_eq_getElem hlt) hv
    exact ⟨g2 j g ps[j] hj (List.getElem?_eq_getElem hlt) v r1, r2⟩
  have hcsz : (ρr y).cells.size = m := by rw [← f1, ← g1, hn]
  have hone : ∀ g ∈ cs, g.cells = [g] := by
    intro g hgm
    obtain ⟨j, hj⟩ := List.getElem?_of_mem hgm
    have hlt : j < (ρr y).cells.size := by rw [hcsz, ← hn]; exact (List.getElem?_eq_some_iff.1 hj).1
    obtain ⟨r1, r2⟩ := hval j g _ hj (Array.getElem?_eq_getElem hlt)
    exact r1.cells_one r2
  cases hx1 with
  | mref _ _ _ _ a t' ht' hgn hsp hv' =>
    obtain ⟨a1, a2, a3, a4⟩ := hr.mu id t' _ ht' hm
    rcases a4 with ⟨_, rfl⟩ | ⟨lv, cur, b1, b2, b3, b4, b5, b6⟩
    · simp at hx'
    · have hi := (List.getElem?_eq_some_iff.1 hx').1
      have hcl := b5 x' (List.mem_of_getElem? hx')
      have hend : i * t'.size + t'.size ≤ cur.size := by
        have h1 : (i + 1) * t'.size ≤ t'.cap * t'.size := Nat.mul_le_mul_right _ (by omega)
        rw [Nat.add_mul, Nat.one_mul] at h1
        omega
      have hone' : ∀ v ∈ (ρr y).cells.toList, v.oneCell' = true := by
        intro v hv
        obtain ⟨j, hj, rfl⟩ := List.mem_iff_getElem.1 hv
        have hj' : j < cs.length := by rw [hn, ← hcsz]; simpa using hj
        exact (hval j cs[j] _ (List.getElem?_eq_getElem hj') (by simp)).2
      have hst := run_storeCells_at P t'.g (i * t'.size + off) e (ρr y).cells.toList 0 cur c.w b1 (by simp <;> omega) hone'
      simp only [Nat.add_zero] at hst
      have hrun : (execOp ρr o).run P c.w = .ok .skip (c.w.setRow t'.g (cur.toList.take (i * t'.size + off) ++ (ρr y).cells.toList ++ cur.toList.drop (i * t'.size + off + (ρr y).cells.size)).toArray) := by
        rw [Array.length_toList] at hst
        rw [hcsz] at hst ⊢
        simp [execOp, ho, hrx, Instr.storeAt, Instr.sureAddr, storeVar, run_sizeOf hs, hcsz, hv' a1.symm, hst]
      unfold OpGoes
      rw [hrun]
      generalize hnew : (cur.toList.take (i * t'.size + off) ++ (ρr y).cells.toList ++ cur.toList.drop (i * t'.size + off + (ρr y).cells.size)).toArray = new
      have hnsz : new.size = cur.size := by rw [← hnew]; simp [hcsz]; omega
      have hread : ∀ k v, new[k]? = some v → (k < i * t'.size + off ∧ cur[k]? = some v) ∨ (i * t'.size + off ≤ k ∧ k < i * t'.size + off + m ∧ (ρr y).cells[k - (i * t'.size + off)]? = some v) ∨ (i * t'.size + off + m ≤ k ∧ cur[k]? = some v) := by
        intro k v hk
        rw [← hnew] at hk
        simp only [List.getElem?_toArray] at hk
        by_cases h1 : k < i * t'.size + off
        · rw [List.append_assoc, List.getElem?_append_left (by simp; omega)] at hk
          simp only [List.getElem?_take, h1, if_true] at hk
          exact .inl ⟨h1, by simpa using hk⟩
        · by_cases h2 : k < i * t'.size + off + m
          · rw [List.append_assoc, List.getElem?_append_right (by simp; omega), List.getElem?_append_left (by simp [hcsz]; omega)] at hk
            have l2 : (cur.toList.take (i * t'.size + off)).length = i * t'.size + off := by simp; omega
            rw [l2] at hk
            exact .inr (.inl ⟨by omega, h2, by simpa using hk⟩)
          · rw [List.getElem?_append_right (by simp [hcsz]; omega)] at hk
            have l2 : (cur.toList.take (i * t'.size + off) ++ (ρr y).cells.toList).length = i * t'.size + off + m := by simp [hcsz]; omega
            rw [l2, List.getElem?_drop, hcsz] at hk
            have e : i * t'.size + off + m + (k - (i * t'.size + off + m)) = k := by omega
            rw [e] at hk
            exact .inr (.inr ⟨by omega, by simpa using hk⟩)
      have := hr.setMu ht' (t' := t') (o' := .arr n e (es.set i (setCells x' off cs))) rfl (.inl rfl) (w' := c.w.setRow t'.g new) rfl rfl rfl (by simp) (fun b hb h => setRow_other c.w t'.g b _ (h lv)) (fun _ => .inl ⟨lv, rfl⟩) (fun hE => ?_)
      · exact ⟨_, rfl, this.1, this.2, .g _ _ (.raw _)⟩
      · have hpos' : 0 < cs.length := by omega
        have hfit' : off + cs.length ≤ x'.cells.length := by omega
        refine ⟨a1, by rw [List.length_set]; exact a2, a3, .inr ⟨lv, new, setRow_heap c.w t'.g cur new e (0, 0) b1, by rw [hnsz]; exact b2, by rw [List.length_set]; exact b3, b4, ?_, ?_⟩⟩
        · intro z hz
          rcases List.mem_or_eq_of_mem_set hz with h | rfl
          · exact b5 z h
          · rw [setCells_len hfit' hpos' hone]; exact hcl
        · intro i2 x2 j g v hx2 hg2 hv2
          by_cases hij : i2 = i
          · subst hij
            rw [List.getElem?_set_self hi] at hx2
            cases hx2
            rw [setCells_cells hfit' hpos' hone] at hg2
            have hj := (List.getElem?_eq_some_iff.1 hg2).1
            rcases hread _ v hv2 with ⟨k1, k2⟩ | ⟨k1, k2, k3⟩ | ⟨k1, k2⟩
            · rw [List.append_assoc, List.getElem?_append_left (by simp; omega)] at hg2
              simp only [List.getElem?_take] at hg2
              rw [if_pos (by omega)] at hg2
              exact ⟨(b6 i2 x' j g v hx' hg2 k2).1.mono hE.keep, (b6 i2 x' j g v hx' hg2 k2).2⟩
            · rw [List.append_assoc, List.getElem?_append_right (by simp; omega), List.getElem?_append_left (by simp; omega)] at hg2
              have l1 : (x'.cells.take off).length = off := by simp; omega
              rw [l1] at hg2
              rw [show i2 * t'.size + j - (i2 * t'.size + off) = j - off by omega] at k3
              exact ⟨(hval _ g v hg2 k3).1.mono hE.keep, (hval _ g v hg2 k3).2⟩
            · rw [List.getElem?_append_right (by simp; omega)] at hg2
              have l1 : (x'.cells.take off ++ cs).length = off + cs.length := by simp; omega
              rw [l1, List.getElem?_drop, show off + cs.length + (j - (off + cs.length)) = j by omega] at hg2
              exact ⟨(b6 i2 x' j g v hx' hg2 k2).1.mono hE.keep, (b6 i2 x' j g v hx' hg2 k2).2⟩
          · rw [List.getElem?_set_ne (fun h => hij h.symm)] at hx2
            have hj := (List.getElem?_eq_some_iff.1 hg2).1
            rw [b5 x2 (List.mem_of_getElem? hx2)] at hj
            have hcur : cur[i2 * t'.size + j]? = some v := by
              rcases hread _ v hv2 with ⟨_, k2⟩ | ⟨k1, k2, _⟩ | ⟨_, k2⟩
              · exact k2
              · exfalso
                rcases Nat.lt_or_gt_of_ne hij with h | h
                · have : (i2 + 1) * t'.size ≤ i * t'.size := Nat.mul_le_mul_right _ h
                  rw [Nat.add_mul, Nat.one_mul] at this
                  omega
                · have : (i + 1) * t'.size ≤ i2 * t'.size := Nat.mul_le_mul_right _ h
                  rw [Nat.add_mul, Nat.one_mul] at this
                  omega
              · exact k2
            exact ⟨(b6 i2 x2 j g v hx2 hg2 hcur).1.mono hE.keep, (b6 i2 x2 j g v hx2 hg2 hcur).2⟩

theorem PO_mlen {x : Operand} {t e e' : TypeId} {id n : Nat} {es : List GV} (ho : o.op = .call { callee := .builtin .len, args := #[x], argTypes := #[t] }) (ht : P.underlying t = some (.slice e)) (hx' : ρ x = .mar id n) (hm : H.mu[id]? = some (.arr n e' es)) :
    PO P o ρ H (.g (.int .i64 es.length)) H :=
  PO_val fun c ρr hr hx => by
    have h1 := hx x (by simp [ho, Op.operands, Call.operands])
    rw [hx'] at h1
    generalize hv : ρr x = v at h1
    cases h1 with
    | mar _ _ _ t' ht' hn h1' hv' =>
      obtain ⟨a1, a2, a3, a4⟩ := hr.mu id t' _ ht' hm
      refine ⟨.int .i64 es.length, ?_, .g _ _ (.int _ _)⟩
      rcases hv' a1.symm with ⟨lv, rfl⟩ | ⟨lv, rfl⟩
      · rw [← a2]
        simp [execOp, ho, resolve, invoke, builtin, hv, Builtin.len_, run_underlying ht, goInt]
      · rcases a4 with ⟨_, rfl⟩ | ⟨lv', _⟩
        · simp [execOp, ho, resolve, invoke, builtin, hv, Builtin.len_, run_underlying ht, goInt]
        · rw [lv] at lv'; cases lv'
end
end Go.Pure

/- A generic layer: arrays that may be written: given up, marked, appended to. -/
namespace Go.Pure
open Go

mutual
/-- An array that is given up reads as its elements for good. -/
def frz (id n : Nat) (es : List GV) : PV → PV
  | .mar id' n' => bif Nat.beq id' id && Nat.beq n' n then .g (.sl es) else .mar id' n'
  | .clo f a b => .clo f (frzL id n es a) (frzL id n es b)
  | .agg cs => .agg (frzL id n es cs)
  | .tuple cs => .tuple (frzL id n es cs)
  | .g x => .g x
  | .own es' id' => .own es' id'
  | .ptr b off => .ptr b off
  | .nilp => .nilp
  | .nils => .nils
  | .pat cs => .pat cs
  | .lit es' => .lit es'
  | .mref a b c d => .mref a b c d
  | .mp a => .mp a
  | .any => .any
def frzL (id n : Nat) (es : List GV) : List PV → List PV
  | [] => []
  | p :: r => frz id n es p :: frzL id n es r
end
theorem frzL_eq (id n : Nat) (es : List GV) : ∀ l, frzL id n es l = l.map (frz id n es)
  | [] => by simp [frzL]
  | p :: r => by simp [frzL, frzL_eq id n es r]
def frzB (id n : Nat) (es : List GV) : List (List PV) → List (List PV)
  | [] => []
  | l :: r => frzL id n es l :: frzB id n es r
theorem frzB_eq (id n : Nat) (es : List GV) : ∀ l, frzB id n es l = l.map (·.map (frz id n es))
  | [] => rfl
  | p :: r => by simp [frzB, frzL_eq, frzB_eq id n es r]

section
variable {P : Program} {c : Ctx} {H : PH}

theorem RV_frz {c c' : Ctx} (hE : Evo c c') {id n : Nat} {es : List GV} (hread : ∀ v, RV c (.mar id n) v → RG c'.w c'.stab (.sl es) v) {p : PV} {v : Value} (h : RV c p v) : RV c' (frz id n es p) v := by
  induction h with
  | mar id' n' v t ht hn h1 hv =>
    simp only [frz]
    cases hb : (Nat.beq id' id && Nat.beq n' n) with
    | true =>
      rw [cond_true]
      simp only [Bool.and_eq_true] at hb
      have e1 := Nat.eq_of_beq_eq_true hb.1
      have e2 := Nat.eq_of_beq_eq_true hb.2
      subst e1; subst e2
      exact .g _ _ (hread v (.mar _ _ v t ht hn h1 hv))
    | false => rw [cond_false]; exact (RV.mar id' n' v t ht hn h1 hv).mono hE
  | g x v h => simp only [frz]; exact (RV.g x v h).mono hE
  | own es id v t h ht hs hl hv => simp only [frz]; exact (RV.own es id v t h ht hs hl hv).mono hE
  | ptr b off blk h => simp only [frz]; exact (RV.ptr b off blk h).mono hE
  | nilp => simp only [frz]; exact .nilp
  | nils => simp only [frz]; exact .nils
  | pat cs a f ha hf h => simp only [frz]; exact (RV.pat cs a f ha hf h).mono hE
  | clo fn ps qs us vs hp hq _ _ h1 h2 =>
    simp only [frz, frzL_eq]
    refine .clo fn _ _ us vs (by simpa using hp) (by simpa using hq) (fun i p v hp' hv => ?_) (fun i p v hp' hv => ?_)
    · simp only [List.getElem?_map, Option.map_eq_some_iff] at hp'
      obtain ⟨q, hq', rfl⟩ := hp'
      exact h1 i q v hq' hv
    · simp only [List.getElem?_map, Option.map_eq_some_iff] at hp'
      obtain ⟨q, hq', rfl⟩ := hp'
      exact h2 i q v hq' hv
  | agg cs vs hl h1 _ ih =>
    simp only [frz, frzL_eq]
    refine .agg _ vs (by simpa using hl) h1 fun i p v hp' hv => ?_
    simp only [List.getElem?_map, Option.map_eq_some_iff] at hp'
    obtain ⟨q, hq', rfl⟩ := hp'
    exact ih i q v hq' hv
  | tuple cs vs hl _ ih =>
    simp only [frz, frzL_eq]
    refine .tuple _ vs (by simpa using hl) fun i p v hp' hv => ?_
    simp only [List.getElem?_map, Option.map_eq_some_iff] at hp'
    obtain ⟨q, hq', rfl⟩ := hp'
    exact ih i q v hq' hv
  | lit es a h => simp only [frz]; exact (RV.lit es a h).mono hE
  | mref id n i off a t ht hn h1 hv => simp only [frz]; exact (RV.mref id n i off a t ht hn h1 hv).mono hE
  | mp id v t ht h1 hv => simp only [frz]; exact (RV.mp id v t ht h1 hv).mono hE
  | any v => simp only [frz]; exact .any v

/-- Nobody will write this array any more. -/
theorem Rel.freeze (hr : Rel P c H) {id n : Nat} {e : TypeId} {es : List GV} (hm : H.mu[id]? = some (.arr n e es)) :
    ∃ c', c'.w = c.w ∧ Rel P c' ⟨frzB id n es H.bx, H.tk, H.mu.set id (.gone (n + 1))⟩ ∧ Evo c c' ∧ ∀ p v, RV c p v → RV c' (frz id n es p) v := by
  have hid : id < c.μ.length := by rw [hr.mlen]; exact (List.getElem?_eq_some_iff.1 hm).1
  have ht := List.getElem?_eq_getElem hid
  generalize c.μ[id] = t at ht
  have hmk := hr.mu id t _ ht hm
  obtain ⟨a1, a2, a3, a4⟩ := hmk
  obtain ⟨r1, r2⟩ := hr.setMu ht (t' := { t with live := false, gen := n + 1 }) (o' := .gone (n + 1)) rfl (.inr (by dsimp only; omega)) (w' := c.w) rfl rfl rfl (Nat.le_refl _) (fun _ _ _ => rfl) (fun h => by cases h) (fun _ => ⟨rfl, rfl⟩)
  refine ⟨⟨c.σ, c.τ, c.μ.set id { t with live := false, gen := n + 1 }, c.hid, c.w⟩, rfl, ?_, r2, ?_⟩
  all_goals
    have hread : ∀ v, RV c (.mar id n) v → RG c.w (Ctx.stab ⟨c.σ, c.τ, c.μ.set id { t with live := false, gen := n + 1 }, c.hid, c.w⟩) (.sl es) v := by
      intro v hv
      cases hv with
      | mar _ _ _ t2 ht2 hn h1 hv =>
        rw [ht] at ht2
        cases ht2
        rcases hv a1.symm with ⟨lv, rfl⟩ | ⟨lv, rfl⟩
        · refine MOk.reads (hr.mu id t _ ht hm) lv (fun _ => rfl) (fun p _ => ?_) r2.keep
          have htm := List.mem_of_getElem? ht
          refine ⟨fun h => hr.mhid t htm lv p h, fun h => hr.ms t htm lv h, fun t3 h3 lv3 e3 => absurd e3.symm (hr.mt t htm lv t3 h3 lv3), fun t3 h3 lv3 e3 => ?_⟩
          obtain ⟨k, hk⟩ := List.getElem?_of_mem h3
          replace hk : (c.μ.set id { t with live := false, gen := n + 1 })[k]? = some t3 := hk
          by_cases ek : k = id
          · subst ek
            rw [List.getElem?_set_self hid] at hk
            cases hk
            cases lv3
          · rw [List.getElem?_set_ne (fun h => ek h.symm)] at hk
            exact ek (hr.md k id t3 t hk ht lv3 lv e3)
        · rcases a4 with ⟨_, rfl⟩ | ⟨lv', _⟩
          · exact .nil
          · rw [lv] at lv'; cases lv'
  · refine { r1 with len := by rw [frzB_eq]; simpa using r1.len, bx := ?_ }
    intro i b cs hb hcs
    rw [frzB_eq] at hcs
    simp only [List.getElem?_map, Option.map_eq_some_iff] at hcs
    obtain ⟨ds, hds, rfl⟩ := hcs
    obtain ⟨vals, T, e1, e2, e3⟩ := hr.bx i b ds hb hds
    refine ⟨vals, T, e1, by simpa using e2, fun j p v hp hv => ?_⟩
    simp only [List.getElem?_map, Option.map_eq_some_iff] at hp
    obtain ⟨q, hq, rfl⟩ := hp
    exact ⟨RV_frz r2 hread (e3 j q v hq hv).1, (e3 j q v hq hv).2⟩
  · exact fun p v h => RV_frz r2 hread h
end

section
variable {P : Program} {N : Nat} {Q : Exit → Env → PH → Prop} {env : Env} {H : PH}
theorem PW_freeze {code : Code} (id : Nat) {n : Nat} {e : TypeId} {es : List GV} (hm : H.mu[id]? = some (.arr n e es)) (h : PW P N code Q (fun t => frz id n es (env t)) ⟨frzB id n es H.bx, H.tk, H.mu.set id (.gone (n + 1))⟩) : PW P N code Q env H := by
  intro c a hr he
  obtain ⟨c', hw, r1, e1, r2⟩ := hr.freeze hm
  have := h c' a r1 ⟨he.defers, he.size, fun t => r2 _ _ (he.slot t)⟩
  rw [hw] at this
  refine wp_mono this ?_
  rintro x a' w' ⟨c2, env', H', q, rfl, hr', hE', he'⟩
  exact ⟨c2, env', H', q, rfl, hr', e1.trans hE', he'⟩
end

section
variable {P : Program} {o : Oper} {ρ : Operand → PV} {H : PH}

theorem run_convert_mark {w : World} {g n cap : Nat} {t e : TypeId} {C : Array Value} (hg : w.heap[g]? = some (.cells C e (0, 0))) (ht : P.underlying t = some (.slice e)) (he : P.underlying e = some (.int .u8)) :
    (convert t t (.slice (some ⟨g, 0, none⟩) n cap)).run P w = .ok (.slice (some ⟨g, 0, none⟩) n cap) (w.freeze ⟨g, C.size, none⟩ 1) := by
  have hsh : w.shape? g = some (e, C.size) := by unfold World.shape?; rw [hg]
  simp [convert, run_underlying ht, run_underlying he, markStringish, hsh]
theorem freeze_other (w : World) (g k b : Nat) (h : b ≠ g) : (w.freeze ⟨g, k, none⟩ 1).heap[b]? = w.heap[b]? := by
  simp [World.freeze, Array.getElem?_modify, Ne.symm h]
theorem freeze_cell (w : World) (g k : Nat) (a : Addr) : (w.freeze ⟨g, k, none⟩ 1).cell? a = w.cell? a := by
  by_cases h : a.block = g
  · unfold World.cell? World.freeze
    rw [if_neg (by decide)]
    simp only [Array.getElem?_modify]
    subst h
    simp only [if_true]
    cases w.heap[a.block]? with
    | none => rfl
    | some o => cases o <;> rfl
  · exact World.cell?_of_block (freeze_other w g k a.block h)

/-- '[]byte("..")' of a constant: the array is marked, and isn't written any more. -/
theorem PO_conv_mark {t e : TypeId} {x : Operand} {id n : Nat} {es : List GV} (ho : o.op = .convert t t x) (ht : P.underlying t = some (.slice e)) (he : intB P e = some .u8) (hx' : ρ x = .mar id n) (hm : H.mu[id]? = some (.arr n e es)) (hne : Nat.ble 1 es.length = true) :
    PO P o ρ H (.g (.sl es)) ⟨H.bx, H.tk, H.mu.set id (.gone (n + 1))⟩ := by
  intro c ρr hr hx
  have h1 := hx x (by simp [ho, Op.operands])
  rw [hx'] at h1
  generalize hv : ρr x = v at h1
  cases h1 with
  | mar _ _ _ t' ht' hn h1' hv' =>
    have hmk := hr.mu id t' _ ht' hm
    obtain ⟨a1, a2, a3, a4⟩ := hmk
    rcases a4 with ⟨_, rfl⟩ | ⟨lv, cur, b1, b2, b3, b4, b5, b6⟩
    · cases hne
    · rcases hv' a1.symm with ⟨_, rfl⟩ | ⟨lv', _⟩
      · have hrun : (execOp ρr o).run P c.w = .ok (.value (.slice (some ⟨t'.g, 0, none⟩) t'.len t'.cap)) (c.w.freeze ⟨t'.g, cur.size, none⟩ 1) := by
          have := run_convert_mark (n := t'.len) (cap := t'.cap) b1 ht (intB_ok he)
          simp [execOp, ho, hv, this]
        unfold OpGoes
        rw [hrun]
        have htm := List.mem_of_getElem? ht'
        have hid := (List.getElem?_eq_some_iff.1 ht').1
        obtain ⟨r1, r2⟩ := hr.setMu ht' (t' := { t' with live := false, gen := n + 1 }) (o' := .gone (n + 1)) rfl (.inr (by dsimp only; omega)) (w' := c.w.freeze ⟨t'.g, cur.size, none⟩ 1) rfl rfl rfl (by simp [World.freeze]) (fun b hb h => freeze_other c.w t'.g _ b (h lv)) (fun h => by cases h) (fun _ => ⟨rfl, rfl⟩)
        refine ⟨_, rfl, r1, r2, .g _ _ (MOk.reads (hr.mu id t' _ ht' hm) lv (fun k => freeze_cell _ _ _ _) (fun p _ => ?_) r2.keep)⟩
        refine ⟨fun h => hr.mhid t' htm lv p h, fun h => hr.ms t' htm lv h, fun t3 h3 lv3 e3 => absurd e3.symm (hr.mt t' htm lv t3 h3 lv3), fun t3 h3 lv3 e3 => ?_⟩
        obtain ⟨k, hk⟩ := List.getElem?_of_mem h3
        replace hk : (c.μ.set id { t' with live := false, gen := n + 1 })[k]? = some t3 := hk
        by_cases ek : k = id
        · subst ek
          rw [List.getElem?_set_self hid] at hk
          cases hk
          cases lv3
        · rw [List.getElem?_set_ne (fun h => ek h.symm)] at hk
          exact ek (hr.md k id t3 t' hk ht' lv3 lv e3)
      · rw [lv] at lv'; cases lv'
end
end Go.Pure

/- A generic layer: arrays that may be written: appended to. -/
namespace Go.Pure
open Go

section
variable {P : Program} {o : Oper} {ρ : Operand → PV} {H : PH}

theorem set_same {α : Type} {l : List α} {i : Nat} {x : α} (h : l[i]? = some x) : l.set i x = l := by
  refine List.ext_getElem? fun k => ?_
  by_cases ek : k = i
  · subst ek; rw [h, List.getElem?_set_self (List.getElem?_eq_some_iff.1 h).1]
  · rw [List.getElem?_set_ne (fun e' => ek e'.symm)]

theorem PO_mappend {x y : Operand} {t e : TypeId} {es xs : List GV} {id n size bytes : Nat} {z : Value} (ho : o.op = .call { callee := .builtin .append, args := ⟨[x, y]⟩, argTypes := ⟨[t, t]⟩ })
    (ht : P.underlying t = some (.slice e)) (hs : szB P e = some size) (hby : bytesB P e = some bytes) (hz : zeroB P e = some z) (hzs : Nat.beq z.cells.size size = true) (hx : ρ x = .mar id n) (hy : elems (ρ y) = some xs)
    (hm : H.mu[id]? = some (.arr n e es)) (hxs : ∀ x ∈ xs, x.cells.length = size) (hfit : (es.length + xs.length) * bytes ≤ 140737488355328) (hmax : es.length + xs.length ≤ maxLen) :
    PO P o ρ H (.mar id (n + xs.length)) ⟨H.bx, H.tk, H.mu.set id (.arr (n + xs.length) e (es ++ xs))⟩ := by
  intro c ρr hr hxx
  have hx1 := hxx x (by simp [ho, Op.operands, Call.operands])
  have hy1 := elems_ok (hxx y (by simp [ho, Op.operands, Call.operands])) hy
  rw [hx] at hx1
  have hzs := Nat.eq_of_beq_eq_true hzs
  obtain ⟨i, hi⟩ : ∃ i, P.info? e = some i := by
    unfold szB at hs
    cases h : P.info? e with
    | none => rw [h] at hs; cases hs
    | some i => exact ⟨i, rfl⟩
  have hisz : i.size = size := by unfold szB at hs; rw [hi] at hs; simpa using hs
  have hiby : i.bytes = bytes := by unfold bytesB at hby; rw [hi] at hby; simpa using hby
  have hiz : i.zero = some z := by
    unfold zeroB at hz; rw [hi] at hz; simpa using hz
  subst hisz; subst hiby
  generalize hvx : ρr x = v at hx1
  generalize hvy : ρr y = u at hy1
  have hop : (execOp ρr o).run P c.w = ((Builtin.append_ #[t, t] o.type #[v, u]).run P c.w).andThen fun r w => .ok (.value r) w := by
    simp [execOp, ho, resolve, invoke, builtin, hvx, hvy]
  unfold OpGoes
  rw [hop]
  cases hx1 with
  | mar _ _ _ tk htk hn h1' hv =>
  have hmk := hr.mu id tk _ htk hm
  obtain ⟨a1, a2, a3, a4⟩ := hmk
  have hid := (List.getElem?_eq_some_iff.1 htk).1
  have htm := List.mem_of_getElem? htk
  have hsame : tk.size = i.size := by rw [hi] at a3; simpa using a3.symm
  by_cases hne : xs = []
  · subst hne
    have hu : u = .slice none 0 0 ∨ ∃ a c', u = .slice (some a) 0 c' := by
      cases hy1 with
      | nil => exact .inl rfl
      | sl _ a cap => exact .inr ⟨a, cap, rfl⟩
    have hrun : (Builtin.append_ #[t, t] o.type #[v, u]).run P c.w = .ok v c.w := by
      rcases hv a1.symm with ⟨lv, rfl⟩ | ⟨_, rfl⟩
      · rcases a4 with ⟨lv', _⟩ | ⟨_, cur, b1, b2, b3, b4, b5, b6⟩
        · rw [lv] at lv'; cases lv'
        · exact run_append_zero c.w ht hi _ _ _ (by rw [a2]; exact b3) (.inr ⟨_, rfl⟩) u hu
      · exact run_append_zero c.w ht hi none 0 0 (Nat.le_refl _) (.inl rfl) u hu
    rw [hrun]
    refine ⟨c, rfl, ?_, Evo.refl c, .mar id _ v tk htk hn h1' hv⟩
    rw [List.append_nil]
    show Rel P c ⟨H.bx, H.tk, H.mu.set id (.arr n e es)⟩
    rw [set_same hm]
    exact hr
  · obtain ⟨a, m, news, rfl, ln, hnews, hn1, hnrg⟩ := slice_cells hy1 hxs hne
    have hpos : 0 < xs.length := List.length_pos_iff.2 hne
    have fin : ∀ (w' : World) (t' : MTok) (olds rest : List Value) (cur : Array Value),
        t'.size = i.size → t'.gen = n + xs.length → t'.len = es.length + xs.length → t'.live = true → w'.os = c.w.os → w'.tape = c.w.tape → w'.output = c.w.output → c.w.heap.size ≤ w'.heap.size →
        (∀ b, b < c.w.heap.size → (tk.live = true → b ≠ tk.g) → w'.heap[b]? = c.w.heap[b]?) → ((tk.live = true ∧ t'.g = tk.g) ∨ (c.w.heap.size ≤ t'.g ∧ t'.g < w'.heap.size)) →
        w'.heap[t'.g]? = some (.cells cur e (0, 0)) → cur = (olds ++ news ++ rest).toArray → cur.size = t'.cap * i.size → t'.cap ≤ maxLen → es.length + xs.length ≤ t'.cap → olds.length = es.length * i.size → (∀ x ∈ es, x.cells.length = i.size) →
        (∀ (k : Nat) (x : GV) (j : Nat) (g : GV) (v : Value), es[k]? = some x → x.cells[j]? = some g → olds[k * i.size + j]? = some v → RG c.w c.stab g v ∧ v.oneCell' = true) →
        ∃ c' : Ctx, c'.w = w' ∧ Rel P c' ⟨H.bx, H.tk, H.mu.set id (.arr (n + xs.length) e (es ++ xs))⟩ ∧ Evo c c' ∧ RV c' (.mar id (n + xs.length)) (.slice (some ⟨t'.g, 0, none⟩) (es.length + xs.length) t'.cap) := by
      intro w' t' olds rest cur e2 e3 e4 e5 o1 o2 o3 o4 o5 o7 hh hcur hcs hcm hcap lo hes horg
      obtain ⟨g1, g2⟩ := hr.setMu htk (t' := t') (o' := .arr (n + xs.length) e (es ++ xs)) (by rw [e2, hsame]) (.inr (by omega)) o1 o2 o3 o4 o5 (fun _ => o7) (fun hE => by
        refine ⟨e3, by rw [e4]; simp, by rw [e2, hi]; rfl, .inr ⟨e5, cur, hh, by rw [e2]; exact hcs, by simpa using hcap, hcm, ?_, ?_⟩⟩
        · intro x hx
          rw [e2]
          rcases List.mem_append.1 hx with h | h
          · exact hes x h
          · exact hxs x h
        · intro k x j g v hx hg hv'
          rw [e2, hcur] at hv'
          simp only [List.getElem?_toArray] at hv'
          have hjl := (List.getElem?_eq_some_iff.1 hg).1
          by_cases hk : k < es.length
          · rw [List.getElem?_append_left hk] at hx
            rw [hes x (List.mem_of_getElem? hx)] at hjl
            have hlt : k * i.size + j < olds.length := by
              have h1 : (k + 1) * i.size ≤ es.length * i.size := Nat.mul_le_mul_right _ hk
              rw [Nat.add_mul, Nat.one_mul] at h1
              omega
            rw [List.append_assoc, List.getElem?_append_left hlt] at hv'
            exact ⟨(horg k x j g v hx hg hv').1.mono hE.keep, (horg k x j g v hx hg hv').2⟩
          · rw [List.getElem?_append_right (by omega)] at hx
            have hk2 := (List.getElem?_eq_some_iff.1 hx).1
            rw [hxs x (List.mem_of_getElem? hx)] at hjl
            have hsub : k * i.size = es.length * i.size + (k - es.length) * i.size := by rw [← Nat.add_mul]; congr 1; omega
            have hlt : (k - es.length) * i.size + j < news.length := by
              have h1 : (k - es.length + 1) * i.size ≤ xs.length * i.size := Nat.mul_le_mul_right _ hk2
              rw [Nat.add_mul, Nat.one_mul] at h1
              omega
            rw [List.append_assoc, List.getElem?_append_right (by omega), List.getElem?_append_left (by omega), show k * i.size + j - olds.length = (k - es.length) * i.size + j by omega] at hv'
            exact ⟨(hnrg (k - es.length) x j g v hx hg hv').mono hE.keep, hn1 v (List.mem_of_getElem? hv')⟩)
      refine ⟨_, rfl, g1, g2, .mar id _ _ t' (List.getElem?_set_self hid) (by omega) rfl (fun _ => .inl ⟨e5, by rw [e4]⟩)⟩
    rcases hv a1.symm with ⟨lv, rfl⟩ | ⟨lv, rfl⟩
    · rcases a4 with ⟨lv', _⟩ | ⟨_, cur, b1, b2, b3, b4, b5, b6⟩
      · rw [lv] at lv'; cases lv'
      · rw [a2]
        rw [hsame] at b2 b5
        have hle : es.length * i.size ≤ cur.size := by rw [b2]; exact Nat.mul_le_mul_right _ b3
        have lo : (cur.toList.take (es.length * i.size)).length = es.length * i.size := by simp; omega
        have horg : ∀ (k : Nat) (x : GV) (j : Nat) (g : GV) (v : Value), es[k]? = some x → x.cells[j]? = some g → (cur.toList.take (es.length * i.size))[k * i.size + j]? = some v → RG c.w c.stab g v ∧ v.oneCell' = true := by
          intro k x j g v hx hg hv'
          rw [List.getElem?_take] at hv'
          split at hv'
          · have := b6 k x j g v hx hg (by rw [hsame]; simpa using hv')
            exact this
          · cases hv'
        by_cases hroom : es.length + xs.length ≤ tk.cap
        · have hfit' : es.length * i.size + news.length ≤ cur.size := by
            rw [ln, b2, ← Nat.add_mul]; exact Nat.mul_le_mul_right _ hroom
          rw [run_append_room c.w t o.type e i ht hi tk.g es.length tk.cap cur b1 a xs.length m news ln hnews hn1 hroom hfit']
          have := fin (c.w.setRow tk.g (cur.toList.take (es.length * i.size) ++ news ++ cur.toList.drop (es.length * i.size + news.length)).toArray) { tk with gen := n + xs.length, len := es.length + xs.length } (cur.toList.take (es.length * i.size)) (cur.toList.drop (es.length * i.size + news.length)) _ hsame rfl rfl lv rfl rfl rfl (by simp) (fun b hb h => setRow_other c.w tk.g b _ (h lv)) (.inl ⟨lv, rfl⟩) (setRow_heap c.w tk.g cur _ e (0, 0) b1) rfl ?_ b4 hroom lo b5 horg
          · exact this
          · simp only [List.size_toArray, List.length_append, lo, List.length_drop, Array.length_toList]
            rw [b2] at hfit' ⊢
            show _ = tk.cap * i.size
            omega
        · have hg : tk.cap < es.length + xs.length := by omega
          have h63 : ((es.length + xs.length : Nat) : Int) ≤ 9223372036854775807 := by simp only [maxLen] at hmax; omega
          have hocell : ∀ j v, (cur.toList.take (es.length * i.size))[j]? = some v → c.w.cell? ((⟨tk.g, 0, none⟩ : Addr).add j) = some v := by
            intro j v hj
            rw [List.getElem?_take] at hj
            split at hj
            · rw [add_eq _ _ rfl]
              rw [show ((⟨tk.g, 0, none⟩ : Addr).off + j) = j by simp]
              show c.w.cell? ⟨tk.g, j, none⟩ = some v
              rw [cell_of_row c.w tk.g j cur e (0, 0) b1]
              simpa using hj
            · cases hj
          rw [run_append_grow c.w t o.type e i z ht hi hiz ⟨tk.g, 0, none⟩ es.length tk.cap (cur.toList.take (es.length * i.size)) lo hocell a xs.length m news ln hnews hg h63 (growslice_fits hg hfit)]
          have hge := grownCap_ge c.w (es.length + xs.length) tk.cap e
          have := fin (c.w.drew.alloc (.cells ((cur.toList.take (es.length * i.size)).toArray ++ news.toArray ++ Builtin.zeroCells z.cells (grownCap c.w (es.length + xs.length) tk.cap e - (es.length + xs.length))) e)) ⟨true, c.w.heap.size, i.size, n + xs.length, es.length + xs.length, grownCap c.w (es.length + xs.length) tk.cap e⟩ (cur.toList.take (es.length * i.size)) (Builtin.zeroCells z.cells (grownCap c.w (es.length + xs.length) tk.cap e - (es.length + xs.length))).toList _ rfl rfl rfl rfl rfl rfl rfl (by simp) (fun b hb _ => Go.heap_alloc_old c.w.drew _ b hb) (.inr ⟨Nat.le_refl _, by simp⟩) (Go.heap_alloc_new c.w.drew _) (by simp) ?_ (grownCap_le_maxLen _ _ _ _ hmax) hge lo b5 horg
          · exact this
          · simp only [Array.size_append, List.size_toArray, size_zeroCells, hzs, lo, ln]
            rw [← Nat.add_mul, ← Nat.add_mul]
            congr 1
            omega
    · have he0 : es = [] := by
        rcases a4 with ⟨_, h⟩ | ⟨lv', _⟩
        · exact h
        · rw [lv] at lv'; cases lv'
      subst he0
      have h63 : (xs.length : Int) ≤ 9223372036854775807 := by simp only [maxLen, List.length_nil] at hmax; omega
      have hfit' : xs.length * i.bytes ≤ 140737488355328 := by simpa using hfit
      rw [run_append_nil c.w t o.type e i z ht hi hiz a xs.length m news ln hnews hpos h63 (by omega)]
      have hge := grownCap_ge c.w xs.length 0 e
      have := fin (c.w.drew.alloc (.cells (news.toArray ++ Builtin.zeroCells z.cells (grownCap c.w xs.length 0 e - xs.length)) e)) ⟨true, c.w.heap.size, i.size, n + xs.length, xs.length, grownCap c.w xs.length 0 e⟩ [] (Builtin.zeroCells z.cells (grownCap c.w xs.length 0 e - xs.length)).toList _ rfl rfl (by simp) rfl rfl rfl rfl (by simp) (fun b hb _ => Go.heap_alloc_old c.w.drew _ b hb) (.inr ⟨Nat.le_refl _, by simp⟩) (Go.heap_alloc_new c.w.drew _) (by simp) (by
        simp only [Array.size_append, List.size_toArray, size_zeroCells, hzs, ln]
        rw [← Nat.add_mul]
        congr 1
        omega) (grownCap_le_maxLen _ _ _ _ (by simpa using hmax)) (by simpa using hge) (by simp) (by simp) (by simp)
      simpa using this

/-- The same of bytes. -/
theorem PO_mappb {x y : Operand} {t e : TypeId} {b : List UInt8} {xs : List GV} {id n bytes : Nat} {z : Value} (l : List UInt8) (ho : o.op = .call { callee := .builtin .append, args := ⟨[x, y]⟩, argTypes := ⟨[t, t]⟩ })
    (ht : P.underlying t = some (.slice e)) (hs : szB P e = some 1) (hby : bytesB P e = some bytes) (hz : zeroB P e = some z) (hzs : Nat.beq z.cells.size 1 = true) (hx : ρ x = .mar id n) (hy : elems (ρ y) = some xs)
    (hm : H.mu[id]? = some (.arr n e (bys b))) (hxs : xs = bys l) (hfit : (b.length + l.length) * bytes ≤ 140737488355328) (hmax : b.length + l.length ≤ maxLen) :
    PO P o ρ H (.mar id (n + l.length)) ⟨H.bx, H.tk, H.mu.set id (.arr (n + l.length) e (bys (b ++ l)))⟩ := by
  subst hxs
  have h1 : (bys b).length = b.length := by simp [bys]
  have h2 : (bys l).length = l.length := by simp [bys]
  have := PO_mappend (ρ := ρ) (H := H) ho ht hs hby hz hzs hx hy hm (by intro x hx; obtain ⟨v, _, rfl⟩ := List.mem_map.1 hx; rfl) (by rw [h1, h2]; exact hfit) (by rw [h1, h2]; exact hmax)
  rw [h2] at this
  have e : bys b ++ bys l = bys (b ++ l) := by simp [bys]
  rw [e] at this
  exact this
end
end Go.Pure

/- A generic layer: arrays that may be written, in regions that draw their order. -/
namespace Go.Pure
open Go

section
variable {P : Program} {o : Oper} {env : Env} {H : PH} {K : List Nat}

theorem sh_arr {x : Option MO} {n e len : Nat} (h : shM x = some (1, n, e, len)) : ∃ es, x = some (.arr n e es) ∧ es.length = len := by
  unfold shM at h
  split at h
  · cases h
  · cases h
  · cases h; exact ⟨_, rfl, rfl⟩
  · cases h
theorem KSh.set {id n e : Nat} {es es' : List GV} (hm : H.mu[id]? = some (.arr n e es)) (hl : es'.length = es.length) : ∀ K : List Nat, KSh K H ⟨H.bx, H.tk, H.mu.set id (.arr n e es')⟩
  | [] => trivial
  | b :: K => by
    refine ⟨?_, KSh.set hm hl K⟩
    cases Nat.ble 10000 b
    · trivial
    · simp only [cond_true]
      by_cases h : b - 10000 = id
      · rw [h, hm, List.getElem?_set_self (List.getElem?_eq_some_iff.1 hm).1]
        simp [shM, hl]
      · rw [List.getElem?_set_ne (fun e => h e.symm)]
theorem KSh.arr {H1 : PH} (h : KSh K H H1) {id n e len : Nat} (hK : memB K (10000 + id) = true) (hm : shM H.mu[id]? = some (1, n, e, len)) : ∃ es, H1.mu[id]? = some (.arr n e es) ∧ es.length = len :=
  sh_arr ((h.at id (memB_iff.1 hK)).symm.trans hm)

theorem Cond_mindex {x y : Operand} {t e e' : TypeId} {id n m len : Nat} {k : IntKind} {i : Int} (hK : memB K (10000 + id) = true) (ho : o.op = .indexAddr t x y) (ht : P.underlying t = some (.slice e)) (hs : szB P e = some m) (hx' : env.eval x = .mar id n) (hi : env.eval y = .g (.int k i))
    (hm : shM H.mu[id]? = some (1, n, e', len)) (he : szB P e' = some m) (h0 : 0 ≤ i) (hlt : i < len) : Cond P K o env H (.mref id n i.toNat 0) H :=
  .inl ⟨by rw [ho]; rfl, rfl, fun H1 hq => by
    obtain ⟨es, h1, h2⟩ := hq.arr hK hm
    exact PO_mindex ho ht hs hx' hi h1 he h0 (by rw [h2]; exact hlt)⟩
theorem Cond_mlen {x : Operand} {t e e' : TypeId} {id n len : Nat} (hK : memB K (10000 + id) = true) (ho : o.op = .call { callee := .builtin .len, args := #[x], argTypes := #[t] }) (ht : P.underlying t = some (.slice e)) (hx' : env.eval x = .mar id n) (hm : shM H.mu[id]? = some (1, n, e', len)) :
    Cond P K o env H (.g (.int .i64 len)) H :=
  .inl ⟨by rw [ho]; rfl, rfl, fun H1 hq => by
    obtain ⟨es, h1, h2⟩ := hq.arr hK hm
    rw [← h2]
    exact PO_mlen ho ht hx' h1⟩
theorem Cond_mload {t : TypeId} {x : Operand} {id n i off : Nat} {e : TypeId} {es : List GV} {x' g : GV} (hK : memB K (10000 + id) = true) (ho : o.op = .load t x) (h1 : aggB P t = some false) (hp : env.eval x = .mref id n i off)
    (hm : H.mu[id]? = some (.arr n e es)) (hx' : es[i]? = some x') (hg : x'.cells[off]? = some g) : Cond P K o env H (.g g) H :=
  .inr (.inl ⟨by rw [ho]; rfl, rfl, fun H1 hq => PO_load_mref_one ho h1 hp ((hq.mu id (memB_iff.1 hK)) ▸ hm) hx' hg⟩)
theorem Cond_mstore {t : TypeId} {x y : Operand} {id n i off m : Nat} {e : TypeId} {es : List GV} {x' : GV} {ps : List PV} {cs : List GV} (ho : o.op = .store t x y) (hs : szB P t = some m) (hp : env.eval x = .mref id n i off) (hc : pvCells (env.eval y) = some ps) (hg : allG ps = some cs) (hn : cs.length = m) (hpos : 0 < m)
    (hm : H.mu[id]? = some (.arr n e es)) (hx' : es[i]? = some x') (hfit : off + m ≤ x'.cells.length) :
    Cond P K o env H undefP ⟨H.bx, H.tk, H.mu.set id (.arr n e (es.set i (setCells x' off cs)))⟩ :=
  .inr (.inr (.inr ⟨by rw [ho]; rfl, PO_store_mref ho hs hp hc hg hn hpos hm hx' hfit, KSh.set hm (by simp) K⟩))
end
end Go.Pure

/- A generic layer: boxes and arrays that are forgotten at a round's end, and where ways meet. -/
namespace Go.Pure
open Go

theorem slots_refs {nb nt nm : Nat} : ∀ {l : List (Nat × PV)}, refsOkL nb nt nm (l.map (·.2)) = true → ∀ t, RefsIn nb nt nm (slots l t)
  | [], _, t => by simp only [slots]; exact .any
  | (k, p) :: r, h, t => by
    simp only [List.map_cons, refsOkL, Bool.and_eq_true] at h
    simp only [slots]
    cases Nat.beq t k
    · rw [cond_false]; exact slots_refs h.2 t
    · rw [cond_true]; exact refsOk_spec h.1

section
variable {P : Program} {N : Nat} {Q : Exit → Env → PH → Prop} {env : Env} {H : PH}

/-- More is there than is told. -/
def Drops (P : Program) (H1 H' : PH) : Prop := ∃ x y z, HLe P H1 ⟨H'.bx ++ x, H'.tk ++ y, H'.mu ++ z⟩
theorem Drops.of_le {H1 H' : PH} (h : HLe P H1 H') : Drops P H1 H' := ⟨[], [], [], by simpa using h⟩
theorem Drops.mk {H1 H' : PH} (x : List (List PV)) (y : List (TypeId × Nat)) (z : List MO) (h : H1 = ⟨H'.bx ++ x, H'.tk ++ y, H'.mu ++ z⟩) : Drops P H1 H' := ⟨x, y, z, HLe.of_eq h⟩

/-- What a frame and a state tell alone. -/
def fitB (H H' : PH) (E : List (Nat × PV)) : Bool :=
  Nat.ble H.bx.length H'.bx.length && (Nat.ble H.tk.length H'.tk.length && (Nat.ble H.mu.length H'.mu.length && (refsOkL H'.bx.length H'.tk.length H'.mu.length (E.map (·.2)) && refsOkB H'.bx.length H'.tk.length H'.mu.length H'.bx)))

theorem cut_back {c c2 : Ctx} {H' H2 : PH} {E : List (Nat × PV)} {env2 : Env} {a : Act} (hr : Rel P c H) (hf : fitB H H' E = true) (hr2 : Rel P c2 H2) (hE : Evo c c2) (he : ER c2 N env2 a) (hle : EnvLe env2 (slots E)) (hd : Drops P H2 H') :
    ∃ c3, c3.w = c2.w ∧ Rel P c3 H' ∧ Evo c c3 ∧ ER c3 N (slots E) a := by
  unfold fitB at hf
  simp only [Bool.and_eq_true] at hf
  obtain ⟨f1, f2, f3, f4, f5⟩ := hf
  obtain ⟨x, y, z, hx⟩ := hd
  have hr3 := hx c2 hr2
  have he3 := hle.er he
  refine ⟨c2.cut H'.bx.length H'.tk.length H'.mu.length, rfl, hr3.cut ⟨x, rfl⟩ ⟨y, rfl⟩ ⟨z, rfl⟩ (refsOkB_spec f5), hE.cut ?_ ?_ ?_, ⟨he3.defers, he3.size, fun t => (he3.slot t).cut (slots_refs f4 t)⟩⟩
  · rw [hr.len]; exact Nat.le_of_ble_eq_true f1
  · have := congrArg List.length hr.tk; simp at this; have := Nat.le_of_ble_eq_true f2; omega
  · rw [hr.mlen]; exact Nat.le_of_ble_eq_true f3

/-- A LOOP whose rounds leave boxes and arrays behind that nobody names any more. -/
theorem PW_loop_cut {S : Type} {body : Code} (E : S → List (Nat × PV)) (F : S → PH) (Inv : S → Prop) (μ : S → Nat) (s0 : S) (hi : Inv s0) (h1 : EnvLe env (slots (E s0))) (h2 : HLe P H (F s0)) (hf : ∀ s, fitB H (F s) (E s) = true)
    (round : ∀ s, Inv s → PW P N body (Next (fun env' H' => ∃ s', Inv s' ∧ μ s' < μ s ∧ EnvLe env' (slots (E s')) ∧ Drops P H' (F s')) Q) (slots (E s)) (F s)) : PW P N (.loop body) Q env H := by
  intro c a hr he
  refine wp_loop_ghost (fun n a w => ∃ s c', Inv s ∧ μ s = n ∧ c'.w = w ∧ Rel P c' (F s) ∧ Evo c c' ∧ ER c' N (slots (E s)) a) (μ s0) ⟨s0, c, hi, rfl, rfl, h2 c hr, Evo.refl c, h1.er he⟩ ?_
  rintro n a w ⟨s, c1, hInv, rfl, rfl, hr1, hE1, he1⟩
  refine wp_mono (round s hInv c1 a hr1 he1) ?_
  rintro e a' w' ⟨c2, env2, H2, q, rfl, hr2, hE2, he2⟩
  cases e <;> simp only [Next] at q <;> simp only [Exit.then]
  case normal =>
    obtain ⟨s', hi', hlt, e1, e2⟩ := q
    obtain ⟨c3, w3, r3, v3, x3⟩ := cut_back hr (hf s') hr2 (hE1.trans hE2) he2 e1 e2
    exact ⟨μ s', hlt, s', c3, hi', rfl, w3, r3, v3, x3⟩
  all_goals exact ⟨c2, env2, H2, q, rfl, hr2, hE1.trans hE2, he2⟩

/-- Ways meet; what they leave behind is forgotten. -/
theorem PW_cutd {x y : Code} (E : List (Nat × PV)) (H' : PH) (hf : fitB H H' E = true) (h1 : PW P N x (Next (fun env' H1 => EnvLe env' (slots E) ∧ Drops P H1 H') Q) env H) (h2 : PW P N y Q (slots E) H') : PW P N (.seq x y) Q env H := by
  intro c a hr he
  refine wp_seq (wp_mono (h1 c a hr he) ?_)
  rintro e a' w' ⟨c', env', H1, q, rfl, hr', hE, he'⟩
  cases e <;> simp only [Next] at q <;> simp only [Exit.then]
  case normal =>
    obtain ⟨c3, w3, r3, v3, x3⟩ := cut_back hr hf hr' hE he' q.1 q.2
    have := h2 c3 a' r3 x3
    rw [w3] at this
    exact wp_mono this fun _ _ _ h => QR.mono v3 (fun _ _ _ h => h) h
  all_goals exact ⟨c', env', H1, q, rfl, hr', hE, he'⟩
end
end Go.Pure

/- A generic layer: slices that are made, and appended to. -/
namespace Go.Pure
open Go

section
variable {P : Program} {o : Oper} {ρ : Operand → PV} {H : PH}

theorem PO_buildSlice_own {t n e size : Nat} {parts : Array (Nat × Operand)} {z : Value} {b : Bool} {cs : List PV} {gs : List GV} (ho : o.op = .buildSlice t n parts) (he : P.underlying t = some (.slice e)) (hs : szB P e = some size) (_ha : aggB P e = some b)
    (hz : zeroB P e = some z) (hz1 : z.cells.toList.all (·.oneCell') = true) (hzs : Nat.beq z.cells.size size = true) (hpos : Nat.ble 1 size = true) (hb : (b || Nat.beq size 1) = true) (hn : Nat.ble (n * size) 16777216 = true)
    (hfill : fillP (fun i => some (i * size, size)) (zerosP z n) (partsP ρ parts.toList) = some cs) (hg : allG cs = some gs) : PO P o ρ H (.own (group b size n gs) H.tk.length) ⟨H.bx, H.tk ++ [(e, n)], H.mu⟩ := by
  intro c ρr hr hx
  have hzs := Nat.eq_of_beq_eq_true hzs
  have hpos := Nat.le_of_ble_eq_true hpos
  have hn := Nat.le_of_ble_eq_true hn
  subst hzs
  obtain ⟨vs, hv1, hv2⟩ := fill_ok (c := c) (partsP ρ parts.toList) ((parts.map fun (i, x) => (i, ρr x)).toList) (zerosP z n) _ cs (zeros_ok c hz1 hpos n) (by simp [partsP_eq]) (by
    intro k x y hx1 hy
    rw [partsP_eq] at hx1
    simp only [List.getElem?_map, Option.map_eq_some_iff, Array.toList_map] at hx1 hy
    obtain ⟨q, hq, rfl⟩ := hx1
    obtain ⟨q', hq', rfl⟩ := hy
    rw [hq] at hq'
    cases hq'
    exact ⟨rfl, hx q.2 (by
      rw [ho]
      simpa [Op.operands] using ⟨q.1, by simpa using List.mem_of_getElem? hq⟩)⟩) hfill
  have hv1 : Instr.fill (fun i => some (i * z.cells.size, z.cells.size)) ((Array.range (n * z.cells.size)).map (z.cells[· % z.cells.size]!)) (List.map (fun x => (x.1, ρr x.2)) parts.toList) = some vs := by simpa using hv1
  have hrun : (execOp ρr o).run P c.w = .ok (.value (.slice (some ⟨c.w.heap.size, 0, none⟩) n n)) (c.w.alloc (.cells vs e)) := by
    have hne : ¬ (n * z.cells.size > 2 ^ 24) := by simp only [Nat.reducePow]; omega
    by_cases h0 : n * z.cells.size = 0
    · obtain rfl : n = 0 := by
        rcases Nat.mul_eq_zero.1 h0 with h | h
        · exact h
        · omega
      have e0 : ∀ f : Nat → Value, (Array.range (0 * z.cells.size)).map f = #[] := fun f => by simp
      rw [e0] at hv1
      have e1 : Array.map (fun _ : Nat => (default : Value)) (Array.range 0) = #[] := by simp
      simp [execOp, ho, Instr.buildSlice, run_underlying he, run_sizeOf hs, newRow, newObj, e1, hv1, Sem.run]
    · simp [execOp, ho, Instr.buildSlice, run_underlying he, run_sizeOf hs, hne, h0, run_zero hz, newRow, newObj, hv1, Sem.run]
  unfold OpGoes
  rw [hrun]
  have hcells : gs.length = vs.size := by rw [(allG_ok (c := c) hg).1, hv2.1]
  have hcs : ∀ (k : Nat) (g : GV) (v : Value), gs[k]? = some g → vs[k]? = some v → RG c.w c.stab g v ∧ v.oneCell' = true := by
    intro k g v hgk hvk
    have hlt : k < cs.length := by rw [← (allG_ok (c := c) hg).1]; exact (List.getElem?_eq_some_iff.1 hgk).1
    obtain ⟨r1, r2⟩ := hv2.2 k cs[k] v (List.getElem?_eq_getElem hlt) hvk
    exact ⟨(allG_ok (c := c) hg).2 k g cs[k] hgk (List.getElem?_eq_getElem hlt) v r1, r2⟩
  have hvsz : vs.size = n * z.cells.size := by
    rw [hv2.1]
    have : ∀ (ps : List (Nat × PV)) (l l' : List PV), fillP (fun i => some (i * z.cells.size, z.cells.size)) l ps = some l' → l'.length = l.length := by
      intro ps
      induction ps with
      | nil => intro l l' h; simp [fillP] at h; rw [h]
      | cons p ps ih =>
        obtain ⟨i, p⟩ := p
        intro l l' h
        unfold fillP at h
        split at h
        · rename_i off n' ds hpl hds
          cases hb : (Nat.beq ds.length n' && Nat.ble (off + n') l.length) with
          | false => rw [hb] at h; cases h
          | true =>
            rw [hb, cond_true] at h
            rw [ih _ _ h]
            simp only [Bool.and_eq_true] at hb
            have e1 := Nat.eq_of_beq_eq_true hb.1
            have e2 := Nat.le_of_ble_eq_true hb.2
            simp [splice]; omega
        · cases h
    rw [this _ _ _ hfill, zerosP_length]
  have hone : b = false → z.cells.size = 1 ∧ ∀ g ∈ gs, g.cells = [g] := fun e => by
    subst e
    refine ⟨Nat.eq_of_beq_eq_true (by simpa using hb), fun g hg' => ?_⟩
    obtain ⟨k, hk⟩ := List.getElem?_of_mem hg'
    have hlt : k < vs.size := by rw [← hcells]; exact (List.getElem?_eq_some_iff.1 hk).1
    obtain ⟨r1, r2⟩ := hcs k g vs[k] hk (by simp [hlt])
    exact r1.cells_one r2
  have hlen : (group b z.cells.size n gs).length = n := group_length n gs b (fun e => (hone e).1) (by rw [hcells, hvsz])
  have hget := group_get n gs b hone (by rw [hcells, hvsz])
  have hle : n ≤ n * z.cells.size := Nat.le_mul_of_pos_right _ hpos
  obtain ⟨hr', hE⟩ := hr.addTok (Ext.alloc c.w (.cells vs e)) (t := ⟨true, c.w.heap.size, e, z.cells.size, n, n⟩) rfl (Nat.le_refl _) (Go.heap_alloc_new c.w _) hvsz (Nat.le_refl _) (by simp only [maxLen]; omega) hs
  have hR : RG (c.w.alloc (.cells vs e)) (Ctx.stab ⟨c.σ, c.τ ++ [⟨true, c.w.heap.size, e, z.cells.size, n, n⟩], c.μ, c.hid, c.w.alloc (.cells vs e)⟩) (.sl (group b z.cells.size n gs)) (.slice (some ⟨c.w.heap.size, 0, none⟩) n n) := by
    have := RG_row (w := c.w.alloc (.cells vs e)) (S := Ctx.stab ⟨c.σ, c.τ ++ [⟨true, c.w.heap.size, e, z.cells.size, n, n⟩], c.μ, c.hid, c.w.alloc (.cells vs e)⟩) (es := group b z.cells.size n gs) (size := z.cells.size) (cap := n) (Go.heap_alloc_new c.w _) (fun i x hx => (hget i x hx).1) (by omega) (by simp only [maxLen]; omega) (by rw [hlen, hvsz]; exact Nat.le_refl _) (fun p hp => by
      rw [hlen] at hp
      refine ⟨fun h => ?_, fun h => ?_, fun t ht lv e' => ?_, fun t ht lv e' => ?_⟩
      · have := hr.hidlt _ _ h; omega
      · have := hr.shid _ h; omega
      · rcases List.mem_append.1 ht with ht | ht
        · have := hr.tlt ht lv; omega
        · simp only [List.mem_singleton] at ht; subst ht; exact hp
      · have := hr.mlt t ht lv; omega) (fun k hk => ?_) (fun i x j g v hx hg' hv => ?_)
    · rw [hlen] at this; exact this
    · rw [hlen, ← hvsz] at hk
      refine ⟨vs[k], by simp [hk], ?_⟩
      have hk' : k < gs.length := by rw [hcells]; exact hk
      exact (hcs k gs[k] vs[k] (List.getElem?_eq_getElem hk') (by simp [hk])).2
    · exact (hcs _ g v ((hget i x hx).2 j g hg') hv).1.mono hE.keep
  refine ⟨_, rfl, hr', hE, .own _ _ _ ⟨true, c.w.heap.size, e, z.cells.size, n, n⟩ hR ?_ (fun i x hx => (hget i x hx).1) (Nat.le_of_eq hlen) (fun _ => .inl ⟨rfl, by rw [hlen]⟩)⟩
  show (c.τ ++ [_])[H.tk.length]? = _
  have : c.τ.length = H.tk.length := by rw [← hr.tk]; simp
  rw [← this]; simp

/-- What an operation makes, and nobody writes any more. -/
theorem PO_frz {id n : Nat} {e : TypeId} {es : List GV} {H1 : PH} (h : PO P o ρ H (.mar id n) H1) (hm : H1.mu[id]? = some (.arr n e es)) : PO P o ρ H (.g (.sl es)) ⟨frzB id n es H1.bx, H1.tk, H1.mu.set id (.gone (n + 1))⟩ := by
  intro c ρr hr hx
  have := h c ρr hr hx
  unfold OpGoes at this ⊢
  have key : ∀ rv w', (∃ c', c'.w = w' ∧ Rel P c' H1 ∧ Evo c c' ∧ RV c' (.mar id n) rv) → ∃ c', c'.w = w' ∧ Rel P c' ⟨frzB id n es H1.bx, H1.tk, H1.mu.set id (.gone (n + 1))⟩ ∧ Evo c c' ∧ RV c' (.g (.sl es)) rv := by
    rintro rv w' ⟨c', rfl, hr', hE, hv⟩
    obtain ⟨c2, hw, r2, e2, f2⟩ := hr'.freeze hm
    have h3 := f2 _ _ hv
    simp only [frz, Nat.beq_refl, Bool.and_self, cond_true] at h3
    exact ⟨c2, hw, r2, hE.trans e2, h3⟩
  generalize (execOp ρr o).run P c.w = r at this ⊢
  cases r with
  | ok nx w' =>
    cases nx
    case value v => exact key _ _ this
    case skip => exact key _ _ this
    case enter f args => exact this.mono fun e w'' ⟨rv, he, hR⟩ => ⟨rv, he, key _ _ hR⟩
    all_goals exact this.elim
  | halt x w' => exact this.elim
end
end Go.Pure

/- A generic layer: slices that are written out, and appended to. -/
namespace Go.Pure
open Go

section
variable {P : Program} {o : Oper} {ρ : Operand → PV} {H : PH}

theorem PO_buildSlice_lit {t n e size : Nat} {parts : Array (Nat × Operand)} {z : Value} {b : Bool} {cs : List PV} {gs : List GV} (ho : o.op = .buildSlice t n parts) (he : P.underlying t = some (.slice e)) (hs : szB P e = some size) (_ha : aggB P e = some b)
    (hz : zeroB P e = some z) (hz1 : z.cells.toList.all (·.oneCell') = true) (hzs : Nat.beq z.cells.size size = true) (hpos : Nat.ble 1 size = true) (hb : (b || Nat.beq size 1) = true) (hn : Nat.ble (n * size) 16777216 = true)
    (hfill : fillP (fun i => some (i * size, size)) (zerosP z n) (partsP ρ parts.toList) = some cs) (hg : allG cs = some gs) : PO P o ρ H (.lit (group b size n gs)) H := by
  intro c ρr hr hx
  have hzs := Nat.eq_of_beq_eq_true hzs
  have hpos := Nat.le_of_ble_eq_true hpos
  have hn := Nat.le_of_ble_eq_true hn
  subst hzs
  obtain ⟨vs, hv1, hv2⟩ := fill_ok (c := c) (partsP ρ parts.toList) ((parts.map fun (i, x) => (i, ρr x)).toList) (zerosP z n) _ cs (zeros_ok c hz1 hpos n) (by simp [partsP_eq]) (by
    intro k x y hx1 hy
    rw [partsP_eq] at hx1
    simp only [List.getElem?_map, Option.map_eq_some_iff, Array.toList_map] at hx1 hy
    obtain ⟨q, hq, rfl⟩ := hx1
    obtain ⟨q', hq', rfl⟩ := hy
    rw [hq] at hq'
    cases hq'
    exact ⟨rfl, hx q.2 (by
      rw [ho]
      simpa [Op.operands] using ⟨q.1, by simpa using List.mem_of_getElem? hq⟩)⟩) hfill
  have hv1 : Instr.fill (fun i => some (i * z.cells.size, z.cells.size)) ((Array.range (n * z.cells.size)).map (z.cells[· % z.cells.size]!)) (List.map (fun x => (x.1, ρr x.2)) parts.toList) = some vs := by simpa using hv1
  have hrun : (execOp ρr o).run P c.w = .ok (.value (.slice (some ⟨c.w.heap.size, 0, none⟩) n n)) (c.w.alloc (.cells vs e)) := by
    have hne : ¬ (n * z.cells.size > 2 ^ 24) := by simp only [Nat.reducePow]; omega
    by_cases h0 : n * z.cells.size = 0
    · obtain rfl : n = 0 := by
        rcases Nat.mul_eq_zero.1 h0 with h | h
        · exact h
        · omega
      have e0 : ∀ f : Nat → Value, (Array.range (0 * z.cells.size)).map f = #[] := fun f => by simp
      rw [e0] at hv1
      have e1 : Array.map (fun _ : Nat => (default : Value)) (Array.range 0) = #[] := by simp
      simp [execOp, ho, Instr.buildSlice, run_underlying he, run_sizeOf hs, newRow, newObj, e1, hv1, Sem.run]
    · simp [execOp, ho, Instr.buildSlice, run_underlying he, run_sizeOf hs, hne, h0, run_zero hz, newRow, newObj, hv1, Sem.run]
  unfold OpGoes
  rw [hrun]
  obtain ⟨hr', hE⟩ := hr.grow (Ext.alloc c.w (.cells vs e))
  have hcells : gs.length = vs.size := by rw [(allG_ok (c := c) hg).1, hv2.1]
  have hcs : ∀ (k : Nat) (g : GV) (v : Value), gs[k]? = some g → vs[k]? = some v → RG c.w c.stab g v ∧ v.oneCell' = true := by
    intro k g v hgk hvk
    have hlt : k < cs.length := by rw [← (allG_ok (c := c) hg).1]; exact (List.getElem?_eq_some_iff.1 hgk).1
    obtain ⟨r1, r2⟩ := hv2.2 k cs[k] v (List.getElem?_eq_getElem hlt) hvk
    exact ⟨(allG_ok (c := c) hg).2 k g cs[k] hgk (List.getElem?_eq_getElem hlt) v r1, r2⟩
  have hvsz : vs.size = n * z.cells.size := by
    rw [hv2.1]
    have : ∀ (ps : List (Nat × PV)) (l l' : List PV), fillP (fun i => some (i * z.cells.size, z.cells.size)) l ps = some l' → l'.length = l.length := by
      intro ps
      induction ps with
      | nil => intro l l' h; simp [fillP] at h; rw [h]
      | cons p ps ih =>
        obtain ⟨i, p⟩ := p
        intro l l' h
        unfold fillP at h
        split at h
        · rename_i off n' ds hpl hds
          cases hb : (Nat.beq ds.length n' && Nat.ble (off + n') l.length) with
          | false => rw [hb] at h; cases h
          | true =>
            rw [hb, cond_true] at h
            rw [ih _ _ h]
            simp only [Bool.and_eq_true] at hb
            have e1 := Nat.eq_of_beq_eq_true hb.1
            have e2 := Nat.le_of_ble_eq_true hb.2
            simp [splice]; omega
        · cases h
    rw [this _ _ _ hfill, zerosP_length]
  have hone : b = false → z.cells.size = 1 ∧ ∀ g ∈ gs, g.cells = [g] := fun e => by
    subst e
    refine ⟨Nat.eq_of_beq_eq_true (by simpa using hb), fun g hg' => ?_⟩
    obtain ⟨k, hk⟩ := List.getElem?_of_mem hg'
    have hlt : k < vs.size := by rw [← hcells]; exact (List.getElem?_eq_some_iff.1 hk).1
    obtain ⟨r1, r2⟩ := hcs k g vs[k] hk (by simp [hlt])
    exact r1.cells_one r2
  have hlen : (group b z.cells.size n gs).length = n := group_length n gs b (fun e => (hone e).1) (by rw [hcells, hvsz])
  have hget := group_get n gs b hone (by rw [hcells, hvsz])
  have hR : RG (c.w.alloc (.cells vs e)) (Ctx.stab ⟨c.σ, c.τ, c.μ, c.hid, c.w.alloc (.cells vs e)⟩) (.sl (group b z.cells.size n gs)) (.slice (some ⟨c.w.heap.size, 0, none⟩) (group b z.cells.size n gs).length (group b z.cells.size n gs).length) := by
    have := RG_row (w := c.w.alloc (.cells vs e)) (S := Ctx.stab ⟨c.σ, c.τ, c.μ, c.hid, c.w.alloc (.cells vs e)⟩) (es := group b z.cells.size n gs) (size := z.cells.size) (cap := n) (Go.heap_alloc_new c.w _) (fun i x hx => (hget i x hx).1) (by omega) (by
        have : n ≤ n * z.cells.size := Nat.le_mul_of_pos_right _ hpos
        simp only [maxLen]; omega) (by rw [hlen, hvsz]; exact Nat.le_refl _) (fun p _ => fresh_stab hr (Nat.le_refl _) p) (fun k hk => ?_) (fun i x j g v hx hg' hv => ?_)
    · rw [hlen] at this ⊢; exact this
    · rw [hlen, ← hvsz] at hk
      refine ⟨vs[k], by simp [hk], ?_⟩
      have hk' : k < gs.length := by rw [hcells]; exact hk
      exact (hcs k gs[k] vs[k] (List.getElem?_eq_getElem hk') (by simp [hk])).2
    · exact (hcs _ g v ((hget i x hx).2 j g hg') hv).1.mono hE.keep
  have hv : RV ⟨c.σ, c.τ, c.μ, c.hid, c.w.alloc (.cells vs e)⟩ (.lit (group b z.cells.size n gs)) (.slice (some ⟨c.w.heap.size, 0, none⟩) n n) := by
    have := RV.lit (c := ⟨c.σ, c.τ, c.μ, c.hid, c.w.alloc (.cells vs e)⟩) _ _ hR
    rw [hlen] at this
    exact this
  exact ⟨_, rfl, hr', hE, hv⟩

/-- What is appended to a slice without room is a new array. -/
theorem PO_append_lit {x y : Operand} {t e : TypeId} {es xs : List GV} {size bytes : Nat} {z : Value} (ho : o.op = .call { callee := .builtin .append, args := ⟨[x, y]⟩, argTypes := ⟨[t, t]⟩ })
    (ht : P.underlying t = some (.slice e)) (hs : szB P e = some size) (hby : bytesB P e = some bytes) (hz : zeroB P e = some z) (hzs : Nat.beq z.cells.size size = true) (hx : ρ x = .lit es) (hy : elems (ρ y) = some xs)
    (hes : ∀ x ∈ es, x.cells.length = size) (hxs : ∀ x ∈ xs, x.cells.length = size) (hpos : 0 < xs.length) (hfit : (es.length + xs.length) * bytes ≤ 140737488355328) (hmax : es.length + xs.length ≤ maxLen) :
    PO P o ρ H (.own (es ++ xs) H.tk.length) ⟨H.bx, H.tk ++ [(e, es.length + xs.length)], H.mu⟩ := by
  intro c ρr hr hxx
  have hx1 := hxx x (by simp [ho, Op.operands, Call.operands])
  have hy1 := elems_ok (hxx y (by simp [ho, Op.operands, Call.operands])) hy
  rw [hx] at hx1
  have hzs := Nat.eq_of_beq_eq_true hzs
  obtain ⟨i, hi⟩ : ∃ i, P.info? e = some i := by
    unfold szB at hs
    cases h : P.info? e with
    | none => rw [h] at hs; cases hs
    | some i => exact ⟨i, rfl⟩
  have hisz : i.size = size := by unfold szB at hs; rw [hi] at hs; simpa using hs
  have hiby : i.bytes = bytes := by unfold bytesB at hby; rw [hi] at hby; simpa using hby
  have hiz : i.zero = some z := by
    unfold zeroB at hz; rw [hi] at hz; simpa using hz
  subst hisz; subst hiby
  generalize hvx : ρr x = v at hx1
  generalize hvy : ρr y = u at hy1
  have hop : (execOp ρr o).run P c.w = ((Builtin.append_ #[t, t] o.type #[v, u]).run P c.w).andThen fun r w => .ok (.value r) w := by
    simp [execOp, ho, resolve, invoke, builtin, hvx, hvy]
  unfold OpGoes
  rw [hop]
  obtain ⟨a, m, news, rfl, ln, hnews, hn1, hnrg⟩ := slice_cells hy1 hxs (by rintro rfl; simp at hpos)
  cases hx1 with
  | lit _ b hrg =>
  obtain ⟨olds, lo, hocell, ho1, horg⟩ : ∃ olds : List Value, olds.length = es.length * i.size ∧ (∀ j v, olds[j]? = some v → c.w.cell? (b.add j) = some v) ∧ (∀ v ∈ olds, v.oneCell' = true) ∧
      ∀ (k : Nat) (x : GV) (j : Nat) (g : GV) (v : Value), es[k]? = some x → x.cells[j]? = some g → olds[k * i.size + j]? = some v → RG c.w c.stab g v := by
    by_cases hes0 : es = []
    · subst hes0; exact ⟨[], by simp, by simp, by simp, by simp⟩
    · obtain ⟨a', m', olds, e1, l1, l2, l3, l4⟩ := slice_cells hrg hes hes0
      cases e1
      exact ⟨olds, l1, l2, l3, l4⟩
  have hg : es.length < es.length + xs.length := by omega
  have h63 : ((es.length + xs.length : Nat) : Int) ≤ 9223372036854775807 := by simp only [maxLen] at hmax; omega
  rw [run_append_grow c.w t o.type e i z ht hi hiz b es.length es.length olds lo hocell a xs.length m news ln hnews hg h63 (growslice_fits hg hfit)]
  have hge := grownCap_ge c.w (es.length + xs.length) es.length e
  generalize hw' : c.w.drew.alloc (.cells (olds.toArray ++ news.toArray ++ Builtin.zeroCells z.cells (grownCap c.w (es.length + xs.length) es.length e - (es.length + xs.length))) e) = w'
  have hext : Ext c.w w' := by rw [← hw']; exact (Ext.drew c.w).trans (Ext.alloc _ _)
  have hblk : w'.heap[c.w.heap.size]? = some (.cells (olds.toArray ++ news.toArray ++ Builtin.zeroCells z.cells (grownCap c.w (es.length + xs.length) es.length e - (es.length + xs.length))) e (0, 0)) := by
    rw [← hw']; exact Go.heap_alloc_new c.w.drew _
  have hsz : (olds.toArray ++ news.toArray ++ Builtin.zeroCells z.cells (grownCap c.w (es.length + xs.length) es.length e - (es.length + xs.length))).size = grownCap c.w (es.length + xs.length) es.length e * i.size := by
    simp only [Array.size_append, List.size_toArray, size_zeroCells, hzs, lo, ln]
    rw [← Nat.add_mul, ← Nat.add_mul]
    congr 1
    omega
  have hcm := grownCap_le_maxLen c.w (es.length + xs.length) es.length e hmax
  obtain ⟨hr', hE⟩ := hr.addTok hext (t := ⟨true, c.w.heap.size, e, i.size, grownCap c.w (es.length + xs.length) es.length e, es.length + xs.length⟩) rfl (Nat.le_refl _) hblk hsz hge hcm hs
  have hR := RG_appended (w := w') (S := Ctx.stab ⟨c.σ, c.τ ++ [⟨true, c.w.heap.size, e, i.size, grownCap c.w (es.length + xs.length) es.length e, es.length + xs.length⟩], c.μ, c.hid, w'⟩) (es := es) (xs := xs) (size := i.size) (olds := olds) (news := news)
    (rest := (Builtin.zeroCells z.cells (grownCap c.w (es.length + xs.length) es.length e - (es.length + xs.length))).toList) hblk (by simp) lo ln hes hxs hge hcm (fun p hp => by
      refine ⟨fun h => ?_, fun h => ?_, fun t ht lv e' => ?_, fun t ht lv e' => ?_⟩
      · have := hr.hidlt _ _ h; omega
      · have := hr.shid _ h; omega
      · rcases List.mem_append.1 ht with ht | ht
        · have := hr.tlt ht lv; omega
        · simp only [List.mem_singleton] at ht; subst ht; exact hp
      · have := hr.mlt t ht lv; omega) (fun k x j g v h1 h2 h3 => (horg k x j g v h1 h2 h3).mono hE.keep) (fun k x j g v h1 h2 h3 => (hnrg k x j g v h1 h2 h3).mono hE.keep) ho1 hn1
  refine ⟨_, rfl, hr', hE, .own _ _ _ ⟨true, c.w.heap.size, e, i.size, grownCap c.w (es.length + xs.length) es.length e, es.length + xs.length⟩ hR ?_ (fun k x hx => ?_) (by simp) (fun _ => .inl ⟨rfl, by simp⟩)⟩
  · show (c.τ ++ [_])[H.tk.length]? = _
    have : c.τ.length = H.tk.length := by rw [← hr.tk]; simp
    rw [← this]; simp
  · rcases List.mem_append.1 (List.mem_of_getElem? hx) with h | h
    · exact hes x h
    · exact hxs x h

/-- The same of bytes. -/
theorem PO_appb_lit {x y : Operand} {t e : TypeId} {xs : List GV} {bytes : Nat} {z : Value} (b l : List UInt8) (ho : o.op = .call { callee := .builtin .append, args := ⟨[x, y]⟩, argTypes := ⟨[t, t]⟩ })
    (ht : P.underlying t = some (.slice e)) (hs : szB P e = some 1) (hby : bytesB P e = some bytes) (hz : zeroB P e = some z) (hzs : Nat.beq z.cells.size 1 = true) (hx : ρ x = .lit (bys b)) (hy : elems (ρ y) = some xs)
    (hxs : xs = bys l) (hpos : 0 < l.length) (hfit : (b.length + l.length) * bytes ≤ 140737488355328) (hmax : b.length + l.length ≤ maxLen) :
    PO P o ρ H (.own (bys (b ++ l)) H.tk.length) ⟨H.bx, H.tk ++ [(e, (b ++ l).length)], H.mu⟩ := by
  subst hxs
  have h1 : (bys b).length = b.length := by simp [bys]
  have h2 : (bys l).length = l.length := by simp [bys]
  have h3 : ∀ l : List UInt8, ∀ x ∈ bys l, x.cells.length = 1 := by intro l x hx; obtain ⟨v, _, rfl⟩ := List.mem_map.1 hx; rfl
  have := PO_append_lit (ρ := ρ) (H := H) ho ht hs hby hz hzs hx hy (h3 b) (h3 l) (by rw [h2]; exact hpos) (by rw [h1, h2]; exact hfit) (by rw [h1, h2]; exact hmax)
  rw [h1, h2] at this
  have e : bys b ++ bys l = bys (b ++ l) := by simp [bys]
  rw [e] at this
  rw [List.length_append]
  exact this
end
end Go.Pure
