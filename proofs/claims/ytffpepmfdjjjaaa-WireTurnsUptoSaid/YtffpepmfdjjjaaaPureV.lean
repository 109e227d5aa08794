/- A generic layer: append. -/
import Derived.Test.YtffpepmfdjjjaaaPureU
namespace Go.Pure
open Go

def bytesB (P : Program) (t : TypeId) : Option Nat := (P.info? t).map (·.bytes)

section
variable {P : Program} {o : Oper} {ρ : Operand → PV} {H : PH}

theorem run_append_zero (w : World) {t ty e : TypeId} {i : TypeInfo} (ht : P.underlying t = some (.slice e)) (hi : P.info? e = some i) (b : Option Addr) (n c : Nat) (h : n ≤ c) (hb : b = none ∨ ∃ g, b = some g) (x : Value) (hx : x = .slice none 0 0 ∨ ∃ a c', x = .slice (some a) 0 c') :
    (Builtin.append_ #[t, t] ty #[.slice b n c, x]).run P w = .ok (.slice b n c) w := by
  rcases hx with rfl | ⟨a, c', rfl⟩
  · cases b with
    | none => simp [Builtin.append_, run_underlying ht, sizeOf, typeInfo, hi, Builtin.lenOf, h, Builtin.firstCells]
    | some g => simp [Builtin.append_, run_underlying ht, sizeOf, typeInfo, hi, Builtin.lenOf, h, Builtin.firstCells, storeCells]
  · have hf : (Builtin.firstCells i.size 0 (.slice (some a) 0 c')).run P w = .ok #[] w := by
      have := run_firstCells_some (P := P) w i.size 0 a 0 c' [] (by simp) (by simp)
      simpa using this
    cases b with
    | none => simp [Builtin.append_, run_underlying ht, sizeOf, typeInfo, hi, Builtin.lenOf, h, hf]
    | some g => simp [Builtin.append_, run_underlying ht, sizeOf, typeInfo, hi, Builtin.lenOf, h, hf, storeCells]

/-- The elements of an array, whose cells are told by two lists. -/
theorem RG_appended {w : World} {S : Nat → Nat → Prop} {blk : Nat} {cur : Array Value} {e : TypeId} {es xs : List GV} {size cap : Nat} {olds news rest : List Value} (hb : w.heap[blk]? = some (.cells cur e (0, 0)))
    (hcur : cur = (olds ++ news ++ rest).toArray) (lo : olds.length = es.length * size) (ln : news.length = xs.length * size)
    (hes : ∀ x ∈ es, x.cells.length = size) (hxs : ∀ x ∈ xs, x.cells.length = size) (hc : es.length + xs.length ≤ cap) (hm : cap ≤ maxLen) (hS : ∀ p, p < (es.length + xs.length) * size → S blk p)
    (ho : ∀ (i : Nat) (x : GV) (j : Nat) (g : GV) (v : Value), es[i]? = some x → x.cells[j]? = some g → olds[i * size + j]? = some v → RG w S g v)
    (hn : ∀ (i : Nat) (x : GV) (j : Nat) (g : GV) (v : Value), xs[i]? = some x → x.cells[j]? = some g → news[i * size + j]? = some v → RG w S g v)
    (ho1 : ∀ v ∈ olds, v.oneCell' = true) (hn1 : ∀ v ∈ news, v.oneCell' = true) :
    RG w S (.sl (es ++ xs)) (.slice (some ⟨blk, 0, none⟩) (es.length + xs.length) cap) := by
  have hlen : (es ++ xs).length = es.length + xs.length := by simp
  have hmul : (es.length + xs.length) * size = olds.length + news.length := by rw [lo, ln, Nat.add_mul]
  have hcells : ∀ (i : Nat) (x : GV), (es ++ xs)[i]? = some x → x.cells.length = size := fun i x hx => by
    rcases List.mem_append.1 (List.mem_of_getElem? hx) with h | h
    · exact hes x h
    · exact hxs x h
  have := RG_row (es := es ++ xs) (size := size) (cap := cap) (S := S) hb hcells (by rw [hlen]; exact hc) hm (by rw [hlen, hmul, hcur]; simp) (by rw [hlen]; exact hS) (fun k hk => ?_) (fun i x j g v hx hg hv => ?_)
  · rw [hlen] at this; exact this
  · rw [hlen, hmul] at hk
    rw [hcur]
    simp only [List.getElem?_toArray]
    rw [List.getElem?_append_left (by simp; omega)]
    have hk' : k < (olds ++ news).length := by simp; omega
    refine ⟨(olds ++ news)[k], List.getElem?_eq_getElem hk', ?_⟩
    rcases List.mem_append.1 (List.getElem_mem hk') with h | h
    · exact ho1 _ h
    · exact hn1 _ h
  · have hj : j < size := by rw [← hcells i x hx]; exact (List.getElem?_eq_some_iff.1 hg).1
    have hi := (List.getElem?_eq_some_iff.1 hx).1
    rw [hlen] at hi
    rw [hcur] at hv
    simp only [List.getElem?_toArray] at hv
    have hlt : i * size + j < olds.length + news.length := by
      rw [← hmul]
      calc i * size + j < i * size + size := by omega
        _ = (i + 1) * size := by rw [Nat.add_mul, Nat.one_mul]
        _ ≤ _ := Nat.mul_le_mul_right _ hi
    rw [List.getElem?_append_left (by simp; omega)] at hv
    by_cases h1 : i < es.length
    · rw [List.getElem?_append_left h1] at hx
      have hlt' : i * size + j < olds.length := by
        rw [lo]
        calc i * size + j < i * size + size := by omega
          _ = (i + 1) * size := by rw [Nat.add_mul, Nat.one_mul]
          _ ≤ _ := Nat.mul_le_mul_right _ h1
      rw [List.getElem?_append_left hlt'] at hv
      exact ho i x j g v hx hg hv
    · rw [List.getElem?_append_right (by omega)] at hx
      have hge : olds.length ≤ i * size + j := by
        rw [lo]
        exact Nat.le_trans (Nat.mul_le_mul_right _ (by omega)) (Nat.le_add_right _ _)
      rw [List.getElem?_append_right hge] at hv
      refine hn (i - es.length) x j g v hx hg ?_
      rw [← hv]
      congr 1
      rw [lo, Nat.sub_mul]
      have := Nat.mul_le_mul_right size (show es.length ≤ i by omega)
      omega

/-- A list's cells. -/
theorem slice_cells {w : World} {S : Nat → Nat → Prop} {xs : List GV} {u : Value} {size : Nat} (h : RG w S (.sl xs) u) (hxs : ∀ x ∈ xs, x.cells.length = size) (hne : xs ≠ []) :
    ∃ (a : Addr) (cap : Nat) (news : List Value), u = .slice (some a) xs.length cap ∧ news.length = xs.length * size ∧ (∀ j v, news[j]? = some v → w.cell? (a.add j) = some v) ∧ (∀ v ∈ news, v.oneCell' = true) ∧
      ∀ (i : Nat) (x : GV) (j : Nat) (g : GV) (v : Value), xs[i]? = some x → x.cells[j]? = some g → news[i * size + j]? = some v → RG w S g v := by
  cases h with
  | nil => exact absurd rfl hne
  | sl _ a cap size' f ha hc hm hs hf hh =>
    have hsz : size' = size := by
      obtain ⟨x, hx⟩ : ∃ x, xs[0]? = some x := by
        cases xs with
        | nil => exact absurd rfl hne
        | cons x r => exact ⟨x, rfl⟩
      rw [← hs 0 x hx, hxs x (List.mem_of_getElem? hx)]
    subst hsz
    refine ⟨a, cap, (List.range (xs.length * size')).map f, rfl, by simp, fun j v hv => ?_, fun v hv => ?_, fun i x j g v hx hg hv => ?_⟩
    · simp only [List.getElem?_map, Option.map_eq_some_iff] at hv
      obtain ⟨k, hk, rfl⟩ := hv
      obtain ⟨h1, rfl⟩ := List.getElem?_eq_some_iff.1 hk
      rw [List.getElem_range]
      exact (hf j (by simpa using h1)).1
    · obtain ⟨k, hk, rfl⟩ := List.mem_map.1 hv
      exact (hf k (by simpa using hk)).2.2
    · simp only [List.getElem?_map, Option.map_eq_some_iff] at hv
      obtain ⟨k, hk, rfl⟩ := hv
      obtain ⟨h1, rfl⟩ := List.getElem?_eq_some_iff.1 hk
      rw [List.getElem_range]
      exact hh i x j g hx hg

theorem PO_append {x y : Operand} {t e : TypeId} {es xs : List GV} {id n size bytes : Nat} {z : Value} (ho : o.op = .call { callee := .builtin .append, args := ⟨[x, y]⟩, argTypes := ⟨[t, t]⟩ })
    (ht : P.underlying t = some (.slice e)) (hs : szB P e = some size) (hby : bytesB P e = some bytes) (hz : zeroB P e = some z) (hzs : Nat.beq z.cells.size size = true) (hx : ρ x = .own es id) (hy : elems (ρ y) = some xs)
    (hk : H.tk[id]? = some (e, n)) (hn : es.length = n) (hxs : ∀ x ∈ xs, x.cells.length = size) (hfit : (n + xs.length) * bytes ≤ 140737488355328) (hmax : n + xs.length ≤ maxLen) :
    PO P o ρ H (.own (es ++ xs) id) ⟨H.bx, H.tk.set id (e, n + xs.length), H.mu⟩ := by
  intro c ρr hr hxx
  subst hn
  have hzs := Nat.eq_of_beq_eq_true hzs
  have hx1 := hxx x (by simp [ho, Op.operands, Call.operands])
  have hy1 := elems_ok (hxx y (by simp [ho, Op.operands, Call.operands])) hy
  rw [hx] at hx1
  obtain ⟨i, hi, hisz⟩ : ∃ i, P.info? e = some i ∧ i.size = size := by
    unfold szB at hs
    simpa using hs
  have hiby : i.bytes = bytes := by
    unfold bytesB at hby; rw [hi] at hby; simpa using hby
  have hiz : i.zero = some z := by
    unfold zeroB at hz; rw [hi] at hz; simpa using hz
  subst hisz; subst hiby
  generalize hvx : ρr x = v at hx1
  generalize hvy : ρr y = u at hy1
  cases hx1 with
  | own _ _ _ tk hrg htk hsz hle hv =>
  have htk2 : (tk.e, tk.hw) = (e, es.length) := by
    have := hr.tk
    have h1 : (c.τ.map (fun t => (t.e, t.hw)))[id]? = some (tk.e, tk.hw) := by simp [htk]
    rw [this, hk] at h1
    exact (Option.some.inj h1).symm
  have hte : tk.e = e := congrArg Prod.fst htk2
  have hhw : tk.hw = es.length := congrArg Prod.snd htk2
  have hop : (execOp ρr o).run P c.w = ((Builtin.append_ #[t, t] o.type #[v, u]).run P c.w).andThen fun r w => .ok (.value r) w := by
    simp [execOp, ho, resolve, invoke, builtin, hvx, hvy]
  unfold OpGoes
  rw [hop]
  have hid := (List.getElem?_eq_some_iff.1 htk).1
  by_cases hne : xs = []
  · -- nothing is appended
    subst hne
    have hu : u = .slice none 0 0 ∨ ∃ a c', u = .slice (some a) 0 c' := by
      cases hy1 with
      | nil => exact .inl rfl
      | sl _ a cap => exact .inr ⟨a, cap, rfl⟩
    have hrun : (Builtin.append_ #[t, t] o.type #[v, u]).run P c.w = .ok v c.w := by
      rcases hv hhw.symm with ⟨lv, rfl⟩ | ⟨_, rfl⟩
      · obtain ⟨cur, _, _, h3, _⟩ := hr.tb tk (List.mem_of_getElem? htk) lv
        exact run_append_zero c.w ht hi _ _ _ (by omega) (.inr ⟨_, rfl⟩) u hu
      · exact run_append_zero c.w ht hi none 0 0 (Nat.le_refl _) (.inl rfl) u hu
    rw [hrun]
    refine ⟨c, rfl, ?_, Evo.refl c, ?_⟩
    · have : (⟨H.bx, H.tk.set id (e, es.length + ([] : List GV).length), H.mu⟩ : PH) = H := by
        have : H.tk.set id (e, es.length) = H.tk := by
          refine List.ext_getElem? fun k => ?_
          by_cases ek : k = id
          · subst ek; rw [hk, List.getElem?_set_self (List.getElem?_eq_some_iff.1 hk).1]
          · rw [List.getElem?_set_ne (fun e' => ek e'.symm)]
        simp only [List.length_nil, Nat.add_zero, this]
      rw [this]; exact hr
    · rw [List.append_nil]; exact .own es id v tk hrg htk hsz hle hv
  · obtain ⟨a, m, news, rfl, ln, hnews, hn1, hnrg⟩ := slice_cells hy1 hxs hne
    have hpos : 0 < xs.length := List.length_pos_iff.2 hne
    -- what came of it
    have hsame : tk.size = i.size := by
      cases hl : tk.live with
      | true =>
        obtain ⟨_, _, _, _, _, h5⟩ := hr.tb tk (List.mem_of_getElem? htk) hl
        rw [hte, hi] at h5; simpa using h5.symm
      | false =>
        have h5 := (hr.dead tk (List.mem_of_getElem? htk) hl).2
        rw [hte, hi] at h5; simpa using h5.symm
    have fin : ∀ (w' : World) (t' : Tok) (olds rest : List Value) (cur : Array Value),
        t'.e = e → t'.size = i.size → t'.hw = es.length + xs.length → t'.live = true → w'.os = c.w.os → w'.tape = c.w.tape → w'.output = c.w.output → c.w.heap.size ≤ w'.heap.size →
        (∀ b, b < c.w.heap.size → (tk.live = true → b ≠ tk.g) → w'.heap[b]? = c.w.heap[b]?) →
        (tk.live = true → ∀ k, k < tk.hw * tk.size → w'.cell? ⟨tk.g, k, none⟩ = c.w.cell? ⟨tk.g, k, none⟩) → ((tk.live = true ∧ t'.g = tk.g) ∨ c.w.heap.size ≤ t'.g) →
        w'.heap[t'.g]? = some (.cells cur e (0, 0)) → cur = (olds ++ news ++ rest).toArray → cur.size = t'.cap * i.size → t'.cap ≤ maxLen → es.length + xs.length ≤ t'.cap → olds.length = es.length * i.size → (∀ v ∈ olds, v.oneCell' = true) →
        (∀ (k : Nat) (x : GV) (j : Nat) (g : GV) (v : Value), es[k]? = some x → x.cells[j]? = some g → olds[k * i.size + j]? = some v → RG c.w c.stab g v) →
        ∃ c' : Ctx, c'.w = w' ∧ Rel P c' ⟨H.bx, H.tk.set id (e, es.length + xs.length), H.mu⟩ ∧ Evo c c' ∧ RV c' (.own (es ++ xs) id) (.slice (some ⟨t'.g, 0, none⟩) (es.length + xs.length) t'.cap) := by
      intro w' t' olds rest cur e1 e2 e4 e5 o1 o2 o3 o4 o5 o6 o7 hh hcur hcs hcm hcap lo ho1 horg
      obtain ⟨g1, g2⟩ := hr.setTok htk (t' := t') (by rw [e1, hte]) (by rw [hsame, e2]) (by rw [hhw, e4]; omega) e5 o1 o2 o3 o4 o5 o6 o7 ⟨cur, by rw [e1]; exact hh, by rw [e2]; exact hcs, by rw [e4]; exact hcap, hcm, by rw [e1, hi, e2]; rfl⟩
      refine ⟨⟨c.σ, c.τ.set id t', c.μ, c.hid, w'⟩, rfl, ?_, g2, ?_⟩
      · rw [e1, e4] at g1; exact g1
      · have hS : ∀ p, p < (es.length + xs.length) * i.size → Ctx.stab ⟨c.σ, c.τ.set id t', c.μ, c.hid, w'⟩ t'.g p := by
          intro p hp
          have tm : t' ∈ c.τ.set id t' := List.mem_of_getElem? (List.getElem?_set_self hid)
          refine ⟨fun h => g1.thid t' tm e5 p h, fun h => g1.st t' tm e5 h, fun t2 h2 lv e => ?_, fun t2 h2 lv e => g1.mt t2 h2 lv t' tm e5 e⟩
          obtain ⟨k2, hk2⟩ := List.getElem?_of_mem h2
          have := g1.td k2 id t2 t' hk2 (List.getElem?_set_self hid) lv e5 e
          subst this
          replace hk2 : (c.τ.set k2 t')[k2]? = some t2 := hk2
          rw [List.getElem?_set_self hid] at hk2
          cases hk2
          rw [e4, e2]; exact hp
        have hes : ∀ x ∈ es, x.cells.length = i.size := fun x hx => by
          obtain ⟨k, hk⟩ := List.getElem?_of_mem hx
          rw [hsz k x hk, hsame]
        have hR := RG_appended (S := Ctx.stab ⟨c.σ, c.τ.set id t', c.μ, c.hid, w'⟩) hh hcur lo ln hes hxs hcap hcm hS (fun k x j g v h1 h2 h3 => (horg k x j g v h1 h2 h3).mono g2.keep) (fun k x j g v h1 h2 h3 => (hnrg k x j g v h1 h2 h3).mono g2.keep) ho1 hn1
        refine .own (es ++ xs) id _ t' hR (List.getElem?_set_self hid) (fun k x hx => ?_) (by simp [e4]) (fun _ => .inl ⟨e5, by simp⟩)
        rw [e2]
        rcases List.mem_append.1 (List.mem_of_getElem? hx) with h | h
        · exact hes x h
        · exact hxs x h
    rcases hv hhw.symm with ⟨lv, rfl⟩ | ⟨he0, rfl⟩
    · obtain ⟨cur, hcur, hcs, hle2, hcm, _⟩ := hr.tb tk (List.mem_of_getElem? htk) lv
      rw [hte] at hcur
      rw [hsame] at hcs
      rw [hhw] at hle2
      have hcell : ∀ k, c.w.cell? ⟨tk.g, k, none⟩ = cur[k]? := fun k => cell_of_row c.w tk.g k cur e (0, 0) hcur
      have hes : ∀ x ∈ es, x.cells.length = i.size := fun x hx => by
        obtain ⟨k, hk⟩ := List.getElem?_of_mem hx
        rw [hsz k x hk, hsame]
      obtain ⟨olds, lo, hocell, ho1, horg⟩ : ∃ olds : List Value, olds.length = es.length * i.size ∧ (∀ j v, olds[j]? = some v → c.w.cell? ((⟨tk.g, 0, none⟩ : Addr).add j) = some v) ∧ (∀ v ∈ olds, v.oneCell' = true) ∧
          ∀ (k : Nat) (x : GV) (j : Nat) (g : GV) (v : Value), es[k]? = some x → x.cells[j]? = some g → olds[k * i.size + j]? = some v → RG c.w c.stab g v := by
        by_cases hes0 : es = []
        · subst hes0; exact ⟨[], by simp, by simp, by simp, by simp⟩
        · obtain ⟨a', m', olds, e1, l1, l2, l3, l4⟩ := slice_cells hrg hes hes0
          cases e1
          exact ⟨olds, l1, l2, l3, l4⟩
      have hocell' : ∀ j v, olds[j]? = some v → cur[j]? = some v := fun j v h => by
        have := hocell j v h
        rw [add_eq _ _ rfl] at this
        rw [← hcell]
        simpa using this
      have hlc : es.length * i.size ≤ cur.size := by rw [hcs]; exact Nat.mul_le_mul_right _ hle2
      have htake : cur.toList.take (es.length * i.size) = olds := by
        refine List.ext_getElem? fun k => ?_
        by_cases hk : k < es.length * i.size
        · have h1 : k < olds.length := by rw [lo]; exact hk
          rw [List.getElem?_take, if_pos hk, List.getElem?_eq_getElem h1]
          have := hocell' k _ (List.getElem?_eq_getElem h1)
          simpa using this
        · rw [List.getElem?_eq_none (by simp; omega), List.getElem?_eq_none (by omega)]
      by_cases hroom : es.length + xs.length ≤ tk.cap
      · have hfit' : es.length * i.size + news.length ≤ cur.size := by
          rw [ln, hcs, ← Nat.add_mul]; exact Nat.mul_le_mul_right _ hroom
        rw [run_append_room c.w t o.type e i ht hi tk.g es.length tk.cap cur hcur a xs.length m news ln hnews hn1 hroom hfit', htake]
        refine fin _ { tk with hw := es.length + xs.length } olds (cur.toList.drop (es.length * i.size + news.length)) _ hte hsame rfl lv rfl rfl rfl (by simp) (fun b hb h => setRow_other c.w tk.g b _ (h lv)) (fun _ k hk => ?_) (.inl ⟨lv, rfl⟩) (setRow_heap c.w tk.g cur _ e (0, 0) hcur) rfl ?_ hcm hroom lo ho1 horg
        · rw [cell_of_row _ tk.g k _ e (0, 0) (setRow_heap c.w tk.g cur _ e (0, 0) hcur), hcell]
          rw [hhw, hsame, ← lo] at hk
          simp only [List.getElem?_toArray]
          rw [List.append_assoc, List.getElem?_append_left hk]
          rw [List.getElem?_eq_getElem hk]
          exact (hocell' k _ (List.getElem?_eq_getElem hk)).symm
        · simp [lo]
          rw [hcs] at hfit' ⊢
          omega
      · have hg : tk.cap < es.length + xs.length := by omega
        have h63 : ((es.length + xs.length : Nat) : Int) ≤ 9223372036854775807 := by simp only [maxLen] at hmax; omega
        rw [run_append_grow c.w t o.type e i z ht hi hiz ⟨tk.g, 0, none⟩ es.length tk.cap olds lo hocell a xs.length m news ln hnews hg h63 (growslice_fits hg hfit)]
        have hge := grownCap_ge c.w (es.length + xs.length) tk.cap e
        refine fin _ ⟨true, c.w.heap.size, e, i.size, grownCap c.w (es.length + xs.length) tk.cap e, es.length + xs.length⟩ olds (Builtin.zeroCells z.cells (grownCap c.w (es.length + xs.length) tk.cap e - (es.length + xs.length))).toList _ rfl rfl rfl rfl rfl rfl rfl (by simp) (fun b hb _ => Go.heap_alloc_old c.w.drew _ b hb) (fun _ k hk => ?_) (.inr (Nat.le_refl _)) (Go.heap_alloc_new c.w.drew _) (by simp) ?_ (grownCap_le_maxLen _ _ _ _ hmax) hge lo ho1 horg
        · have hlt := hr.tlt (List.mem_of_getElem? htk) lv
          exact World.cell?_of_block (Go.heap_alloc_old c.w.drew _ tk.g hlt)
        · simp only [Array.size_append, List.size_toArray, size_zeroCells, hzs, lo, ln]
          rw [← Nat.add_mul, ← Nat.add_mul]
          congr 1
          omega
    · subst he0
      have h63 : (xs.length : Int) ≤ 9223372036854775807 := by simp only [maxLen, List.length_nil] at hmax; omega
      have hfit' : xs.length * i.bytes ≤ 140737488355328 := by simpa using hfit
      rw [run_append_nil c.w t o.type e i z ht hi hiz a xs.length m news ln hnews hpos h63 (by omega)]
      have hge := grownCap_ge c.w xs.length 0 e
      have := fin (c.w.drew.alloc (.cells (news.toArray ++ Builtin.zeroCells z.cells (grownCap c.w xs.length 0 e - xs.length)) e)) ⟨true, c.w.heap.size, e, i.size, grownCap c.w xs.length 0 e, xs.length⟩ [] (Builtin.zeroCells z.cells (grownCap c.w xs.length 0 e - xs.length)).toList _ rfl rfl (by simp) rfl rfl rfl rfl (by simp) (fun b hb _ => Go.heap_alloc_old c.w.drew _ b hb) (fun _ k hk => by rw [hhw] at hk; simp at hk) (.inr (Nat.le_refl _)) (Go.heap_alloc_new c.w.drew _) (by simp) (by
        simp only [Array.size_append, List.size_toArray, size_zeroCells, hzs, ln]
        rw [← Nat.add_mul]
        congr 1
        omega) (grownCap_le_maxLen _ _ _ _ (by simpa using hmax)) (by simpa using hge) (by simp) (by simp) (by simp)
      simpa using this
end
end Go.Pure
