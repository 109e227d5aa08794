/- A generic layer: appending a text to bytes. -/
import Derived.Test.YtffpepmfdjjjaaaPureZ
namespace Go.Pure
open Go

section
variable {P : Program} {o : Oper} {ρ : Operand → PV} {H : PH}

theorem PO_append_str {x y : Operand} {t t2 e : TypeId} {es : List GV} {src : ByteArray} {id n bytes : Nat} {z : Value} (ho : o.op = .call { callee := .builtin .append, args := ⟨[x, y]⟩, argTypes := ⟨[t, t2]⟩ })
    (ht : P.underlying t = some (.slice e)) (ht2 : P.underlying t2 = some .string) (hs : szB P e = some 1) (hby : bytesB P e = some bytes) (hz : zeroB P e = some z) (hzs : Nat.beq z.cells.size 1 = true) (hx : ρ x = .own es id) (hy : ρ y = .g (.str src))
    (hk : H.tk[id]? = some (e, n)) (hn : es.length = n) (hfit : (n + src.size) * bytes ≤ 140737488355328) (hmax : n + src.size ≤ maxLen) :
    PO P o ρ H (.own (es ++ bys src.data.toList) id) ⟨H.bx, H.tk.set id (e, n + src.size), H.mu⟩ := by
  intro c ρr hr hxx
  subst hn
  have hzs := Nat.eq_of_beq_eq_true hzs
  have hx1 := hxx x (by simp [ho, Op.operands, Call.operands])
  have hy1 := hxx y (by simp [ho, Op.operands, Call.operands])
  rw [hy] at hy1
  have hy2 := RV_str hy1
  have hsl : (bys src.data.toList).length = src.size := bys_length src
  have hxs : ∀ x ∈ bys src.data.toList, x.cells.length = 1 := fun x hx => by obtain ⟨b, _, rfl⟩ := List.mem_map.1 hx; rfl
  have hnrg0 : ∀ (i : Nat) (x : GV) (j : Nat) (g : GV) (v : Value), (bys src.data.toList)[i]? = some x → x.cells[j]? = some g → (strCells src)[i * 1 + j]? = some v → RG c.w c.stab g v := by
    intro i x j g v h1 h2 h3
    simp only [bys, List.getElem?_map, Option.map_eq_some_iff] at h1
    obtain ⟨b, hb, rfl⟩ := h1
    have : j = 0 ∧ g = byteG b := by
      cases j with
      | zero => simp [byteG, GV.cells] at h2; exact ⟨rfl, h2.symm⟩
      | succ j => simp [byteG, GV.cells] at h2
    obtain ⟨rfl, rfl⟩ := this
    simp only [strCells, Nat.mul_one, Nat.add_zero, List.getElem?_map, hb, Option.map_some, Option.some.injEq] at h3
    subst h3
    exact .int _ _
  have hln0 : (strCells src).length = (bys src.data.toList).length * 1 := by simp [strCells, bys]
  rw [← hsl] at hfit hmax ⊢
  have hz0 : bys src.data.toList = [] → src = ⟨#[]⟩ := fun h => by
    have h1 : src.data.toList = [] := by simpa [bys] using h
    have h2 : src.data = #[] := by simpa using h1
    cases src; simp at h2; rw [h2]
  generalize hxsd : bys src.data.toList = xs at *
  rw [hx] at hx1
  obtain ⟨i, hi, hisz⟩ : ∃ i, P.info? e = some i ∧ i.size = 1 := by
    unfold szB at hs
    simpa using hs
  have hiby : i.bytes = bytes := by
    unfold bytesB at hby; rw [hi] at hby; simpa using hby
  have hiz : i.zero = some z := by
    unfold zeroB at hz; rw [hi] at hz; simpa using hz
  subst hiby
  rw [← hisz] at hzs
  generalize hvx : ρr x = v at hx1
  cases hx1 with
  | own _ _ _ tk hrg htk hsz hle hv =>
  have htk2 : (tk.e, tk.hw) = (e, es.length) := by
    have := hr.tk
    have h1 : (c.τ.map (fun t => (t.e, t.hw)))[id]? = some (tk.e, tk.hw) := by simp [htk]
    rw [this, hk] at h1
    exact (Option.some.inj h1).symm
  have hte : tk.e = e := congrArg Prod.fst htk2
  have hhw : tk.hw = es.length := congrArg Prod.snd htk2
  have hop : (execOp ρr o).run P c.w = ((Builtin.append_ #[t, t2] o.type #[v, .string src]).run P c.w).andThen fun r w => .ok (.value r) w := by
    simp [execOp, ho, resolve, invoke, builtin, hvx, hy2]
  unfold OpGoes
  rw [hop]
  have hid := (List.getElem?_eq_some_iff.1 htk).1
  by_cases hne : xs = []
  · -- nothing is appended
    have hs0 := hz0 hne
    subst hne
    have hrun : (Builtin.append_ #[t, t2] o.type #[v, .string src]).run P c.w = .ok v c.w := by
      rw [hs0]
      have hf : (Builtin.firstCells i.size 0 (.string ⟨#[]⟩)).run P c.w = .ok #[] c.w := by simp [Builtin.firstCells]
      have hz : (⟨#[]⟩ : ByteArray).size = 0 := rfl
      rcases hv hhw.symm with ⟨lv, rfl⟩ | ⟨_, rfl⟩
      · obtain ⟨cur, _, _, h3, _⟩ := hr.tb tk (List.mem_of_getElem? htk) lv
        have h3' : es.length ≤ tk.cap := by omega
        simp [Builtin.append_, run_underlying ht, run_underlying ht2, sizeOf, typeInfo, hi, Builtin.lenOf, hz, h3', hf, storeCells]
      · simp [Builtin.append_, run_underlying ht, run_underlying ht2, sizeOf, typeInfo, hi, Builtin.lenOf, hz, hf]
    rw [hrun]
    refine ⟨c, rfl, ?_, Evo.refl c, ?_⟩
    · have : (⟨H.bx, H.tk.set id (e, es.length + ([] : List GV).length), H.mu⟩ : PH) = H := by
        have : H.tk.set id (e, es.length) = H.tk := by
          refine List.ext_getElem? fun k => ?_
          by_cases ek : k = id
          · subst ek; rw [hk, List.getElem?_set_self (List.getElem?_eq_some_iff.1 hk).1]
          · rw [List.getElem?_set_ne (fun e' => ek e'.symm)]
        simp only [List.length_nil, Nat.add_zero, this]
      rw [this]; exact hr
    · rw [List.append_nil]; exact .own es id v tk hrg htk hsz hle hv
  · have ln : (strCells src).length = xs.length * i.size := by rw [hisz]; exact hln0
    have hn1 : ∀ v ∈ strCells src, v.oneCell' = true := fun v hv => by obtain ⟨b, _, rfl⟩ := List.mem_map.1 hv; rfl
    have hnrg : ∀ (k : Nat) (x : GV) (j : Nat) (g : GV) (v : Value), xs[k]? = some x → x.cells[j]? = some g → (strCells src)[k * i.size + j]? = some v → RG c.w c.stab g v := by rw [hisz]; exact hnrg0
    have hxs : ∀ x ∈ xs, x.cells.length = i.size := by rw [hisz]; exact hxs
    generalize hnews : strCells src = news at ln hn1 hnrg
    have hpos : 0 < xs.length := List.length_pos_iff.2 hne
    -- what came of it
    have hsame : tk.size = i.size := by
      cases hl : tk.live with
      | true =>
        obtain ⟨_, _, _, _, _, h5⟩ := hr.tb tk (List.mem_of_getElem? htk) hl
        rw [hte, hi] at h5; simpa using h5.symm
      | false =>
        have h5 := (hr.dead tk (List.mem_of_getElem? htk) hl).2
        rw [hte, hi] at h5; simpa using h5.symm
    have fin : ∀ (w' : World) (t' : Tok) (olds rest : List Value) (cur : Array Value),
        t'.e = e → t'.size = i.size → t'.hw = es.length + xs.length → t'.live = true → w'.os = c.w.os → w'.tape = c.w.tape → w'.output = c.w.output → c.w.heap.size ≤ w'.heap.size →
        (∀ b, b < c.w.heap.size → (tk.live = true → b ≠ tk.g) → w'.heap[b]? = c.w.heap[b]?) →
        (tk.live = true → ∀ k, k < tk.hw * tk.size → w'.cell? ⟨tk.g, k, none⟩ = c.w.cell? ⟨tk.g, k, none⟩) → ((tk.live = true ∧ t'.g = tk.g) ∨ c.w.heap.size ≤ t'.g) →
        w'.heap[t'.g]? = some (.cells cur e (0, 0)) → cur = (olds ++ news ++ rest).toArray → cur.size = t'.cap * i.size → t'.cap ≤ maxLen → es.length + xs.length ≤ t'.cap → olds.length = es.length * i.size → (∀ v ∈ olds, v.oneCell' = true) →
        (∀ (k : Nat) (x : GV) (j : Nat) (g : GV) (v : Value), es[k]? = some x → x.cells[j]? = some g → olds[k * i.size + j]? = some v → RG c.w c.stab g v) →
        ∃ c' : Ctx, c'.w = w' ∧ Rel P c' ⟨H.bx, H.tk.set id (e, es.length + xs.length), H.mu⟩ ∧ Evo c c' ∧ RV c' (.own (es ++ xs) id) (.slice (some ⟨t'.g, 0, none⟩) (es.length + xs.length) t'.cap) := by
      intro w' t' olds rest cur e1 e2 e4 e5 o1 o2 o3 o4 o5 o6 o7 hh hcur hcs hcm hcap lo ho1 horg
      obtain ⟨g1, g2⟩ := hr.setTok htk (t' := t') (by rw [e1, hte]) (by rw [hsame, e2]) (by rw [hhw, e4]; omega) e5 o1 o2 o3 o4 o5 o6 o7 ⟨cur, by rw [e1]; exact hh, by rw [e2]; exact hcs, by rw [e4]; exact hcap, hcm, by rw [e1, hi, e2]; rfl⟩
      refine ⟨⟨c.σ, c.τ.set id t', c.μ, c.hid, w'⟩, rfl, ?_, g2, ?_⟩
      · rw [e1, e4] at g1; exact g1
      · have hS : ∀ p, p < (es.length + xs.length) * i.size → Ctx.stab ⟨c.σ, c.τ.set id t', c.μ, c.hid, w'⟩ t'.g p := by
          intro p hp
          have tm : t' ∈ c.τ.set id t' := List.mem_of_getElem? (List.getElem?_set_self hid)
          refine ⟨fun h => g1.thid t' tm e5 p h, fun h => g1.st t' tm e5 h, fun t2 h2 lv e => ?_, fun t2 h2 lv e => g1.mt t2 h2 lv t' tm e5 e⟩
          obtain ⟨k2, hk2⟩ := List.getElem?_of_mem h2
          have := g1.td k2 id t2 t' hk2 (List.getElem?_set_self hid) lv e5 e
          subst this
          replace hk2 : (c.τ.set k2 t')[k2]? = some t2 := hk2
          rw [List.getElem?_set_self hid] at hk2
          cases hk2
          rw [e4, e2]; exact hp
        have hes : ∀ x ∈ es, x.cells.length = i.size := fun x hx => by
          obtain ⟨k, hk⟩ := List.getElem?_of_mem hx
          rw [hsz k x hk, hsame]
        have hR := RG_appended (S := Ctx.stab ⟨c.σ, c.τ.set id t', c.μ, c.hid, w'⟩) hh hcur lo ln hes hxs hcap hcm hS (fun k x j g v h1 h2 h3 => (horg k x j g v h1 h2 h3).mono g2.keep) (fun k x j g v h1 h2 h3 => (hnrg k x j g v h1 h2 h3).mono g2.keep) ho1 hn1
        refine .own (es ++ xs) id _ t' hR (List.getElem?_set_self hid) (fun k x hx => ?_) (by simp [e4]) (fun _ => .inl ⟨e5, by simp⟩)
        rw [e2]
        rcases List.mem_append.1 (List.mem_of_getElem? hx) with h | h
        · exact hes x h
        · exact hxs x h
    rcases hv hhw.symm with ⟨lv, rfl⟩ | ⟨he0, rfl⟩
    · obtain ⟨cur, hcur, hcs, hle2, hcm, _⟩ := hr.tb tk (List.mem_of_getElem? htk) lv
      rw [hte] at hcur
      rw [hsame] at hcs
      rw [hhw] at hle2
      have hcell : ∀ k, c.w.cell? ⟨tk.g, k, none⟩ = cur[k]? := fun k => cell_of_row c.w tk.g k cur e (0, 0) hcur
      have hes : ∀ x ∈ es, x.cells.length = i.size := fun x hx => by
        obtain ⟨k, hk⟩ := List.getElem?_of_mem hx
        rw [hsz k x hk, hsame]
      obtain ⟨olds, lo, hocell, ho1, horg⟩ : ∃ olds : List Value, olds.length = es.length * i.size ∧ (∀ j v, olds[j]? = some v → c.w.cell? ((⟨tk.g, 0, none⟩ : Addr).add j) = some v) ∧ (∀ v ∈ olds, v.oneCell' = true) ∧
          ∀ (k : Nat) (x : GV) (j : Nat) (g : GV) (v : Value), es[k]? = some x → x.cells[j]? = some g → olds[k * i.size + j]? = some v → RG c.w c.stab g v := by
        by_cases hes0 : es = []
        · subst hes0; exact ⟨[], by simp, by simp, by simp, by simp⟩
        · obtain ⟨a', m', olds, e1, l1, l2, l3, l4⟩ := slice_cells hrg hes hes0
          cases e1
          exact ⟨olds, l1, l2, l3, l4⟩
      have hocell' : ∀ j v, olds[j]? = some v → cur[j]? = some v := fun j v h => by
        have := hocell j v h
        rw [add_eq _ _ rfl] at this
        rw [← hcell]
        simpa using this
      have hlc : es.length * i.size ≤ cur.size := by rw [hcs]; exact Nat.mul_le_mul_right _ hle2
      have htake : cur.toList.take (es.length * i.size) = olds := by
        refine List.ext_getElem? fun k => ?_
        by_cases hk : k < es.length * i.size
        · have h1 : k < olds.length := by rw [lo]; exact hk
          rw [List.getElem?_take, if_pos hk, List.getElem?_eq_getElem h1]
          have := hocell' k _ (List.getElem?_eq_getElem h1)
          simpa using this
        · rw [List.getElem?_eq_none (by simp; omega), List.getElem?_eq_none (by omega)]
      by_cases hroom : es.length + xs.length ≤ tk.cap
      · have hfit' : es.length * i.size + news.length ≤ cur.size := by
          rw [ln, hcs, ← Nat.add_mul]; exact Nat.mul_le_mul_right _ hroom
        have hrr := run_append_room_str c.w t t2 o.type e i ht ht2 hi tk.g es.length tk.cap cur hcur src (by omega) (by rw [hnews]; exact hfit')
        rw [hnews, ← hsl] at hrr
        rw [hrr, htake]
        refine fin _ { tk with hw := es.length + xs.length } olds (cur.toList.drop (es.length * i.size + news.length)) _ hte hsame rfl lv rfl rfl rfl (by simp) (fun b hb h => setRow_other c.w tk.g b _ (h lv)) (fun _ k hk => ?_) (.inl ⟨lv, rfl⟩) (setRow_heap c.w tk.g cur _ e (0, 0) hcur) rfl ?_ hcm hroom lo ho1 horg
        · rw [cell_of_row _ tk.g k _ e (0, 0) (setRow_heap c.w tk.g cur _ e (0, 0) hcur), hcell]
          rw [hhw, hsame, ← lo] at hk
          simp only [List.getElem?_toArray]
          rw [List.append_assoc, List.getElem?_append_left hk]
          rw [List.getElem?_eq_getElem hk]
          exact (hocell' k _ (List.getElem?_eq_getElem hk)).symm
        · simp [lo]
          rw [hcs] at hfit' ⊢
          omega
      · have hg : tk.cap < es.length + xs.length := by omega
        have h63 : ((es.length + xs.length : Nat) : Int) ≤ 9223372036854775807 := by simp only [maxLen] at hmax; omega
        have hrr := run_append_grow_str c.w t t2 o.type e i z ht ht2 hi hiz ⟨tk.g, 0, none⟩ es.length tk.cap olds lo hocell src (by omega) (by rw [← hsl]; exact h63) (by rw [← hsl]; exact growslice_fits hg hfit)
        rw [hnews, ← hsl] at hrr
        rw [hrr]
        have hge := grownCap_ge c.w (es.length + xs.length) tk.cap e
        refine fin _ ⟨true, c.w.heap.size, e, i.size, grownCap c.w (es.length + xs.length) tk.cap e, es.length + xs.length⟩ olds (Builtin.zeroCells z.cells (grownCap c.w (es.length + xs.length) tk.cap e - (es.length + xs.length))).toList _ rfl rfl rfl rfl rfl rfl rfl (by simp) (fun b hb _ => Go.heap_alloc_old c.w.drew _ b hb) (fun _ k hk => ?_) (.inr (Nat.le_refl _)) (Go.heap_alloc_new c.w.drew _) (by simp) ?_ (grownCap_le_maxLen _ _ _ _ hmax) hge lo ho1 horg
        · have hlt := hr.tlt (List.mem_of_getElem? htk) lv
          exact World.cell?_of_block (Go.heap_alloc_old c.w.drew _ tk.g hlt)
        · simp only [Array.size_append, List.size_toArray, size_zeroCells, hzs, lo, ln]
          rw [← Nat.add_mul, ← Nat.add_mul]
          congr 1
          omega
    · subst he0
      have h63 : (xs.length : Int) ≤ 9223372036854775807 := by simp only [maxLen, List.length_nil] at hmax; omega
      have hfit' : xs.length * i.bytes ≤ 140737488355328 := by simpa using hfit
      have hrr := run_append_nil_string (P := P) c.w t t2 o.type e i z ht ht2 hi hiz src (by omega) (by rw [← hsl]; exact h63) (by rw [← hsl]; omega)
      have hdat : src.data.map (fun b => Value.int .u8 b.toNat) = news.toArray := by rw [← hnews]; apply Array.ext'; simp [strCells]
      rw [hdat, ← hsl] at hrr
      rw [hrr]
      have hge := grownCap_ge c.w xs.length 0 e
      have := fin (c.w.drew.alloc (.cells (news.toArray ++ Builtin.zeroCells z.cells (grownCap c.w xs.length 0 e - xs.length)) e)) ⟨true, c.w.heap.size, e, i.size, grownCap c.w xs.length 0 e, xs.length⟩ [] (Builtin.zeroCells z.cells (grownCap c.w xs.length 0 e - xs.length)).toList _ rfl rfl (by simp) rfl rfl rfl rfl (by simp) (fun b hb _ => Go.heap_alloc_old c.w.drew _ b hb) (fun _ k hk => by rw [hhw] at hk; simp at hk) (.inr (Nat.le_refl _)) (Go.heap_alloc_new c.w.drew _) (by simp) (by
        simp only [Array.size_append, List.size_toArray, size_zeroCells, hzs, ln]
        rw [← Nat.add_mul]
        congr 1
        omega) (grownCap_le_maxLen _ _ _ _ (by simpa using hmax)) (by simpa using hge) (by simp) (by simp) (by simp)
      simpa using this

/-- Bytes appended to bytes. -/
theorem PO_appb {x y : Operand} {t e : TypeId} {b : List UInt8} {xs : List GV} {id bytes : Nat} {z : Value} (l : List UInt8) (ho : o.op = .call { callee := .builtin .append, args := ⟨[x, y]⟩, argTypes := ⟨[t, t]⟩ })
    (ht : P.underlying t = some (.slice e)) (hs : szB P e = some 1) (hby : bytesB P e = some bytes) (hz : zeroB P e = some z) (hzs : Nat.beq z.cells.size 1 = true) (hx : ρ x = .own (bys b) id) (hy : elems (ρ y) = some xs)
    (hk : H.tk[id]? = some (e, b.length)) (hxs : xs = bys l) (hfit : (b.length + l.length) * bytes ≤ 140737488355328) (hmax : b.length + l.length ≤ maxLen) :
    PO P o ρ H (.own (bys (b ++ l)) id) ⟨H.bx, H.tk.set id (e, (b ++ l).length), H.mu⟩ := by
  subst hxs
  have hl : (bys l).length = l.length := by simp [bys]
  have := PO_append (H := H) ho ht hs hby hz hzs hx hy hk (by simp [bys]) (fun x hx => by obtain ⟨v, _, rfl⟩ := List.mem_map.1 hx; rfl) (by rw [hl]; exact hfit) (by rw [hl]; exact hmax)
  rw [hl] at this
  have e1 : bys b ++ bys l = bys (b ++ l) := by simp [bys]
  rw [e1] at this
  rw [List.length_append]
  exact this
/-- A text appended to bytes. -/
theorem PO_apps {x y : Operand} {t t2 e : TypeId} {b : List UInt8} {src : ByteArray} {id bytes : Nat} {z : Value} (ho : o.op = .call { callee := .builtin .append, args := ⟨[x, y]⟩, argTypes := ⟨[t, t2]⟩ })
    (ht : P.underlying t = some (.slice e)) (ht2 : P.underlying t2 = some .string) (hs : szB P e = some 1) (hby : bytesB P e = some bytes) (hz : zeroB P e = some z) (hzs : Nat.beq z.cells.size 1 = true) (hx : ρ x = .own (bys b) id) (hy : ρ y = .g (.str src))
    (hk : H.tk[id]? = some (e, b.length)) (hfit : (b.length + src.size) * bytes ≤ 140737488355328) (hmax : b.length + src.size ≤ maxLen) :
    PO P o ρ H (.own (bys (b ++ src.data.toList)) id) ⟨H.bx, H.tk.set id (e, (b ++ src.data.toList).length), H.mu⟩ := by
  have := PO_append_str (H := H) ho ht ht2 hs hby hz hzs hx hy hk (by simp [bys]) hfit hmax
  have e1 : bys b ++ bys src.data.toList = bys (b ++ src.data.toList) := by simp [bys]
  rw [e1] at this
  have e2 : (b ++ src.data.toList).length = b.length + src.size := by simp
  rw [e2]
  exact this
end
end Go.Pure
