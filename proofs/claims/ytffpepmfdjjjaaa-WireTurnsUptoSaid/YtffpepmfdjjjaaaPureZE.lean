/- A generic layer: arrays that may be written: appended to. -/
import Derived.Test.YtffpepmfdjjjaaaPureZD
namespace Go.Pure
open Go

section
variable {P : Program} {o : Oper} {ρ : Operand → PV} {H : PH}

theorem set_same {α : Type} {l : List α} {i : Nat} {x : α} (h : l[i]? = some x) : l.set i x = l := by
  refine List.ext_getElem? fun k => ?_
  by_cases ek : k = i
  · subst ek; rw [h, List.getElem?_set_self (List.getElem?_eq_some_iff.1 h).1]
  · rw [List.getElem?_set_ne (fun e' => ek e'.symm)]

theorem PO_mappend {x y : Operand} {t e : TypeId} {es xs : List GV} {id n size bytes : Nat} {z : Value} (ho : o.op = .call { callee := .builtin .append, args := ⟨[x, y]⟩, argTypes := ⟨[t, t]⟩ })
    (ht : P.underlying t = some (.slice e)) (hs : szB P e = some size) (hby : bytesB P e = some bytes) (hz : zeroB P e = some z) (hzs : Nat.beq z.cells.size size = true) (hx : ρ x = .mar id n) (hy : elems (ρ y) = some xs)
    (hm : H.mu[id]? = some (.arr n e es)) (hxs : ∀ x ∈ xs, x.cells.length = size) (hfit : (es.length + xs.length) * bytes ≤ 140737488355328) (hmax : es.length + xs.length ≤ maxLen) :
    PO P o ρ H (.mar id (n + xs.length)) ⟨H.bx, H.tk, H.mu.set id (.arr (n + xs.length) e (es ++ xs))⟩ := by
  intro c ρr hr hxx
  have hx1 := hxx x (by simp [ho, Op.operands, Call.operands])
  have hy1 := elems_ok (hxx y (by simp [ho, Op.operands, Call.operands])) hy
  rw [hx] at hx1
  have hzs := Nat.eq_of_beq_eq_true hzs
  obtain ⟨i, hi⟩ : ∃ i, P.info? e = some i := by
    unfold szB at hs
    cases h : P.info? e with
    | none => rw [h] at hs; cases hs
    | some i => exact ⟨i, rfl⟩
  have hisz : i.size = size := by unfold szB at hs; rw [hi] at hs; simpa using hs
  have hiby : i.bytes = bytes := by unfold bytesB at hby; rw [hi] at hby; simpa using hby
  have hiz : i.zero = some z := by
    unfold zeroB at hz; rw [hi] at hz; simpa using hz
  subst hisz; subst hiby
  generalize hvx : ρr x = v at hx1
  generalize hvy : ρr y = u at hy1
  have hop : (execOp ρr o).run P c.w = ((Builtin.append_ #[t, t] o.type #[v, u]).run P c.w).andThen fun r w => .ok (.value r) w := by
    simp [execOp, ho, resolve, invoke, builtin, hvx, hvy]
  unfold OpGoes
  rw [hop]
  cases hx1 with
  | mar _ _ _ tk htk hn h1' hv =>
  have hmk := hr.mu id tk _ htk hm
  obtain ⟨a1, a2, a3, a4⟩ := hmk
  have hid := (List.getElem?_eq_some_iff.1 htk).1
  have htm := List.mem_of_getElem? htk
  have hsame : tk.size = i.size := by rw [hi] at a3; simpa using a3.symm
  by_cases hne : xs = []
  · subst hne
    have hu : u = .slice none 0 0 ∨ ∃ a c', u = .slice (some a) 0 c' := by
      cases hy1 with
      | nil => exact .inl rfl
      | sl _ a cap => exact .inr ⟨a, cap, rfl⟩
    have hrun : (Builtin.append_ #[t, t] o.type #[v, u]).run P c.w = .ok v c.w := by
      rcases hv a1.symm with ⟨lv, rfl⟩ | ⟨_, rfl⟩
      · rcases a4 with ⟨lv', _⟩ | ⟨_, cur, b1, b2, b3, b4, b5, b6⟩
        · rw [lv] at lv'; cases lv'
        · exact run_append_zero c.w ht hi _ _ _ (by rw [a2]; exact b3) (.inr ⟨_, rfl⟩) u hu
      · exact run_append_zero c.w ht hi none 0 0 (Nat.le_refl _) (.inl rfl) u hu
    rw [hrun]
    refine ⟨c, rfl, ?_, Evo.refl c, .mar id _ v tk htk hn h1' hv⟩
    rw [List.append_nil]
    show Rel P c ⟨H.bx, H.tk, H.mu.set id (.arr n e es)⟩
    rw [set_same hm]
    exact hr
  · obtain ⟨a, m, news, rfl, ln, hnews, hn1, hnrg⟩ := slice_cells hy1 hxs hne
    have hpos : 0 < xs.length := List.length_pos_iff.2 hne
    have fin : ∀ (w' : World) (t' : MTok) (olds rest : List Value) (cur : Array Value),
        t'.size = i.size → t'.gen = n + xs.length → t'.len = es.length + xs.length → t'.live = true → w'.os = c.w.os → w'.tape = c.w.tape → w'.output = c.w.output → c.w.heap.size ≤ w'.heap.size →
        (∀ b, b < c.w.heap.size → (tk.live = true → b ≠ tk.g) → w'.heap[b]? = c.w.heap[b]?) → ((tk.live = true ∧ t'.g = tk.g) ∨ (c.w.heap.size ≤ t'.g ∧ t'.g < w'.heap.size)) →
        w'.heap[t'.g]? = some (.cells cur e (0, 0)) → cur = (olds ++ news ++ rest).toArray → cur.size = t'.cap * i.size → t'.cap ≤ maxLen → es.length + xs.length ≤ t'.cap → olds.length = es.length * i.size → (∀ x ∈ es, x.cells.length = i.size) →
        (∀ (k : Nat) (x : GV) (j : Nat) (g : GV) (v : Value), es[k]? = some x → x.cells[j]? = some g → olds[k * i.size + j]? = some v → RG c.w c.stab g v ∧ v.oneCell' = true) →
        ∃ c' : Ctx, c'.w = w' ∧ Rel P c' ⟨H.bx, H.tk, H.mu.set id (.arr (n + xs.length) e (es ++ xs))⟩ ∧ Evo c c' ∧ RV c' (.mar id (n + xs.length)) (.slice (some ⟨t'.g, 0, none⟩) (es.length + xs.length) t'.cap) := by
      intro w' t' olds rest cur e2 e3 e4 e5 o1 o2 o3 o4 o5 o7 hh hcur hcs hcm hcap lo hes horg
      obtain ⟨g1, g2⟩ := hr.setMu htk (t' := t') (o' := .arr (n + xs.length) e (es ++ xs)) (by rw [e2, hsame]) (.inr (by omega)) o1 o2 o3 o4 o5 (fun _ => o7) (fun hE => by
        refine ⟨e3, by rw [e4]; simp, by rw [e2, hi]; rfl, .inr ⟨e5, cur, hh, by rw [e2]; exact hcs, by simpa using hcap, hcm, ?_, ?_⟩⟩
        · intro x hx
          rw [e2]
          rcases List.mem_append.1 hx with h | h
          · exact hes x h
          · exact hxs x h
        · intro k x j g v hx hg hv'
          rw [e2, hcur] at hv'
          simp only [List.getElem?_toArray] at hv'
          have hjl := (List.getElem?_eq_some_iff.1 hg).1
          by_cases hk : k < es.length
          · rw [List.getElem?_append_left hk] at hx
            rw [hes x (List.mem_of_getElem? hx)] at hjl
            have hlt : k * i.size + j < olds.length := by
              have h1 : (k + 1) * i.size ≤ es.length * i.size := Nat.mul_le_mul_right _ hk
              rw [Nat.add_mul, Nat.one_mul] at h1
              omega
            rw [List.append_assoc, List.getElem?_append_left hlt] at hv'
            exact ⟨(horg k x j g v hx hg hv').1.mono hE.keep, (horg k x j g v hx hg hv').2⟩
          · rw [List.getElem?_append_right (by omega)] at hx
            have hk2 := (List.getElem?_eq_some_iff.1 hx).1
            rw [hxs x (List.mem_of_getElem? hx)] at hjl
            have hsub : k * i.size = es.length * i.size + (k - es.length) * i.size := by rw [← Nat.add_mul]; congr 1; omega
            have hlt : (k - es.length) * i.size + j < news.length := by
              have h1 : (k - es.length + 1) * i.size ≤ xs.length * i.size := Nat.mul_le_mul_right _ hk2
              rw [Nat.add_mul, Nat.one_mul] at h1
              omega
            rw [List.append_assoc, List.getElem?_append_right (by omega), List.getElem?_append_left (by omega), show k * i.size + j - olds.length = (k - es.length) * i.size + j by omega] at hv'
            exact ⟨(hnrg (k - es.length) x j g v hx hg hv').mono hE.keep, hn1 v (List.mem_of_getElem? hv')⟩)
      refine ⟨_, rfl, g1, g2, .mar id _ _ t' (List.getElem?_set_self hid) (by omega) rfl (fun _ => .inl ⟨e5, by rw [e4]⟩)⟩
    rcases hv a1.symm with ⟨lv, rfl⟩ | ⟨lv, rfl⟩
    · rcases a4 with ⟨lv', _⟩ | ⟨_, cur, b1, b2, b3, b4, b5, b6⟩
      · rw [lv] at lv'; cases lv'
      · rw [a2]
        rw [hsame] at b2 b5
        have hle : es.length * i.size ≤ cur.size := by rw [b2]; exact Nat.mul_le_mul_right _ b3
        have lo : (cur.toList.take (es.length * i.size)).length = es.length * i.size := by simp; omega
        have horg : ∀ (k : Nat) (x : GV) (j : Nat) (g : GV) (v : Value), es[k]? = some x → x.cells[j]? = some g → (cur.toList.take (es.length * i.size))[k * i.size + j]? = some v → RG c.w c.stab g v ∧ v.oneCell' = true := by
          intro k x j g v hx hg hv'
          rw [List.getElem?_take] at hv'
          split at hv'
          · have := b6 k x j g v hx hg (by rw [hsame]; simpa using hv')
            exact this
          · cases hv'
        by_cases hroom : es.length + xs.length ≤ tk.cap
        · have hfit' : es.length * i.size + news.length ≤ cur.size := by
            rw [ln, b2, ← Nat.add_mul]; exact Nat.mul_le_mul_right _ hroom
          rw [run_append_room c.w t o.type e i ht hi tk.g es.length tk.cap cur b1 a xs.length m news ln hnews hn1 hroom hfit']
          have := fin (c.w.setRow tk.g (cur.toList.take (es.length * i.size) ++ news ++ cur.toList.drop (es.length * i.size + news.length)).toArray) { tk with gen := n + xs.length, len := es.length + xs.length } (cur.toList.take (es.length * i.size)) (cur.toList.drop (es.length * i.size + news.length)) _ hsame rfl rfl lv rfl rfl rfl (by simp) (fun b hb h => setRow_other c.w tk.g b _ (h lv)) (.inl ⟨lv, rfl⟩) (setRow_heap c.w tk.g cur _ e (0, 0) b1) rfl ?_ b4 hroom lo b5 horg
          · exact this
          · simp only [List.size_toArray, List.length_append, lo, List.length_drop, Array.length_toList]
            rw [b2] at hfit' ⊢
            show _ = tk.cap * i.size
            omega
        · have hg : tk.cap < es.length + xs.length := by omega
          have h63 : ((es.length + xs.length : Nat) : Int) ≤ 9223372036854775807 := by simp only [maxLen] at hmax; omega
          have hocell : ∀ j v, (cur.toList.take (es.length * i.size))[j]? = some v → c.w.cell? ((⟨tk.g, 0, none⟩ : Addr).add j) = some v := by
            intro j v hj
            rw [List.getElem?_take] at hj
            split at hj
            · rw [add_eq _ _ rfl]
              rw [show ((⟨tk.g, 0, none⟩ : Addr).off + j) = j by simp]
              show c.w.cell? ⟨tk.g, j, none⟩ = some v
              rw [cell_of_row c.w tk.g j cur e (0, 0) b1]
              simpa using hj
            · cases hj
          rw [run_append_grow c.w t o.type e i z ht hi hiz ⟨tk.g, 0, none⟩ es.length tk.cap (cur.toList.take (es.length * i.size)) lo hocell a xs.length m news ln hnews hg h63 (growslice_fits hg hfit)]
          have hge := grownCap_ge c.w (es.length + xs.length) tk.cap e
          have := fin (c.w.drew.alloc (.cells ((cur.toList.take (es.length * i.size)).toArray ++ news.toArray ++ Builtin.zeroCells z.cells (grownCap c.w (es.length + xs.length) tk.cap e - (es.length + xs.length))) e)) ⟨true, c.w.heap.size, i.size, n + xs.length, es.length + xs.length, grownCap c.w (es.length + xs.length) tk.cap e⟩ (cur.toList.take (es.length * i.size)) (Builtin.zeroCells z.cells (grownCap c.w (es.length + xs.length) tk.cap e - (es.length + xs.length))).toList _ rfl rfl rfl rfl rfl rfl rfl (by simp) (fun b hb _ => Go.heap_alloc_old c.w.drew _ b hb) (.inr ⟨Nat.le_refl _, by simp⟩) (Go.heap_alloc_new c.w.drew _) (by simp) ?_ (grownCap_le_maxLen _ _ _ _ hmax) hge lo b5 horg
          · exact this
          · simp only [Array.size_append, List.size_toArray, size_zeroCells, hzs, lo, ln]
            rw [← Nat.add_mul, ← Nat.add_mul]
            congr 1
            omega
    · have he0 : es = [] := by
        rcases a4 with ⟨_, h⟩ | ⟨lv', _⟩
        · exact h
        · rw [lv] at lv'; cases lv'
      subst he0
      have h63 : (xs.length : Int) ≤ 9223372036854775807 := by simp only [maxLen, List.length_nil] at hmax; omega
      have hfit' : xs.length * i.bytes ≤ 140737488355328 := by simpa using hfit
      rw [run_append_nil c.w t o.type e i z ht hi hiz a xs.length m news ln hnews hpos h63 (by omega)]
      have hge := grownCap_ge c.w xs.length 0 e
      have := fin (c.w.drew.alloc (.cells (news.toArray ++ Builtin.zeroCells z.cells (grownCap c.w xs.length 0 e - xs.length)) e)) ⟨true, c.w.heap.size, i.size, n + xs.length, xs.length, grownCap c.w xs.length 0 e⟩ [] (Builtin.zeroCells z.cells (grownCap c.w xs.length 0 e - xs.length)).toList _ rfl rfl (by simp) rfl rfl rfl rfl (by simp) (fun b hb _ => Go.heap_alloc_old c.w.drew _ b hb) (.inr ⟨Nat.le_refl _, by simp⟩) (Go.heap_alloc_new c.w.drew _) (by simp) (by
        simp only [Array.size_append, List.size_toArray, size_zeroCells, hzs, ln]
        rw [← Nat.add_mul]
        congr 1
        omega) (grownCap_le_maxLen _ _ _ _ (by simpa using hmax)) (by simpa using hge) (by simp) (by simp) (by simp)
      simpa using this

/-- The same of bytes. -/
theorem PO_mappb {x y : Operand} {t e : TypeId} {b : List UInt8} {xs : List GV} {id n bytes : Nat} {z : Value} (l : List UInt8) (ho : o.op = .call { callee := .builtin .append, args := ⟨[x, y]⟩, argTypes := ⟨[t, t]⟩ })
    (ht : P.underlying t = some (.slice e)) (hs : szB P e = some 1) (hby : bytesB P e = some bytes) (hz : zeroB P e = some z) (hzs : Nat.beq z.cells.size 1 = true) (hx : ρ x = .mar id n) (hy : elems (ρ y) = some xs)
    (hm : H.mu[id]? = some (.arr n e (bys b))) (hxs : xs = bys l) (hfit : (b.length + l.length) * bytes ≤ 140737488355328) (hmax : b.length + l.length ≤ maxLen) :
    PO P o ρ H (.mar id (n + l.length)) ⟨H.bx, H.tk, H.mu.set id (.arr (n + l.length) e (bys (b ++ l)))⟩ := by
  subst hxs
  have h1 : (bys b).length = b.length := by simp [bys]
  have h2 : (bys l).length = l.length := by simp [bys]
  have := PO_mappend (ρ := ρ) (H := H) ho ht hs hby hz hzs hx hy hm (by intro x hx; obtain ⟨v, _, rfl⟩ := List.mem_map.1 hx; rfl) (by rw [h1, h2]; exact hfit) (by rw [h1, h2]; exact hmax)
  rw [h2] at this
  have e : bys b ++ bys l = bys (b ++ l) := by simp [bys]
  rw [e] at this
  exact this
end
end Go.Pure
