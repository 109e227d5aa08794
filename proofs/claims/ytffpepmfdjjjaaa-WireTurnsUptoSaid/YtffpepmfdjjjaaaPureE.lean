/- A generic layer: the rules of operations that make or write boxes, calls of functions that only compute, and arithmetic. -/
import Derived.Test.YtffpepmfdjjjaaaPureD
namespace Go.Pure
open Go

section
variable {P : Program} {o : Oper} {ρ : Operand → PV} {H : PH}

theorem PO_alloc {t : TypeId} {z : Value} (ho : o.op = .alloc t) (hz : zeroB P t = some z) (h1 : z.cells.toList.all (·.oneCell') = true) :
    PO P o ρ H (.ptr H.bx.length 0) ⟨H.bx ++ [z.cells.toList.map constC], H.tk, H.mu⟩ := by
  intro c ρr hr hx
  have hrun : (execOp ρr o).run P c.w = .ok (.value (.pointer (some ⟨c.w.heap.size, 0, none⟩))) (c.w.alloc (.cells z.cells t)) := by
    simp [execOp, ho, Instr.alloc, run_zero hz, newVar, newRow, newObj, Sem.run]
  unfold OpGoes
  rw [hrun]
  have := hr.addBox (Ext.alloc c.w (.cells z.cells t)) (Nat.le_refl _) (by simp) (cs := z.cells.toList.map constC) (Go.heap_alloc_new c.w _) (by simp) (by
    intro j p v hp hv
    simp only [List.getElem?_map, Option.map_eq_some_iff] at hp
    obtain ⟨u, hu, rfl⟩ := hp
    rw [Array.getElem?_toList, hv] at hu
    cases hu
    exact ⟨constC_ok _ _, List.all_eq_true.1 h1 v (by rw [Array.mem_toList_iff]; exact Array.mem_of_getElem? hv)⟩)
  exact ⟨_, rfl, this.1, this.2, .ptr _ _ _ (by simp [← hr.len])⟩

theorem PO_box {t : TypeId} {x : Operand} {cs : List PV} (ho : o.op = .box t x) (hc : pvCells (ρ x) = some cs) :
    PO P o ρ H (.ptr H.bx.length 0) ⟨H.bx ++ [cs], H.tk, H.mu⟩ := by
  intro c ρr hr hx
  have hv := hx x (by simp [ho, Op.operands])
  have hrun : (execOp ρr o).run P c.w = .ok (.value (.pointer (some ⟨c.w.heap.size, 0, none⟩))) (c.w.alloc (.cells (ρr x).cells t)) := by
    simp [execOp, ho, Instr.box, newVar, newRow, newObj, Sem.run]
  unfold OpGoes
  rw [hrun]
  obtain ⟨e1, e2⟩ := pvCells_ok hv hc
  have := hr.addBox (Ext.alloc c.w (.cells (ρr x).cells t)) (Nat.le_refl _) (by simp) (cs := cs) (Go.heap_alloc_new c.w _) e1.symm e2
  exact ⟨_, rfl, this.1, this.2, .ptr _ _ _ (by simp [← hr.len])⟩

/-- Some cells in the place of others. -/
def splice (ds : List PV) (off : Nat) (cs : List PV) : List PV := ds.take off ++ cs ++ ds.drop (off + cs.length)

theorem PO_store {t : TypeId} {x y : Operand} {b off n : Nat} {cs ds : List PV} (ho : o.op = .store t x y) (hs : szB P t = some n) (hp : ρ x = .ptr b off) (hc : pvCells (ρ y) = some cs) (hn : cs.length = n)
    (hb : H.bx[b]? = some ds) (hl : off + n ≤ ds.length) : PO P o ρ H undefP ⟨H.bx.set b (splice ds off cs), H.tk, H.mu⟩ := by
  intro c ρr hr hx
  have hx1 := hx x (by simp [ho, Op.operands])
  have hy1 := hx y (by simp [ho, Op.operands])
  rw [hp] at hx1
  generalize hrx : ρr x = u at hx1
  cases hx1 with
  | ptr _ _ blk hblk =>
    obtain ⟨vals, T, e1, e2, e3⟩ := hr.bx b blk ds hblk hb
    obtain ⟨f1, f2⟩ := pvCells_ok hy1 hc
    have hone : ∀ v ∈ (ρr y).cells.toList, v.oneCell' = true := by
      intro v hv
      obtain ⟨j, hj, rfl⟩ := List.mem_iff_getElem.1 hv
      have hj' : j < cs.length := by rw [f1]; simpa using hj
      exact (f2 j cs[j] _ (List.getElem?_eq_getElem hj') (by simp)).2
    have hst := run_storeCells_at P blk off T (ρr y).cells.toList 0 vals c.w e1 (by simp <;> omega) hone
    have hrun : (execOp ρr o).run P c.w = .ok .skip (c.w.setRow blk (vals.toList.take off ++ (ρr y).cells.toList ++ vals.toList.drop (off + (ρr y).cells.size)).toArray) := by
      simp only [Nat.add_zero] at hst
      simp [execOp, ho, hrx, Instr.storeAt, Instr.sureAddr, storeVar, run_sizeOf hs, ← f1, hn, hst]
    unfold OpGoes
    rw [hrun]
    have hlen : (vals.toList.take off ++ (ρr y).cells.toList ++ vals.toList.drop (off + (ρr y).cells.size)).toArray.size = (splice ds off cs).length := by
      simp [splice, f1] <;> omega
    have := hr.setBox hblk hb e1 (cs' := splice ds off cs) hlen (by
      intro j p v hp' hv
      unfold splice at hp'
      simp only [List.getElem?_toArray] at hv
      by_cases h1 : j < off
      · rw [List.append_assoc, List.getElem?_append_left (by simp; omega)] at hp' hv
        simp only [List.getElem?_take, h1, if_true] at hp' hv
        exact e3 j p v hp' (by simpa using hv)
      · by_cases h2 : j < off + cs.length
        · rw [List.append_assoc, List.getElem?_append_right (by simp; omega), List.getElem?_append_left (by simp; omega)] at hp' hv
          have l1 : (List.take off ds).length = off := by simp; omega
          have l2 : (List.take off vals.toList).length = off := by simp; omega
          rw [l1] at hp'
          rw [l2] at hv
          exact f2 (j - off) p v hp' (by simpa using hv)
        · rw [List.getElem?_append_right (by simp; omega)] at hp' hv
          have l1 : (List.take off ds ++ cs).length = off + cs.length := by simp; omega
          have l2 : (List.take off vals.toList ++ (ρr y).cells.toList).length = off + cs.length := by simp [f1]; omega
          rw [l1, List.getElem?_drop] at hp'
          rw [l2, List.getElem?_drop] at hv
          rw [← f1] at hv
          have e : off + cs.length + (j - (off + cs.length)) = j := by omega
          rw [e] at hp' hv
          exact e3 j p v hp' (by simpa using hv))
    exact ⟨_, rfl, this.1, this.2, .g _ _ (.raw _)⟩

/-! ### Calls -/
def enterB (P : Program) (f : FuncId) : Bool := match P.funcs[f]? with | some fn => !(fn.name == "runtime.NumGoroutine") && fn.body.isSome | none => false

theorem run_callFunc {f : FuncId} (h : enterB P f = true) (args : Array Value) (w : World) : (callFunc f args).run P w = .ok (.enter f args) w := by
  unfold enterB at h
  cases hf : P.funcs[f]? with
  | none => rw [hf] at h; cases h
  | some fn =>
    rw [hf] at h
    simp only [Bool.and_eq_true, Bool.not_eq_true'] at h
    obtain ⟨h1, h2⟩ := h
    have h3 : fn.body.isNone = false := by cases hb : fn.body <;> simp_all
    simp only [callFunc, program, Sem.run_bind, Sem.run, Result.andThen_ok, hf]
    simp [h1, h3]

/-- The context of a call that gets nothing that may be written. -/
def Ctx.close (c : Ctx) : Ctx := ⟨[], [], [], fun b p => c.hid b p ∨ b ∈ c.σ ∨ (∃ t ∈ c.τ, t.live = true ∧ t.g = b ∧ ¬ p < t.hw * t.size) ∨ ∃ t ∈ c.μ, t.live = true ∧ t.g = b, c.w⟩

theorem close_stab (c : Ctx) (b p : Nat) : c.close.stab b p ↔ c.stab b p := by
  unfold Ctx.stab Ctx.close
  constructor
  · rintro ⟨h, _, _⟩
    refine ⟨fun x => h (.inl x), fun x => h (.inr (.inl x)), fun t ht lv e => ?_, fun t ht lv e => h (.inr (.inr (.inr ⟨t, ht, lv, e⟩)))⟩
    exact Classical.byContradiction fun hn => h (.inr (.inr (.inl ⟨t, ht, lv, e, hn⟩)))
  · rintro ⟨h1, h2, h3, h4⟩
    refine ⟨?_, by simp, by simp, by simp⟩
    rintro (h | h | ⟨t, ht, lv, e, hn⟩ | ⟨t, ht, lv, e⟩)
    · exact h1 h
    · exact h2 h
    · exact hn (h3 t ht lv e)
    · exact h4 t ht lv e

theorem close_stab_eq (c : Ctx) : c.close.stab = c.stab := funext fun b => funext fun p => propext (close_stab c b p)

theorem close_rel {c : Ctx} (hr : Rel P c H) : Rel P c.close ⟨[], [], []⟩ := by
  refine ⟨rfl, by simp [Ctx.close], rfl, by simp [Ctx.close], by simp [Ctx.close], by simp [Ctx.close], by simp [Ctx.close], ?_, by simp [Ctx.close], by simp [Ctx.close], by simp [Ctx.close], rfl, by simp [Ctx.close], by simp [Ctx.close], by simp [Ctx.close], by simp [Ctx.close], by simp [Ctx.close], by simp [Ctx.close]⟩
  intro b p h
  rcases h with h | h | ⟨t, ht, lv, e, _⟩ | ⟨t, ht, lv, e⟩
  · exact hr.hidlt b p h
  · exact hr.shid b h
  · exact e ▸ hr.tlt ht lv
  · exact e ▸ hr.mlt t ht lv

/-- A value without identity: ground, or a tuple of ground ones. -/
def closedV : PV → Prop
  | .g _ => True
  | .tuple cs => ∀ p ∈ cs, ∃ x, p = .g x
  | _ => False

theorem close_back {c c' : Ctx} (hr : Rel P c H) (hr' : Rel P c' ⟨[], [], []⟩) (hE : Evo c.close c') :
    Rel P ⟨c.σ, c.τ, c.μ, c.hid, c'.w⟩ H ∧ Evo c ⟨c.σ, c.τ, c.μ, c.hid, c'.w⟩ ∧ ∀ p v, closedV p → RV c' p v → RV ⟨c.σ, c.τ, c.μ, c.hid, c'.w⟩ p v := by
  have hX : Ext c.w c'.w := ⟨hE.os, hE.tape, hE.output, hE.size, fun b hb => hE.frame b hb (by simp [Ctx.close]) (by simp [Ctx.close]) (by simp [Ctx.close])⟩
  obtain ⟨h1, h2⟩ := hr.grow hX
  refine ⟨h1, h2, ?_⟩
  have hσ : c'.σ = [] := List.eq_nil_of_length_eq_zero (by simpa using hr'.len)
  have hτ : c'.τ = [] := by have := hr'.tk; simpa using this
  have hst : ∀ b p, c'.stab b p → Ctx.stab ⟨c.σ, c.τ, c.μ, c.hid, c'.w⟩ b p := by
    intro b p hs
    have hh : ¬ c.close.hid b p := by have := hs.1; rwa [hE.hid] at this
    refine ⟨fun x => hh (.inl x), fun x => hh (.inr (.inl x)), fun t ht lv e => ?_, fun t ht lv e => hh (.inr (.inr (.inr ⟨t, ht, lv, e⟩)))⟩
    exact Classical.byContradiction fun hn => hh (.inr (.inr (.inl ⟨t, ht, lv, e, hn⟩)))
  have key : ∀ g v, RG c'.w c'.stab g v → RG c'.w (Ctx.stab ⟨c.σ, c.τ, c.μ, c.hid, c'.w⟩) g v := fun g v hg => hg.mono fun a u _ hs hc => ⟨hc, hst _ _ hs⟩
  intro p v hp hv
  cases hv with
  | g x v hg => exact .g _ _ (key _ _ hg)
  | tuple cs vs hl hh =>
    refine .tuple cs vs hl fun i q u hq hu => ?_
    obtain ⟨x, rfl⟩ := hp q (List.mem_of_getElem? hq)
    have := hh i _ u hq hu
    cases this with | g _ _ hg => exact .g _ _ (key _ _ hg)
  | _ => exact hp.elim

/-- What the operands come to, ground. -/
def groundArgs (ρ : Operand → PV) (args : List Operand) (as : List GV) : Prop := args.map (fun x => pack (ρ x)) = as.map .g

theorem PO_call_pure {f : Operand} {args : Array Operand} {ts : Array TypeId} {id : FuncId} {as : List GV} {v : PV} (ho : o.op = .call { callee := .value f, args := args, argTypes := ts })
    (hf : ρ f = .g (.raw (.func (.func id) #[] #[]))) (he : enterB P id = true) (ha : groundArgs ρ args.toList as) (hv : closedV v) (hp : PC P id (as.map .g) ⟨[], [], []⟩ v ⟨[], [], []⟩) : PO P o ρ H v H := by
  intro c ρr hr hx
  have hops : ∀ x, x = f ∨ x ∈ args.toList → x ∈ o.op.operands.toList := by
    intro x hx
    simp [ho, Op.operands, Call.operands]
    rcases hx with rfl | hx
    · exact .inl rfl
    · exact .inr (by simpa using hx)
  have hf1 := hx f (hops f (.inl rfl))
  rw [hf] at hf1
  have hf2 := RV_raw hf1
  have hrun : (execOp ρr o).run P c.w = .ok (.enter id (args.map ρr)) c.w := by
    simp [execOp, ho, resolve, hf2, Deferred.ofValue, invoke, run_callFunc he]
  unfold OpGoes
  rw [hrun]
  have hargs : RVs c.close (as.map .g) (args.map ρr) := by
    have hlen := congrArg List.length ha
    simp at hlen
    refine ⟨by simp [hlen], fun i p u hp' hu => ?_⟩
    simp only [Array.getElem?_map, Option.map_eq_some_iff] at hu
    obtain ⟨x, hx1, rfl⟩ := hu
    have h1 : (args.toList.map fun x => pack (ρ x))[i]? = some (pack (ρ x)) := by simp [hx1]
    rw [ha, hp'] at h1
    have h2 := pack_ok (hx x (hops x (.inr (by rw [Array.mem_toList_iff]; exact Array.mem_of_getElem? hx1))))
    rw [← Option.some_inj.1 h1] at h2
    simp only [List.getElem?_map, Option.map_eq_some_iff] at hp'
    obtain ⟨g, _, rfl⟩ := hp'
    cases h2 with | g _ _ hg => exact .g _ _ (by rw [close_stab_eq]; exact hg)
  refine (hp c.close _ (close_rel hr) hargs).mono ?_
  rintro e w' ⟨rv, c', rfl, rfl, hr', hE, hv'⟩
  obtain ⟨h1, h2, h3⟩ := close_back hr hr' hE
  exact ⟨rv, rfl, ⟨c.σ, c.τ, c.μ, c.hid, c'.w⟩, rfl, h1, h2, h3 v rv hv hv'⟩
end
end Go.Pure
