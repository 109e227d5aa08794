/- A generic layer: the rules of single operations. -/
import Derived.Test.YtffpepmfdjjjaaaPureB
import Derived.Laws.Alloc2
namespace Go.Pure
open Go

/-! ### What the program says of its types -/
def aggB (P : Program) (t : TypeId) : Option Bool := (P.underlying t).map fun | .struct _ | .array _ _ => true | _ => false
def szB (P : Program) (t : TypeId) : Option Nat := (P.info? t).map (·.size)
def fieldB (P : Program) (s : TypeId) (k : Nat) : Option (Nat × TypeId) :=
  match P.underlying s with
  | some (.struct fs) => match fs[k]? with
    | some f => match szB P f.type with
      | some (_ + 1) => some (f.offset, f.type)
      | _ => none
    | none => none
  | _ => none
def elemB (P : Program) (t : TypeId) : Option TypeId := match P.underlying t with | some (.slice e) => some e | _ => none
def zeroB (P : Program) (t : TypeId) : Option Value := (P.info? t).bind (·.zero)

section
variable {P : Program} {w : World}

theorem run_isAgg {t : TypeId} {b : Bool} (h : aggB P t = some b) : (isAgg t).run P w = .ok b w := by
  unfold aggB at h
  cases hu : P.underlying t with
  | none => rw [hu] at h; cases h
  | some d =>
    rw [hu] at h
    simp only [Option.map_some, Option.some.injEq] at h
    simp only [isAgg, Sem.run_bind, run_underlying hu, Result.andThen_ok]
    split at h <;> subst h <;> simp_all

theorem run_sizeOf {t : TypeId} {n : Nat} (h : szB P t = some n) : (sizeOf t).run P w = .ok n w := by
  unfold szB at h
  cases hu : P.info? t with
  | none => rw [hu] at h; cases h
  | some d =>
    rw [hu] at h
    simp only [Option.map_some, Option.some.injEq] at h
    simp [sizeOf, typeInfo, hu, h]

theorem run_zero {t : TypeId} {z : Value} (h : zeroB P t = some z) : (zeroValue t).run P w = .ok z w := by
  unfold zeroB at h
  cases hu : P.info? t with
  | none => rw [hu] at h; cases h
  | some d =>
    rw [hu] at h
    simp only [Option.bind_some] at h
    simp [zeroValue, typeInfo, hu, h]

theorem run_fieldAt {s : TypeId} {k off : Nat} {ft : TypeId} (h : fieldB P s k = some (off, ft)) (a : Addr) :
    (Instr.fieldAt s (.pointer (some a)) k).run P w = .ok (.pointer (some (a.add off))) w := by
  unfold fieldB at h
  split at h
  · rename_i fs hu
    split at h
    · rename_i f hf
      split at h
      · rename_i n hn
        simp only [Option.some.injEq, Prod.mk.injEq] at h
        simp [Instr.fieldAt, run_underlying hu, hf, Instr.sureAddr, fieldPlace, run_sizeOf hn, h.1]
      · cases h
    · cases h
  · cases h
end

/-! ### Values and their cells -/
theorem RG.oneCell {w : World} {S : Nat → Nat → Prop} {g : GV} {v : Value} (h : RG w S g v) (h1 : ∀ cs, g ≠ .agg cs) (h2 : ∀ v, g ≠ .raw v) : v.oneCell' = true := by
  cases h <;> first | rfl | exact absurd rfl (h1 _) | exact absurd rfl (h2 _)

/-- A value's cells. -/
def pvCells : PV → Option (List PV)
  | .g (.agg cs) => some (cs.map .g)
  | .g (.raw v) => if v.oneCell' then some [.g (.raw v)] else none
  | .agg cs => some cs
  | .tuple _ | .any => none
  | p => some [p]

theorem cells_one {v : Value} (h : v.oneCell' = true) : v.cells = #[v] := by cases v <;> first | rfl | cases h

theorem pvCells_ok {c : Ctx} {p : PV} {v : Value} (h : RV c p v) {cs : List PV} (hc : pvCells p = some cs) :
    cs.length = v.cells.size ∧ ∀ (j : Nat) (q : PV) (u : Value), cs[j]? = some q → v.cells[j]? = some u → RV c q u ∧ u.oneCell' = true := by
  have one : ∀ {p : PV} {v : Value}, RV c p v → v.oneCell' = true → ([p] : List PV).length = v.cells.size ∧
      ∀ (j : Nat) (q : PV) (u : Value), ([p] : List PV)[j]? = some q → v.cells[j]? = some u → RV c q u ∧ u.oneCell' = true := by
    intro p v h h1
    rw [cells_one h1]
    refine ⟨rfl, fun j q u hq hu => ?_⟩
    cases j with
    | zero => simp at hq hu; subst hq; subst hu; exact ⟨h, h1⟩
    | succ j => simp at hq
  cases h with
  | g x v hg =>
    cases hg with
    | agg gs vs hl h1 hh =>
      simp only [pvCells, Option.some.injEq] at hc
      subst hc
      refine ⟨by simpa [Value.cells] using hl, fun j q u hq hu => ?_⟩
      simp only [List.getElem?_map, Option.map_eq_some_iff] at hq
      obtain ⟨x, hx, rfl⟩ := hq
      simp only [Value.cells] at hu
      exact ⟨.g _ _ (hh j x u hx hu), h1 u (by rw [Array.mem_toList_iff]; exact Array.mem_of_getElem? hu)⟩
    | raw v =>
      simp only [pvCells] at hc
      split at hc
      · rename_i h1; simp at hc; subst hc; exact one (.g _ _ (.raw _)) h1
      · cases hc
    | int k n => simp [pvCells] at hc; subst hc; exact one (.g _ _ (.int _ _)) rfl
    | bool b => simp [pvCells] at hc; subst hc; exact one (.g _ _ (.bool _)) rfl
    | str s => simp [pvCells] at hc; subst hc; exact one (.g _ _ (.str _)) rfl
    | nil => simp [pvCells] at hc; subst hc; exact one (.g _ _ .nil) rfl
    | sl es a cap size f ha hcc hm hs hf hh => simp [pvCells] at hc; subst hc; exact one (.g _ _ (.sl es a cap size f ha hcc hm hs hf hh)) rfl
  | own es id v t hg ht hs hl hv =>
    simp [pvCells] at hc; subst hc
    exact one (.own es id v t hg ht hs hl hv) (hg.oneCell (by simp) (by simp))
  | ptr b off blk hb => simp [pvCells] at hc; subst hc; exact one (.ptr _ _ _ hb) rfl
  | nilp => simp [pvCells] at hc; subst hc; exact one .nilp rfl
  | nils => simp [pvCells] at hc; subst hc; exact one .nils rfl
  | pat cs a f ha hf hh => simp [pvCells] at hc; subst hc; exact one (.pat cs a f ha hf hh) rfl
  | clo fn ps qs us vs hp hq h1 h2 => simp [pvCells] at hc; subst hc; exact one (.clo fn ps qs us vs hp hq h1 h2) rfl
  | agg gs vs hl h1 hh =>
    simp [pvCells] at hc; subst hc
    refine ⟨hl, fun j q u hq hu => ?_⟩
    simp only [Value.cells] at hu
    exact ⟨hh j q u hq hu, h1 u (by rw [Array.mem_toList_iff]; exact Array.mem_of_getElem? hu)⟩
  | tuple => cases hc
  | mar id n v t ht hn h1 hv => simp [pvCells] at hc; subst hc; exact one (.mar id n v t ht hn h1 hv) h1
  | mref id n i off v t ht hn h1 hv => simp [pvCells] at hc; subst hc; exact one (.mref id n i off v t ht hn h1 hv) rfl
  | mp id v t ht h1 hv => simp [pvCells] at hc; subst hc; exact one (.mp id v t ht h1 hv) h1
  | any => cases hc

/-- Cells that are all ground. -/
def allG : List PV → Option (List GV)
  | [] => some []
  | p :: r =>
    match p with
    | .g x => (allG r).map (x :: ·)
    | .nils => (allG r).map (.sl [] :: ·)
    | .own es _ => (allG r).map (.sl es :: ·)
    | _ => none

/-- A value said without its identity, where that can be. -/
def pack : PV → PV
  | .own es _ => .g (.sl es)
  | .nils => .g (.sl [])
  | .agg cs => match allG cs with | some gs => .g (.agg gs) | none => .agg cs
  | p => p

theorem allG_ok {c : Ctx} : ∀ {cs : List PV} {gs : List GV}, allG cs = some gs → gs.length = cs.length ∧ ∀ (i : Nat) (g : GV) (p : PV), gs[i]? = some g → cs[i]? = some p → ∀ v, RV c p v → RG c.w c.stab g v
  | [], gs, h => by simp [allG] at h; subst h; simp
  | p :: r, gs, h => by
    have key : ∀ (x : GV), (∀ v, RV c p v → RG c.w c.stab x v) → (allG r).map (x :: ·) = some gs → gs.length = (p :: r).length ∧ ∀ (i : Nat) (g : GV) (q : PV), gs[i]? = some g → (p :: r)[i]? = some q → ∀ v, RV c q v → RG c.w c.stab g v := by
      intro x hx he
      simp only [Option.map_eq_some_iff] at he
      obtain ⟨gs', hr, rfl⟩ := he
      obtain ⟨h1, h2⟩ := allG_ok (c := c) hr
      refine ⟨by simpa using h1, fun i g q hg hq v hv => ?_⟩
      cases i with
      | zero => simp at hg hq; subst hg; subst hq; exact hx v hv
      | succ i => exact h2 i g q (by simpa using hg) (by simpa using hq) v hv
    unfold allG at h
    split at h
    · exact key _ (fun v hv => by cases hv; assumption) h
    · exact key _ (fun v hv => by cases hv; exact .nil) h
    · exact key _ (fun v hv => by cases hv; assumption) h
    · cases h

theorem pack_ok {c : Ctx} {p : PV} {v : Value} (h : RV c p v) : RV c (pack p) v := by
  unfold pack
  split
  · cases h with | own es id v t hg => exact .g _ _ hg
  · cases h; exact .g _ _ .nil
  · rename_i cs
    split
    · rename_i gs hgs
      cases h with
      | agg _ vs hl h1 hh =>
        obtain ⟨e1, e2⟩ := allG_ok (c := c) hgs
        refine .g _ _ (.agg _ _ (e1.trans hl) h1 fun i g u hg hu => ?_)
        have hi : i < cs.length := by rw [← e1]; exact (List.getElem?_eq_some_iff.1 hg).1
        exact e2 i g _ hg (List.getElem?_eq_getElem hi) u (hh i _ u (List.getElem?_eq_getElem hi) hu)
    · exact h
  · exact h

/-! ### Operations that leave the world as it is -/
section
variable {P : Program} {o : Oper} {ρ : Operand → PV} {H : PH}

theorem PO_val {v : PV} (h : ∀ (c : Ctx) (ρr : Operand → Value), Rel P c H → (∀ x ∈ o.op.operands.toList, RV c (ρ x) (ρr x)) → ∃ rv, (execOp ρr o).run P c.w = .ok (.value rv) c.w ∧ RV c v rv) : PO P o ρ H v H := by
  intro c ρr hr hx
  obtain ⟨rv, h1, h2⟩ := h c ρr hr hx
  unfold OpGoes
  rw [h1]
  exact ⟨c, rfl, hr, Evo.refl c, h2⟩

theorem PO_move {x : Operand} (ho : o.op = .move x) : PO P o ρ H (ρ x) H :=
  PO_val fun c ρr hr hx => ⟨ρr x, by simp [execOp, ho], hx x (by simp [ho, Op.operands])⟩

theorem PO_assign {x : Operand} (ho : o.op = .assign x) : PO P o ρ H (ρ x) H :=
  PO_val fun c ρr hr hx => ⟨ρr x, by simp [execOp, ho], hx x (by simp [ho, Op.operands])⟩

theorem RV_bool {c : Ctx} {b : Bool} {v : Value} (h : RV c (.g (.bool b)) v) : v = .bool b := by cases h with | g x v hg => cases hg; rfl
theorem RV_int {c : Ctx} {k : IntKind} {n : Int} {v : Value} (h : RV c (.g (.int k n)) v) : v = .int k n := by cases h with | g x v hg => cases hg; rfl
theorem RV_str {c : Ctx} {s : ByteArray} {v : Value} (h : RV c (.g (.str s)) v) : v = .string s := by cases h with | g x v hg => cases hg; rfl
theorem RV_raw {c : Ctx} {u : Value} {v : Value} (h : RV c (.g (.raw u)) v) : v = u := by cases h with | g x v hg => cases hg; rfl

theorem PO_pick {x y z : Operand} {b : Bool} (ho : o.op = .pick x y z) (hb : ρ x = .g (.bool b)) : PO P o ρ H (if b then ρ y else ρ z) H :=
  PO_val fun c ρr hr hx => by
    have h1 := hx x (by simp [ho, Op.operands])
    rw [hb] at h1
    refine ⟨if b then ρr y else ρr z, by simp [execOp, ho, RV_bool h1, asBool], ?_⟩
    split
    · exact hx y (by simp [ho, Op.operands])
    · exact hx z (by simp [ho, Op.operands])

theorem PO_fieldAddr_ptr {s : TypeId} {x : Operand} {k b off d : Nat} {ft : TypeId} (ho : o.op = .fieldAddr s x k) (hf : fieldB P s k = some (d, ft)) (hp : ρ x = .ptr b off) : PO P o ρ H (.ptr b (off + d)) H :=
  PO_val fun c ρr hr hx => by
    have h1 := hx x (by simp [ho, Op.operands])
    rw [hp] at h1
    generalize hv : ρr x = v at h1
    cases h1 with
    | ptr _ _ blk hb =>
      refine ⟨.pointer (some ⟨blk, off + d, none⟩), ?_, .ptr _ _ _ hb⟩
      simp [execOp, ho, hv, run_fieldAt hf, add_eq]

theorem PO_fieldAddr_mref {s : TypeId} {x : Operand} {k id n i off d : Nat} {ft : TypeId} (ho : o.op = .fieldAddr s x k) (hf : fieldB P s k = some (d, ft)) (hp : ρ x = .mref id n i off) : PO P o ρ H (.mref id n i (off + d)) H :=
  PO_val fun c ρr hr hx => by
    have h1 := hx x (by simp [ho, Op.operands])
    rw [hp] at h1
    generalize hv : ρr x = v at h1
    cases h1 with
    | mref _ _ _ _ a t ht hn hs hv' =>
      refine ⟨.pointer (some (a.add d)), by simp [execOp, ho, hv, run_fieldAt hf], .mref id n i (off + d) _ t ht hn (add_spot a d hs) (fun e => ?_)⟩
      rw [add_eq _ _ hs, hv' e]
      simp [Nat.add_assoc]

theorem PO_fieldAddr_pat {s : TypeId} {x : Operand} {k d : Nat} {ft : TypeId} {cs : List GV} (ho : o.op = .fieldAddr s x k) (hf : fieldB P s k = some (d, ft)) (hp : ρ x = .pat cs) : PO P o ρ H (.pat (cs.drop d)) H :=
  PO_val fun c ρr hr hx => by
    have h1 := hx x (by simp [ho, Op.operands])
    rw [hp] at h1
    generalize hv : ρr x = v at h1
    cases h1 with
    | pat _ a f ha hf' hh =>
      refine ⟨.pointer (some (a.add d)), by simp [execOp, ho, hv, run_fieldAt hf], .pat _ _ (fun j => f (d + j)) (add_spot a d ha) (fun j hj => ?_) (fun j g hg => hh (d + j) g (by simpa using hg))⟩
      have h2 := hf' (d + j) (by simp at hj; omega)
      rw [add_eq a _ ha] at h2
      rw [add_eq _ _ (add_spot a d ha), add_block, add_off, Nat.add_assoc]
      exact h2

/-- A struct's cells out of a list of cells. -/
def packCells (cs : List PV) : PV := pack (.agg cs)

theorem loadCells_box {c : Ctx} (hr : Rel P c H) {b blk : Nat} {cs : List PV} (hb : c.σ[b]? = some blk) (hc : H.bx[b]? = some cs) :
    ∃ vals : Array Value, vals.size = cs.length ∧ (∀ j, j < vals.size → c.w.cell? ⟨blk, j, none⟩ = some (vals.getD j undef)) ∧ ∀ (j : Nat) (p : PV), cs[j]? = some p → RV c p (vals.getD j undef) ∧ (vals.getD j undef).oneCell' = true := by
  obtain ⟨vals, T, h1, h2, h3⟩ := hr.bx b blk cs hb hc
  refine ⟨vals, h2, fun j hj => ?_, fun j p hp => ?_⟩
  · simp [World.cell?, h1, Array.getD_eq_getD_getElem?, hj]
  · have hj : j < vals.size := by rw [h2]; exact (List.getElem?_eq_some_iff.1 hp).1
    have := h3 j p vals[j] hp (by simp [hj])
    simpa [Array.getD_eq_getD_getElem?, hj] using this

theorem run_loadVar_agg {w : World} {t : TypeId} {n : Nat} (h1 : aggB P t = some true) (h2 : szB P t = some n) (a : Addr) (f : Nat → Value) (hc : ∀ j, j < n → w.cell? (a.add j) = some (f j)) :
    (loadVar t a).run P w = .ok (.agg (((List.range n).map f).toArray)) w := by
  simp only [loadVar, Sem.run_bind, run_isAgg h1, run_sizeOf h2, Result.andThen_ok, if_true]
  rw [run_loadCells w a n f hc]
  simp

theorem run_loadVar_one {w : World} {t : TypeId} (h1 : aggB P t = some false) (a : Addr) (v : Value) (hc : w.cell? a = some v) : (loadVar t a).run P w = .ok v w := by
  simp [loadVar, run_isAgg h1, hc]

theorem PO_load_ptr_one {t : TypeId} {x : Operand} {b off : Nat} {cs : List PV} {v : PV} (ho : o.op = .load t x) (h1 : aggB P t = some false) (hp : ρ x = .ptr b off) (hb : H.bx[b]? = some cs) (hv : cs[off]? = some v) : PO P o ρ H v H :=
  PO_val fun c ρr hr hx => by
    have hx1 := hx x (by simp [ho, Op.operands])
    rw [hp] at hx1
    generalize hrx : ρr x = u at hx1
    cases hx1 with
    | ptr _ _ blk hblk =>
      obtain ⟨vals, e1, e2, e3⟩ := loadCells_box hr hblk hb
      refine ⟨_, ?_, (e3 off v hv).1⟩
      have := e2 off (by rw [e1]; exact (List.getElem?_eq_some_iff.1 hv).1)
      simp [execOp, ho, hrx, Instr.loadAt, Instr.sureAddr, run_loadVar_one h1 _ _ this]

theorem PO_load_ptr_agg {t : TypeId} {x : Operand} {b off n : Nat} {cs : List PV} (ho : o.op = .load t x) (h1 : aggB P t = some true) (h2 : szB P t = some n) (hp : ρ x = .ptr b off) (hb : H.bx[b]? = some cs) (hn : off + n ≤ cs.length) :
    PO P o ρ H (.agg ((cs.drop off).take n)) H :=
  PO_val fun c ρr hr hx => by
    have hx1 := hx x (by simp [ho, Op.operands])
    rw [hp] at hx1
    generalize hrx : ρr x = u at hx1
    cases hx1 with
    | ptr _ _ blk hblk =>
      obtain ⟨vals, e1, e2, e3⟩ := loadCells_box hr hblk hb
      have hl := run_loadVar_agg (w := c.w) h1 h2 ⟨blk, off, none⟩ (fun j => vals.getD (off + j) undef) (fun j hj => by rw [add_eq _ _ rfl]; exact e2 (off + j) (by omega))
      refine ⟨_, by simp only [execOp, ho, hrx, Instr.loadAt, Instr.sureAddr]; simp [hl]; rfl, ?_⟩
      refine .agg _ _ (by simp; omega) ?_ ?_
      · intro v hv
        simp at hv
        obtain ⟨j, hj, rfl⟩ := hv
        have := (e3 (off + j) (cs[off + j]'(by omega)) (by simp)).2
        simpa [Array.getD_eq_getD_getElem?] using this
      · intro i p v hi hv
        simp [List.getElem?_take] at hi hv
        obtain ⟨hlt, hi⟩ := hi
        obtain ⟨i', h0, rfl⟩ := hv
        obtain ⟨h0, rfl⟩ := List.getElem?_eq_some_iff.1 h0
        rw [List.getElem_range]
        have := (e3 (off + i) p hi).1
        simpa [Array.getD_eq_getD_getElem?] using this

theorem PO_load_pat_one {t : TypeId} {x : Operand} {cs : List GV} {g : GV} (ho : o.op = .load t x) (h1 : aggB P t = some false) (hp : ρ x = .pat cs) (hv : cs[0]? = some g) : PO P o ρ H (.g g) H :=
  PO_val fun c ρr hr hx => by
    have hx1 := hx x (by simp [ho, Op.operands])
    rw [hp] at hx1
    generalize hrx : ρr x = u at hx1
    cases hx1 with
    | pat _ a f ha hf hh =>
      have h3 := (hf 0 (List.getElem?_eq_some_iff.1 hv).1).1
      rw [show a.add 0 = a from rfl] at h3
      exact ⟨f 0, by simp [execOp, ho, hrx, Instr.loadAt, Instr.sureAddr, run_loadVar_one h1 _ _ h3], .g _ _ (hh 0 g hv)⟩

theorem PO_load_pat_agg {t : TypeId} {x : Operand} {n : Nat} {cs : List GV} (ho : o.op = .load t x) (h1 : aggB P t = some true) (h2 : szB P t = some n) (hp : ρ x = .pat cs) (hn : n ≤ cs.length) :
    PO P o ρ H (.g (.agg (cs.take n))) H :=
  PO_val fun c ρr hr hx => by
    have hx1 := hx x (by simp [ho, Op.operands])
    rw [hp] at hx1
    generalize hrx : ρr x = u at hx1
    cases hx1 with
    | pat _ a f ha hf hh =>
      have hl := run_loadVar_agg (w := c.w) h1 h2 a f (fun j hj => (hf j (by omega)).1)
      refine ⟨_, by simp only [execOp, ho, hrx, Instr.loadAt, Instr.sureAddr]; simp [hl]; rfl, .g _ _ (.agg _ _ (by simp; omega) ?_ ?_)⟩
      · intro v hv
        simp at hv
        obtain ⟨j, hj, rfl⟩ := hv
        exact (hf j (by omega)).2.2
      · intro i g v hi hv
        simp [List.getElem?_take] at hi hv
        obtain ⟨i', h0, rfl⟩ := hv
        obtain ⟨h0, rfl⟩ := List.getElem?_eq_some_iff.1 h0
        rw [List.getElem_range]
        exact hh i g hi.2
end
end Go.Pure
