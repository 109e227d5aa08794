/- A generic layer: structs and slices that are written out. -/
import Derived.Test.YtffpepmfdjjjaaaPureK
namespace Go.Pure
open Go

def placesB (P : Program) (t : TypeId) : Option (List (Nat × Nat)) :=
  match P.underlying t with
  | some (.struct fs) => fs.toList.mapM fun f => (szB P f.type).map fun n => (f.offset, n)
  | _ => none

def fillP (pl : Nat → Option (Nat × Nat)) : List PV → List (Nat × PV) → Option (List PV)
  | cells, [] => some cells
  | cells, (i, p) :: r =>
    match pl i, pvCells p with
    | some (off, n), some cs => bif Nat.beq cs.length n && Nat.ble (off + n) cells.length then fillP pl (splice cells off cs) r else none
    | _, _ => none

/-- Cells against cells. -/
def RCs (c : Ctx) (cs : List PV) (vs : Array Value) : Prop :=
  vs.size = cs.length ∧ ∀ (j : Nat) (p : PV) (v : Value), cs[j]? = some p → vs[j]? = some v → RV c p v ∧ v.oneCell' = true

theorem foldl_set (f : Nat) : ∀ (l : List Value) (k : Nat) (cells : Array Value), ((l.zipIdx k).foldl (fun cs (x : Value × Nat) => cs.setIfInBounds (f + x.2) x.1) cells).size = cells.size ∧
    ∀ i : Nat, i < cells.size → ((l.zipIdx k).foldl (fun cs (x : Value × Nat) => cs.setIfInBounds (f + x.2) x.1) cells)[i]? = if f + k ≤ i ∧ i < f + k + l.length then l[i - (f + k)]? else cells[i]?
  | [], k, cells => by simp; omega
  | v :: l, k, cells => by
    obtain ⟨h1, h2⟩ := foldl_set f l (k + 1) (cells.setIfInBounds (f + k) v)
    simp only [List.zipIdx_cons, List.foldl_cons]
    refine ⟨by rw [h1]; simp, fun i hi => ?_⟩
    rw [h2 i (by simpa using hi)]
    by_cases e : i = f + k
    · subst e
      have : ¬ (f + (k + 1) ≤ f + k ∧ f + k < f + (k + 1) + l.length) := by omega
      rw [if_neg this, if_pos (by simp)]
      simp [hi]
    · by_cases h : f + (k + 1) ≤ i ∧ i < f + (k + 1) + l.length
      · rw [if_pos h, if_pos (by simp; omega)]
        have : i - (f + k) = (i - (f + (k + 1))) + 1 := by omega
        rw [this, List.getElem?_cons_succ]
      · rw [if_neg h, if_neg (by simp; omega)]
        have e' : ¬ f + k = i := fun x => e x.symm
        simp [e']

theorem splice_ok {c : Ctx} {cs ds : List PV} {vs : Array Value} (h : RCs c cs vs) {u : Array Value} (hd : RCs c ds u) {off : Nat} (hl : off + ds.length ≤ cs.length) :
    RCs c (splice cs off ds) (u.zipIdx.foldl (fun cs (x : Value × Nat) => cs.setIfInBounds (off + x.2) x.1) vs) := by
  have key := foldl_set off u.toList 0 vs
  have e : u.zipIdx.foldl (fun cs (x : Value × Nat) => cs.setIfInBounds (off + x.2) x.1) vs = (u.toList.zipIdx 0).foldl (fun cs (x : Value × Nat) => cs.setIfInBounds (off + x.2) x.1) vs := by
    rw [← Array.foldl_toList]; simp
  rw [e]
  have hsl : (splice cs off ds).length = cs.length := by simp [splice]; omega
  refine ⟨by rw [key.1, h.1, hsl], fun j p v hp hv => ?_⟩
  have hj : j < vs.size := by rw [h.1, ← hsl]; exact (List.getElem?_eq_some_iff.1 hp).1
  rw [key.2 j hj] at hv
  simp only [Nat.add_zero, Array.length_toList] at hv
  unfold splice at hp
  by_cases h1 : j < off
  · rw [if_neg (by omega)] at hv
    rw [List.append_assoc, List.getElem?_append_left (by simp; omega), List.getElem?_take, if_pos h1] at hp
    exact h.2 j p v hp hv
  · by_cases h2 : j < off + ds.length
    · rw [if_pos (by rw [hd.1]; omega)] at hv
      rw [List.append_assoc, List.getElem?_append_right (by simp; omega), List.getElem?_append_left (by simp; omega)] at hp
      have l1 : (List.take off cs).length = off := by simp; omega
      rw [l1] at hp
      exact hd.2 (j - off) p v hp (by simpa using hv)
    · rw [if_neg (by rw [hd.1]; omega)] at hv
      rw [List.getElem?_append_right (by simp; omega)] at hp
      have l1 : (List.take off cs ++ ds).length = off + ds.length := by simp; omega
      rw [l1, List.getElem?_drop, show off + ds.length + (j - (off + ds.length)) = j by omega] at hp
      exact h.2 j p v hp hv

theorem fill_ok {c : Ctx} {pl : Nat → Option (Nat × Nat)} : ∀ (ps : List (Nat × PV)) (us : List (Nat × Value)) (cs : List PV) (vs : Array Value) (cs' : List PV), RCs c cs vs → ps.length = us.length →
    (∀ (k : Nat) (x : Nat × PV) (y : Nat × Value), ps[k]? = some x → us[k]? = some y → x.1 = y.1 ∧ RV c x.2 y.2) → fillP pl cs ps = some cs' → ∃ vs', Instr.fill pl vs us = some vs' ∧ RCs c cs' vs'
  | [], [], cs, vs, cs', h, _, _, hf => by simp [fillP] at hf; subst hf; exact ⟨vs, rfl, h⟩
  | (i, p) :: ps, (i', v) :: us, cs, vs, cs', h, hl, hr, hf => by
    obtain ⟨e, hv⟩ := hr 0 _ _ rfl rfl
    simp only at e hv
    subst e
    unfold fillP at hf
    split at hf
    · rename_i off n ds hpl hds
      cases hb : (Nat.beq ds.length n && Nat.ble (off + n) cs.length) with
      | false => rw [hb] at hf; cases hf
      | true =>
        rw [hb, cond_true] at hf
        simp only [Bool.and_eq_true] at hb
        have e1 := Nat.eq_of_beq_eq_true hb.1
        have e2 := Nat.le_of_ble_eq_true hb.2
        obtain ⟨f1, f2⟩ := pvCells_ok hv hds
        have hd : RCs c ds v.cells := ⟨f1.symm, f2⟩
        have hs := splice_ok h hd (off := off) (by omega)
        obtain ⟨vs', g1, g2⟩ := fill_ok ps us _ _ cs' hs (by simpa using hl) (fun k x y hx hy => hr (k + 1) x y (by simpa using hx) (by simpa using hy)) hf
        refine ⟨vs', ?_, g2⟩
        unfold Instr.fill
        simp only [hpl]
        have hcond : (decide (v.cells.size ≠ n) || decide (off + v.cells.size > vs.size)) = false := by
          simp only [Bool.or_eq_false_iff, decide_eq_false_iff_not]
          rw [h.1, ← f1]
          omega
        have : (v.cells.size ≠ n || off + v.cells.size > vs.size) = false := hcond
        rw [this]
        simpa using g1
    · cases hf
  | [], _ :: _, _, _, _, _, hl, _, _ => by simp at hl
  | _ :: _, [], _, _, _, _, hl, _, _ => by simp at hl

theorem run_mapM {P : Program} {α β : Type} {f : α → Sem β} {g : α → Option β} {w : World} (h : ∀ a b, g a = some b → (f a).run P w = .ok b w) : ∀ (l : List α) (bs : List β), l.mapM g = some bs → (l.mapM f).run P w = .ok bs w
  | [], bs, hb => by simp at hb; subst hb; simp
  | a :: l, bs, hb => by
    simp only [List.mapM_cons, Option.bind_eq_bind, Option.bind_eq_some_iff] at hb
    obtain ⟨b, hb1, bs', hb2, hb3⟩ := hb
    simp at hb3
    subst hb3
    simp only [List.mapM_cons, Sem.run_bind, h a b hb1, Result.andThen_ok, run_mapM h l bs' hb2, Sem.run_pure]

section
variable {P : Program} {o : Oper} {ρ : Operand → PV} {H : PH}

/-- The parts of a literal. -/
def partsP (ρ : Operand → PV) : List (Nat × Operand) → List (Nat × PV)
  | [] => []
  | (i, x) :: r => (i, ρ x) :: partsP ρ r
theorem partsP_eq (ρ : Operand → PV) : ∀ l, partsP ρ l = l.map fun x => (x.1, ρ x.2)
  | [] => rfl
  | (i, x) :: r => by rw [partsP, partsP_eq ρ r]; rfl

def pls (l : List (Nat × Nat)) (i : Nat) : Option (Nat × Nat) := l[i]?

theorem zero_ok (c : Ctx) {z : Value} (h1 : z.cells.toList.all (·.oneCell') = true) : RCs c (z.cells.toList.map constC) z.cells := by
  refine ⟨by simp, fun j p v hp hv => ?_⟩
  simp only [List.getElem?_map, Option.map_eq_some_iff] at hp
  obtain ⟨u, hu, rfl⟩ := hp
  rw [Array.getElem?_toList, hv] at hu
  cases hu
  exact ⟨constC_ok _ _, List.all_eq_true.1 h1 v (by rw [Array.mem_toList_iff]; exact Array.mem_of_getElem? hv)⟩

theorem RCs.agg {c : Ctx} {cs : List PV} {vs : Array Value} (h : RCs c cs vs) : RV c (.agg cs) (.agg vs) := by
  refine .agg _ _ h.1.symm (fun v hv => ?_) fun i p v hp hv => (h.2 i p v hp hv).1
  obtain ⟨j, hj, rfl⟩ := List.mem_iff_getElem.1 hv
  have hj' : j < vs.size := by simpa using hj
  exact (h.2 j (cs[j]'(by rw [← h.1]; exact hj')) _ (List.getElem?_eq_getElem _) (by simp [hj'])).2

theorem PO_build {t : TypeId} {parts : Array (Nat × Operand)} {z : Value} {pl : List (Nat × Nat)} {cs : List PV} (ho : o.op = .build t parts) (hz : zeroB P t = some z) (h1 : z.cells.toList.all (·.oneCell') = true) (hp : placesB P t = some pl)
    (hf : fillP (pls pl) (z.cells.toList.map constC) (partsP ρ parts.toList) = some cs) : PO P o ρ H (.agg cs) H :=
  PO_val fun c ρr hr hx => by
    obtain ⟨vs', g1, g2⟩ := fill_ok (c := c) (partsP ρ parts.toList) ((parts.map fun x => (x.1, ρr x.2)).toList) _ _ cs (zero_ok c h1) (by simp [partsP_eq]) (by
      intro k x y hx1 hy1
      simp only [partsP_eq, List.getElem?_map, Option.map_eq_some_iff, Array.toList_map] at hx1 hy1
      obtain ⟨q, hq, rfl⟩ := hx1
      obtain ⟨q', hq', rfl⟩ := hy1
      rw [hq] at hq'
      cases hq'
      refine ⟨rfl, hx q.2 ?_⟩
      simp only [ho, Op.operands, List.mem_map]
      exact ⟨q, List.mem_of_getElem? hq, rfl⟩) hf
    refine ⟨.agg vs', ?_, g2.agg⟩
    unfold placesB at hp
    split at hp
    · rename_i fs hu
      have hpl := run_mapM (P := P) (w := c.w) (f := fun f : Field => do pure (f.offset, ← sizeOf f.type)) (fun f b hb => by
        simp only [Option.map_eq_some_iff] at hb
        obtain ⟨n, hn, rfl⟩ := hb
        simp [run_sizeOf hn]) _ _ hp
      have g1' : Instr.fill (fun i => (pl.toArray)[i]?) z.cells (parts.map fun x => (x.1, ρr x.2)).toList = some vs' := by
        have : (fun i => (pl.toArray)[i]?) = pls pl := funext fun i => by simp [pls]
        rw [this]; exact g1
      simp only [execOp, ho, Instr.build, Sem.run_bind, run_zero hz, Result.andThen_ok, run_underlying hu]
      have e : (fs.mapM fun f => (do pure (f.offset, ← sizeOf f.type) : Sem (Nat × Nat))).run P c.w = .ok pl.toArray c.w := by
        rw [← Array.toArray_toList (xs := fs), List.mapM_toArray]
        simp only [Sem.run_map, hpl, Result.andThen_ok]
      simp only [e, Result.andThen_ok, g1', Sem.run_pure]
    · cases hp
end
end Go.Pure
