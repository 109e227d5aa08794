/- A generic layer: conversions, parts of texts and slices. -/
import Derived.Test.YtffpepmfdjjjaaaPureW
import Derived.Laws.IdiomStrings
import Derived.Laws.BytesArg
namespace Go.Pure
open Go

theorem intB_ok {P : Program} {t : TypeId} {k : IntKind} (h : intB P t = some k) : P.underlying t = some (.int k) := by
  unfold intB at h
  split at h
  · rename_i k' hu; cases h; exact hu
  · cases h

def byteG (b : UInt8) : GV := .int .u8 b.toNat
def bys (l : List UInt8) : List GV := l.map byteG

def loOf : Option (IntKind × Int) → Int | none => 0 | some p => p.2
def hiOf (n : Nat) : Option (IntKind × Int) → Int | none => n | some p => p.2
/-- A bound that may be left out. -/
def boundP (ρ : Operand → PV) : Option Operand → Option (Option (IntKind × Int))
  | none => some none
  | some x => match ρ x with
    | .g (.int k n) => some (some (k, n))
    | _ => none
theorem boundP_ok {c : Ctx} {ρ : Operand → PV} {ρr : Operand → Value} {o : Option Operand} {r : Option (IntKind × Int)} (h : boundP ρ o = some r) (hx : ∀ x, o = some x → RV c (ρ x) (ρr x)) : o.map ρr = r.map fun p => .int p.1 p.2 := by
  cases o with
  | none => cases h; rfl
  | some x =>
    simp only [boundP] at h
    split at h
    · rename_i k n e
      cases h
      have := hx x rfl
      rw [e] at this
      simp [RV_int this]
    · cases h

section
variable {P : Program} {o : Oper} {ρ : Operand → PV} {H : PH}

theorem PO_conv_int {src dst : TypeId} {x : Operand} {ks kd k : IntKind} {n : Int} (ho : o.op = .convert src dst x) (hs : intB P src = some ks) (hd : intB P dst = some kd) (hx : ρ x = .g (.int k n)) : PO P o ρ H (.g (.int kd (kd.wrap n))) H :=
  PO_val fun c ρr hr hxx => by
    have h1 := hxx x (by simp [ho, Op.operands])
    rw [hx] at h1
    exact ⟨.int kd (kd.wrap n), by simp [execOp, ho, RV_int h1, convert, run_underlying (intB_ok hs), run_underlying (intB_ok hd), Conv.intToInt], .g _ _ (.int _ _)⟩

theorem PO_conv_rune {src dst : TypeId} {x : Operand} {ks k : IntKind} {n : Int} (ho : o.op = .convert src dst x) (hs : intB P src = some ks) (hd : P.underlying dst = some .string) (hx : ρ x = .g (.int k n)) : PO P o ρ H (.g (.str (Utf8.encode n))) H :=
  PO_val fun c ρr hr hxx => by
    have h1 := hxx x (by simp [ho, Op.operands])
    rw [hx] at h1
    exact ⟨.string (Utf8.encode n), by simp [execOp, ho, RV_int h1, convert, run_underlying (intB_ok hs), run_underlying hd, Conv.intToString], .g _ _ (.str _)⟩

theorem PO_conv_text {src dst : TypeId} {x : Operand} {s : ByteArray} (ho : o.op = .convert src dst x) (hs : P.underlying src = some .string) (hd : P.underlying dst = some .string) (hx : ρ x = .g (.str s)) : PO P o ρ H (.g (.str s)) H :=
  PO_val fun c ρr hr hxx => by
    have h1 := hxx x (by simp [ho, Op.operands])
    rw [hx] at h1
    exact ⟨.string s, by simp [execOp, ho, RV_str h1, convert, run_underlying hs, run_underlying hd], .g _ _ (.str _)⟩

/-- Bytes as a text. -/
theorem PO_conv_bytes {src dst e : TypeId} {x : Operand} {l : List UInt8} (ho : o.op = .convert src dst x) (hs : P.underlying src = some (.slice e)) (he : intB P e = some .u8) (hd : P.underlying dst = some .string)
    (hx : elems (ρ x) = some (bys l)) : PO P o ρ H (.g (.str ⟨l.toArray⟩)) H :=
  PO_val fun c ρr hr hxx => by
    have h1 := elems_ok (hxx x (by simp [ho, Op.operands])) hx
    refine ⟨.string ⟨l.toArray⟩, ?_, .g _ _ (.str _)⟩
    generalize hv : ρr x = v at h1
    have hrun : (convert src dst v).run P c.w = .ok (.string ⟨l.toArray⟩) c.w := by
      by_cases hne : bys l = []
      · have hl : l = [] := by simpa [bys] using hne
        subst hl
        cases h1 with
        | nil => exact run_convert_bytes_nil c.w src e hs (intB_ok he) 0 0 dst hd
        | sl _ a cap => exact run_convert_bytes_back c.w src dst e a cap [] hs (intB_ok he) hd (by simp)
      · obtain ⟨a, cap, news, rfl, ln, h2, _, h4⟩ := slice_cells (size := 1) h1 (fun x hx => by obtain ⟨b, _, rfl⟩ := List.mem_map.1 hx; rfl) hne
        have hlen : (bys l).length = l.length := by simp [bys]
        rw [hlen]
        refine run_convert_bytes_back c.w src dst e a cap l hs (intB_ok he) hd fun j hj => ?_
        have hj' : j < news.length := by rw [ln, hlen]; omega
        have e1 := h2 j _ (List.getElem?_eq_getElem hj')
        rw [e1]
        have e2 := h4 j (byteG l[j]) 0 (byteG l[j]) news[j] (by simp [bys, hj]) rfl (by simp [hj'])
        generalize news[j] = u at e2
        cases e2
        rfl
    simp [execOp, ho, hv, hrun]

/-- A part of a text. -/
theorem PO_slice_str {t : TypeId} {x : Operand} {lo hi : Option Operand} {s : ByteArray} {l h : Option (IntKind × Int)} (ho : o.op = .slice t x lo hi none) (ht : P.underlying t = some .string) (hx : ρ x = .g (.str s)) (hl : boundP ρ lo = some l) (hh : boundP ρ hi = some h)
    (h1 : 0 ≤ loOf l) (h2 : loOf l ≤ hiOf s.size h) (h3 : hiOf s.size h ≤ s.size) : PO P o ρ H (.g (.str (s.extract (loOf l).toNat (hiOf s.size h).toNat))) H :=
  PO_val fun c ρr hr hxx => by
    have e1 := hxx x (by simp [ho, Op.operands])
    rw [hx] at e1
    have el := boundP_ok (ρr := ρr) hl fun y hy => hxx y (by subst hy; simp [ho, Op.operands])
    have eh := boundP_ok (ρr := ρr) hh fun y hy => hxx y (by subst hy; simp [ho, Op.operands])
    refine ⟨_, ?_, .g _ _ (.str _)⟩
    simp only [execOp, ho, RV_str e1, el, eh]
    cases l with
    | none =>
      cases h with
      | none => simp [Instr.sliceAt, Instr.slice, run_underlying ht, Instr.sliceBounds, loOf, hiOf]
      | some q =>
        simp only [loOf, hiOf] at h2 h3
        have : 0 ≤ q.2 ∧ q.2 ≤ (s.size : Int) := ⟨h2, h3⟩
        simp [Instr.sliceAt, Instr.slice, run_underlying ht, Instr.sliceBounds, Instr.sliceBound, asIntOf, this, loOf, hiOf]
    | some p =>
      cases h with
      | none =>
        simp only [loOf, hiOf] at h1 h2
        have : 0 ≤ p.2 ∧ p.2 ≤ (s.size : Int) := ⟨h1, h2⟩
        simp [Instr.sliceAt, Instr.slice, run_underlying ht, Instr.sliceBounds, Instr.sliceBound, asIntOf, this, loOf, hiOf]
      | some q =>
        simp only [loOf, hiOf] at h1 h2 h3
        have e1 : 0 ≤ q.2 ∧ q.2 ≤ (s.size : Int) := ⟨by omega, h3⟩
        have e2 : 0 ≤ p.2 ∧ p.2 ≤ q.2 := ⟨h1, h2⟩
        have e3 : ((q.2.toNat : Nat) : Int) = q.2 := Int.toNat_of_nonneg e1.1
        simp [Instr.sliceAt, Instr.slice, run_underlying ht, Instr.sliceBounds, Instr.sliceBound, asIntOf, e1, e2, e3, loOf, hiOf]

/-- A part of a slice, within its length. -/
theorem PO_slice_sl {t e : TypeId} {x : Operand} {lo hi : Option Operand} {es : List GV} {l h : Option (IntKind × Int)} {size : Nat} (ho : o.op = .slice t x lo hi none) (ht : P.underlying t = some (.slice e)) (hs : szB P e = some size) (hx : elems (ρ x) = some es) (hl : boundP ρ lo = some l) (hh : boundP ρ hi = some h)
    (h1 : 0 ≤ loOf l) (h2 : loOf l ≤ hiOf es.length h) (h3 : hiOf es.length h ≤ es.length) (hes : ∀ x ∈ es, x.cells.length = size) : PO P o ρ H (.g (.sl ((es.drop (loOf l).toNat).take ((hiOf es.length h).toNat - (loOf l).toNat)))) H :=
  PO_val fun c ρr hr hxx => by
    have e1 := elems_ok (hxx x (by simp [ho, Op.operands])) hx
    have el := boundP_ok (ρr := ρr) hl fun y hy => hxx y (by subst hy; simp [ho, Op.operands])
    have eh := boundP_ok (ρr := ρr) hh fun y hy => hxx y (by subst hy; simp [ho, Op.operands])
    obtain ⟨a, cap, hv, hlc, hcm, hnil⟩ := RG_len e1
    have hrun : (execOp ρr o).run P c.w = .ok (.value (.slice (if cap = (loOf l).toNat then a else a.map (·.add ((loOf l).toNat * size))) ((hiOf es.length h).toNat - (loOf l).toNat) (cap - (loOf l).toNat))) c.w := by
      simp only [execOp, ho, hv, el, eh]
      cases l with
      | none =>
        cases h with
        | none => simp [Instr.sliceAt, Instr.slice, run_underlying ht, run_sizeOf hs, Instr.sliceBounds, loOf, hiOf]
        | some q =>
          simp only [loOf, hiOf] at h2 h3
          have : 0 ≤ q.2 ∧ q.2 ≤ (cap : Int) := ⟨h2, by omega⟩
          simp [Instr.sliceAt, Instr.slice, run_underlying ht, run_sizeOf hs, Instr.sliceBounds, Instr.sliceBound, asIntOf, this, loOf, hiOf]
      | some p =>
        cases h with
        | none =>
          simp only [loOf, hiOf] at h1 h2
          have : 0 ≤ p.2 ∧ p.2 ≤ (es.length : Int) := ⟨h1, h2⟩
          simp [Instr.sliceAt, Instr.slice, run_underlying ht, run_sizeOf hs, Instr.sliceBounds, Instr.sliceBound, asIntOf, this, loOf, hiOf]
          by_cases hcc : cap = p.2.toNat <;> simp [hcc]
        | some q =>
          simp only [loOf, hiOf] at h1 h2 h3
          have e1 : 0 ≤ q.2 ∧ q.2 ≤ (cap : Int) := ⟨by omega, by omega⟩
          have e2 : 0 ≤ p.2 ∧ p.2 ≤ q.2 := ⟨h1, h2⟩
          have e3 : ((q.2.toNat : Nat) : Int) = q.2 := Int.toNat_of_nonneg e1.1
          simp [Instr.sliceAt, Instr.slice, run_underlying ht, run_sizeOf hs, Instr.sliceBounds, Instr.sliceBound, asIntOf, e1, e2, e3, loOf, hiOf]
          by_cases hcc : cap = p.2.toNat <;> simp [hcc]
    refine ⟨_, hrun, .g _ _ ?_⟩
    generalize hL : (loOf l).toNat = L
    generalize hU : (hiOf es.length h).toNat = U
    have hLU : L ≤ U ∧ U ≤ es.length := by omega
    rw [hv] at e1
    have hlen : ((es.drop L).take (U - L)).length = U - L := by simp; omega
    generalize hq : (es.drop L).take (U - L) = qs at hlen
    cases e1 with
    | nil =>
      simp at hLU
      have hU0 : U = 0 := hLU.2
      have hL0 : L = 0 := by omega
      subst hU0; subst hL0
      have : qs = [] := List.eq_nil_of_length_eq_zero hlen
      subst this
      simp
      exact .nil
    | sl _ a' _ size' f ha hc hm hsz hf hh =>
      by_cases hz : U - L = 0
      · have hnil : qs = [] := List.eq_nil_of_length_eq_zero (hlen.trans hz)
        subst hnil
        rw [hz]
        have key : ∀ b : Addr, RG c.w c.stab (.sl []) (.slice (some b) 0 (cap - L)) := fun b => by
          have := RG.sl (w := c.w) (S := c.stab) [] b (cap - L) 0 (fun _ => undef) (fun h => absurd rfl h) (by simp) (by omega) (by simp) (by simp) (by simp)
          simpa using this
        split <;> exact key _
      · have hcap : ¬ cap = L := by omega
        rw [if_neg hcap]
        have hsz' : size' = size := by
          obtain ⟨x, hx⟩ : ∃ x, es[0]? = some x := ⟨es[0]'(by omega), List.getElem?_eq_getElem (by omega)⟩
          rw [← hsz 0 x hx, hes x (List.mem_of_getElem? hx)]
        subst hsz'
        have hne : es ≠ [] := fun h => by subst h; simp at hLU; omega
        have hspot := ha hne
        have hqget : ∀ i, i < U - L → qs[i]? = es[L + i]? := fun i hi => by
          rw [← hq, List.getElem?_take, if_pos hi, List.getElem?_drop]
        have := RG.sl (w := c.w) (S := c.stab) qs (a'.add (L * size')) (cap - L) size' (fun k => f (L * size' + k)) (fun _ => add_spot _ _ hspot) (by rw [hlen]; omega) (by omega) (fun i x hx => ?_) (fun k hk => ?_) (fun i x j g hx hg => ?_)
        · rw [hlen] at this; simpa using this
        · have hi : i < U - L := by rw [← hlen]; exact (List.getElem?_eq_some_iff.1 hx).1
          rw [hqget i hi] at hx
          exact hsz _ x hx
        · rw [hlen] at hk
          have hlt : L * size' + k < es.length * size' := by
            have h1 : (U - L) * size' + L * size' ≤ es.length * size' := by rw [← Nat.add_mul]; exact Nat.mul_le_mul_right _ (by omega)
            omega
          have h3 := hf _ hlt
          rw [add_eq _ _ (add_spot _ _ hspot), add_block, add_off, Nat.add_assoc]
          rw [add_eq _ _ hspot] at h3
          exact h3
        · have hi : i < U - L := by rw [← hlen]; exact (List.getElem?_eq_some_iff.1 hx).1
          rw [hqget i hi] at hx
          have := hh (L + i) x j g hx hg
          rw [Nat.add_mul, Nat.add_assoc] at this
          exact this
end
end Go.Pure
