/- A generic layer: values without memory, and code over them. -/
import Derived.Test.YtffpepmfdjjjaaaPureC
import Derived.Laws.MakeOwn
/- A generic layer: slices that are made empty, with room for so many. -/
namespace Go.Pure
open Go

section
variable {P : Program} {o : Oper} {ρ : Operand → PV} {H : PH}

theorem PO_makeRoom {t e size m : Nat} {x y : Operand} {k1 k2 : IntKind} {n : Int} {z : Value} (ho : o.op = .makeSlice t x y) (hx1 : ρ x = .g (.int k1 0)) (hy1 : ρ y = .g (.int k2 n))
    (he : P.underlying t = some (.slice e)) (hs : szB P e = some size) (hz : zeroB P e = some z) (hby : bytesB P e = some m) (h0 : 0 ≤ n) (hm : (m : Int) * n ≤ 281474976710656) (hn : n ≤ 9223372036854775807) :
    PO P o ρ H (.own [] H.tk.length) ⟨H.bx, H.tk ++ [(e, 0)], H.mu⟩ := by
  intro c ρr hr hx
  have h1 := hx x (by simp [ho, Op.operands])
  have h2 := hx y (by simp [ho, Op.operands])
  rw [hx1] at h1
  rw [hy1] at h2
  have q1 : ρr x = .int k1 0 := RV_int h1
  have q2 : ρr y = .int k2 n := RV_int h2
  obtain ⟨i, hi, hsz⟩ : ∃ i, P.info? e = some i ∧ i.size = size := by
    unfold szB at hs
    cases hu : P.info? e with
    | none => rw [hu] at hs; cases hs
    | some i => rw [hu] at hs; exact ⟨i, rfl, by simpa using hs⟩
  have hiz : i.zero = some z := by unfold zeroB at hz; rw [hi] at hz; simpa using hz
  have hib : i.bytes = m := by unfold bytesB at hby; rw [hi] at hby; simpa using hby
  subst hsz
  have hrun : (execOp ρr o).run P c.w = .ok (.value (.slice (some ⟨c.w.heap.size, 0, none⟩) 0 n.toNat)) (c.w.alloc (.cells (madeCells z.cells (n.toNat * i.size)) e)) := by
    have hr := run_make (P := P) c.w t e i z he hi hiz k1 k2 0 n (Int.le_refl _) h0 (by rw [hib]; exact hm) hn
    simp only [Int.toNat_zero] at hr
    simp [execOp, ho, q1, q2, hr]
  unfold OpGoes
  rw [hrun]
  have hX := Ext.alloc c.w (.cells (madeCells z.cells (n.toNat * i.size)) e)
  have hnew := Go.heap_alloc_new c.w (.cells (madeCells z.cells (n.toNat * i.size)) e)
  have hmax : n.toNat ≤ maxLen := by unfold maxLen; omega
  obtain ⟨hR, hE⟩ := hr.addTok hX (t := ⟨true, c.w.heap.size, e, i.size, n.toNat, 0⟩) rfl (Nat.le_refl _) (cur := madeCells z.cells (n.toNat * i.size)) hnew (size_madeCells _ _) (Nat.zero_le _) hmax hs
  have hlen : c.τ.length = H.tk.length := by rw [← hr.tk]; simp
  refine ⟨_, rfl, hR, hE, ?_⟩
  refine .own [] _ _ ⟨true, c.w.heap.size, e, i.size, n.toNat, 0⟩ ?_ (by simp [← hlen]) (by simp) (Nat.zero_le _) (fun _ => .inl ⟨rfl, rfl⟩)
  exact .sl [] _ _ 1 (fun _ => undef) (by simp) (Nat.zero_le _) hmax (by simp) (by simp) (by simp)
end
end Go.Pure

