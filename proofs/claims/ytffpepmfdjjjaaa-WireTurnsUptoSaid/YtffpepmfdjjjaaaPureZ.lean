/- A generic layer: texts as bytes. -/
import Derived.Test.YtffpepmfdjjjaaaPureY
namespace Go.Pure
open Go

section
variable {P : Program} {o : Oper} {ρ : Operand → PV} {H : PH}

theorem bys_length (s : ByteArray) : (bys s.data.toList).length = s.size := by simp [bys]

theorem PO_conv_str {src dst e : TypeId} {x : Operand} {s : ByteArray} (ho : o.op = .convert src dst x) (hs : P.underlying src = some .string) (hd : P.underlying dst = some (.slice e)) (he : intB P e = some .u8)
    (hx : ρ x = .g (.str s)) (hm : s.size ≤ maxLen) : PO P o ρ H (.g (.sl (bys s.data.toList))) H := by
  intro c ρr hr hxx
  have h1 := hxx x (by simp [ho, Op.operands])
  rw [hx] at h1
  have hrun : (execOp ρr o).run P c.w = .ok (.value (.slice (some ⟨c.w.heap.size, 0, none⟩) s.size (grownCap c.w s.size 0 e)))
      (c.w.drew.alloc (.cells (bytesRow s (grownCap c.w s.size 0 e)) e ((bytesRow s (grownCap c.w s.size 0 e)).size, (bytesRow s (grownCap c.w s.size 0 e)).size + 1))) := by
    simp [execOp, ho, RV_str h1, run_bytes_of_string c.w src dst e s hs hd (intB_ok he)]
  unfold OpGoes
  rw [hrun]
  generalize hob : Obj.cells (bytesRow s (grownCap c.w s.size 0 e)) e ((bytesRow s (grownCap c.w s.size 0 e)).size, (bytesRow s (grownCap c.w s.size 0 e)).size + 1) = ob
  obtain ⟨r1, e1⟩ := hr.grow ((Ext.drew c.w).trans (Ext.alloc c.w.drew ob))
  refine ⟨_, rfl, r1, e1, .g _ _ ?_⟩
  have hheap : (c.w.drew.alloc ob).heap[c.w.heap.size]? = some ob := Go.heap_alloc_new c.w.drew ob
  have hcell : ∀ k (hk : k < s.size), (c.w.drew.alloc ob).cell? ⟨c.w.heap.size, k, none⟩ = some (.int .u8 (s.data.toList[k]'(by simpa using hk)).toNat) := by
    intro k hk
    rw [← hob] at hheap ⊢
    rw [cell_of_row _ _ k _ e _ hheap]
    have hk' : k < s.data.size := hk
    rw [bytesRow, Array.getElem?_append_left (by simpa using hk'), Array.getElem?_map, Array.getElem?_eq_getElem hk']
    simp
  have := RG.sl (w := c.w.drew.alloc ob) (S := Ctx.stab ⟨c.σ, c.τ, c.μ, c.hid, c.w.drew.alloc ob⟩) (bys s.data.toList) ⟨c.w.heap.size, 0, none⟩ (grownCap c.w s.size 0 e) 1 (fun k => .int .u8 (s.data.toList.getD k 0).toNat) (fun _ => rfl)
    (by rw [bys_length]; exact grownCap_ge _ _ _ _) (grownCap_le_maxLen _ _ _ _ hm) (fun i x hx => by
      obtain ⟨b, _, rfl⟩ := List.mem_map.1 (List.mem_of_getElem? hx); rfl) (fun k hk => ?_) (fun i x j g hx hg => ?_)
  · rw [bys_length] at this; exact this
  · rw [bys_length, Nat.mul_one] at hk
    rw [add_eq _ _ rfl]
    simp only [Nat.zero_add]
    refine ⟨?_, fresh_stab hr (Nat.le_refl _) k, rfl⟩
    rw [hcell k hk]
    simp only [List.getD_eq_getElem?_getD, Array.getElem?_toList]
    rw [Array.getElem?_eq_getElem (show k < s.data.size from hk)]
    rfl
  · simp only [bys, List.getElem?_map, Option.map_eq_some_iff] at hx
    obtain ⟨b, hb, rfl⟩ := hx
    have : j = 0 ∧ g = byteG b := by
      cases j with
      | zero => simp [byteG, GV.cells] at hg; exact ⟨rfl, hg.symm⟩
      | succ j => simp [byteG, GV.cells] at hg
    obtain ⟨rfl, rfl⟩ := this
    simp only [Nat.mul_one, Nat.add_zero, List.getD_eq_getElem?_getD, hb, Option.getD_some]
    exact .int _ _

/-- What a text's bytes are as cells. -/
def strCells (s : ByteArray) : List Value := s.data.toList.map fun b => .int .u8 b.toNat
theorem run_firstCells_str (w : World) (size : Nat) (s : ByteArray) : (Builtin.firstCells size s.size (.string s)).run P w = .ok (strCells s).toArray w := by
  have : s.extract 0 s.size = s := by simp
  simp only [Builtin.firstCells, this, strCells, Sem.run_pure]
  congr 1
  apply Array.ext'
  simp

theorem run_append_room_str (w : World) (t u ty e : TypeId) (i : TypeInfo) (ht : P.underlying t = some (.slice e)) (hu : P.underlying u = some .string) (hi : P.info? e = some i)
    (g sLen sCap : Nat) (cur : Array Value) (hg : w.heap[g]? = some (.cells cur e (0, 0))) (s : ByteArray) (hroom : sLen + s.size ≤ sCap) (hfit : sLen * i.size + (strCells s).length ≤ cur.size) :
    (Builtin.append_ #[t, u] ty #[.slice (some ⟨g, 0, none⟩) sLen sCap, .string s]).run P w =
      .ok (.slice (some ⟨g, 0, none⟩) (sLen + s.size) sCap) (w.setRow g (cur.toList.take (sLen * i.size) ++ strCells s ++ cur.toList.drop (sLen * i.size + (strCells s).length)).toArray) := by
  have hf := run_firstCells_str (P := P) w i.size s
  have hst := run_storeCells_at P g (sLen * i.size) e (strCells s) 0 cur w hg (by simpa using hfit) (fun v hv => by obtain ⟨b, _, rfl⟩ := List.mem_map.1 hv; rfl)
  simp only [Nat.add_zero] at hst
  simp [Builtin.append_, run_underlying ht, run_underlying hu, sizeOf, typeInfo, hi, Builtin.lenOf, hroom, hf, Addr.add_lit, hst]

theorem run_append_grow_str (w : World) (t u ty e : TypeId) (i : TypeInfo) (z : Value) (ht : P.underlying t = some (.slice e)) (hu : P.underlying u = some .string) (hi : P.info? e = some i) (hz : i.zero = some z)
    (b : Addr) (sLen sCap : Nat) (olds : List Value) (hlo : olds.length = sLen * i.size) (holds : ∀ j v, olds[j]? = some v → w.cell? (b.add j) = some v) (s : ByteArray)
    (hg : sCap < sLen + s.size) (h63 : ((sLen + s.size : Nat) : Int) ≤ 9223372036854775807) (hfit : Builtin.nextslicecap (sLen + s.size) sCap * i.bytes ≤ 281474976710656) :
    (Builtin.append_ #[t, u] ty #[.slice (some b) sLen sCap, .string s]).run P w =
      .ok (.slice (some ⟨w.heap.size, 0, none⟩) (sLen + s.size) (grownCap w (sLen + s.size) sCap e))
        (w.drew.alloc (.cells (olds.toArray ++ (strCells s).toArray ++ Builtin.zeroCells z.cells (grownCap w (sLen + s.size) sCap e - (sLen + s.size))) e)) := by
  have hn : ¬ (sLen + s.size ≤ sCap) := by omega
  have h63' : ¬ (9223372036854775807 < ((sLen : Int) + (s.size : Int))) := by omega
  have h48' : ¬ (281474976710656 < Builtin.nextslicecap (sLen + s.size) sCap * i.bytes) := by omega
  have hf := run_firstCells_str (P := P) w.drew i.size s
  have hfo := run_firstCells_some (P := P) w.drew i.size sLen b sLen sCap olds hlo (by simpa using holds)
  simp [Builtin.append_, run_underlying ht, run_underlying hu, sizeOf, typeInfo, zeroValue, hi, hz, Builtin.lenOf, hn, h63', h48', Question.forced, hf, hfo, newRow, grownCap]
  congr 2
  apply Array.ext'
  simp [List.append_assoc]
end

section
variable {P : Program} {o : Oper} {ρ : Operand → PV} {H : PH}
/-- What is no nil. -/
def notNil : PV → Option PV
  | .ptr b off => some (.ptr b off)
  | .pat cs => some (.pat cs)
  | _ => none
theorem PO_nilCheck {x : Operand} {p : PV} (ho : o.op = .nilCheck x) (hx : notNil (ρ x) = some p) : PO P o ρ H p H :=
  PO_val fun c ρr hr hxx => by
    have h1 := hxx x (by simp [ho, Op.operands])
    unfold notNil at hx
    split at hx
    · rename_i b off e
      cases hx
      rw [e] at h1
      generalize hv : ρr x = v at h1
      cases h1 with
      | ptr _ _ blk hb => exact ⟨_, by simp [execOp, ho, hv], .ptr _ _ _ hb⟩
    · rename_i cs e
      cases hx
      rw [e] at h1
      generalize hv : ρr x = v at h1
      cases h1 with
      | pat _ a f ha hf hh => exact ⟨_, by simp [execOp, ho, hv], .pat _ _ _ ha hf hh⟩
    · cases hx
end

mutual
/-- Does a value name boxes and arrays below these numbers alone? -/
def refsOk (nb nt nm : Nat) : PV → Bool
  | .own _ id => Nat.blt id nt
  | .ptr b _ => Nat.blt b nb
  | .clo _ a b => refsOkL nb nt nm a && refsOkL nb nt nm b
  | .agg cs => refsOkL nb nt nm cs
  | .tuple cs => refsOkL nb nt nm cs
  | .g _ => true
  | .nilp => true
  | .nils => true
  | .pat _ => true
  | .mar id _ => Nat.blt id nm
  | .mref id _ _ _ => Nat.blt id nm
  | .mp id => Nat.blt id nm
  | .any => true
def refsOkL (nb nt nm : Nat) : List PV → Bool
  | [] => true
  | p :: r => refsOk nb nt nm p && refsOkL nb nt nm r
end
mutual
theorem refsOk_spec {nb nt nm : Nat} : ∀ {p : PV}, refsOk nb nt nm p = true → RefsIn nb nt nm p
  | .own es id, h => by simp only [refsOk, Nat.blt_eq] at h; exact .own _ _ h
  | .ptr b off, h => by simp only [refsOk, Nat.blt_eq] at h; exact .ptr _ _ h
  | .clo f a b, h => by simp only [refsOk, Bool.and_eq_true] at h; exact .clo _ _ _ (refsOkL_spec h.1) (refsOkL_spec h.2)
  | .agg cs, h => by simp only [refsOk] at h; exact .agg _ (refsOkL_spec h)
  | .tuple cs, h => by simp only [refsOk] at h; exact .tuple _ (refsOkL_spec h)
  | .g x, _ => .g x
  | .nilp, _ => .nilp
  | .nils, _ => .nils
  | .pat cs, _ => .pat cs
  | .mar id n, h => by simp only [refsOk, Nat.blt_eq] at h; exact .mar _ _ h
  | .mref id n i off, h => by simp only [refsOk, Nat.blt_eq] at h; exact .mref _ _ _ _ h
  | .mp id, h => by simp only [refsOk, Nat.blt_eq] at h; exact .mp _ h
  | .any, _ => .any
theorem refsOkL_spec {nb nt nm : Nat} : ∀ {l : List PV}, refsOkL nb nt nm l = true → ∀ p ∈ l, RefsIn nb nt nm p
  | [], _, p, hp => by simp at hp
  | q :: r, h, p, hp => by
    simp only [refsOkL, Bool.and_eq_true] at h
    rcases List.mem_cons.1 hp with e | hp
    · rw [e]; exact refsOk_spec h.1
    · exact refsOkL_spec h.2 p hp
end
def refsOkB (nb nt nm : Nat) : List (List PV) → Bool
  | [] => true
  | l :: r => refsOkL nb nt nm l && refsOkB nb nt nm r
theorem refsOkB_spec {nb nt nm : Nat} : ∀ {l : List (List PV)}, refsOkB nb nt nm l = true → ∀ cs ∈ l, ∀ p ∈ cs, RefsIn nb nt nm p
  | [], _, p, hp => by simp at hp
  | q :: r, h, p, hp => by
    simp only [refsOkB, Bool.and_eq_true] at h
    rcases List.mem_cons.1 hp with rfl | hp
    · exact refsOkL_spec h.1
    · exact refsOkB_spec h.2 p hp

section
variable {P : Program} {H H' H2 : PH} {v : PV} {env : Env}
/-- The end of a function that keeps boxes and arrays. -/
theorem Ret_box {rs : List ResultVar} {ps : List PV} {e : Exit} {v' : PV} {B : List (List PV)} {T : List (TypeId × Nat)} (hs : resRs P env H2 rs = some ps) (hv : deepV (retV ps) = some v') (hB : deepB (H2.bx.take H'.bx.length) = some B) (hT : deepT (H2.tk.take H'.tk.length) = some T) {M : List MO} (hM : deepM (H2.mu.take H'.mu.length) = some M)
    (h1 : Nat.ble H.bx.length H'.bx.length = true) (h2 : Nat.ble H.tk.length H'.tk.length = true) (h3 : Nat.ble H.mu.length H'.mu.length = true) (hc : refsOk H'.bx.length H'.tk.length H'.mu.length v' = true) (hb : refsOkB H'.bx.length H'.tk.length H'.mu.length B = true)
    (hvv : v' = v) (hbx : B = H'.bx) (htk : T = H'.tk) (hmu : M = H'.mu) (he : e = .normal ∨ e = .ret := by first | exact .inl rfl | exact .inr rfl) : Ret P rs H v H' e env H2 := by
  rw [deepV_eq] at hv
  rw [deepB_eq] at hB
  rw [deepT_eq] at hT
  rw [deepM_eq] at hM
  cases hv; cases hB; cases hT; cases hM
  subst hvv
  refine ⟨he, ps, .inr hs, rfl, ⟨H2.bx.drop H'.bx.length, ?_⟩, ⟨H2.tk.drop H'.tk.length, ?_⟩, ⟨H2.mu.drop H'.mu.length, ?_⟩, Nat.le_of_ble_eq_true h1, Nat.le_of_ble_eq_true h2, Nat.le_of_ble_eq_true h3, refsOk_spec hc, ?_⟩
  · conv => lhs; rw [← List.take_append_drop H'.bx.length H2.bx]
    rw [hbx]
  · conv => lhs; rw [← List.take_append_drop H'.tk.length H2.tk]
    rw [htk]
  · conv => lhs; rw [← List.take_append_drop H'.mu.length H2.mu]
    rw [hmu]
  · rw [hbx] at hb
    exact refsOkB_spec hb
end
end Go.Pure
