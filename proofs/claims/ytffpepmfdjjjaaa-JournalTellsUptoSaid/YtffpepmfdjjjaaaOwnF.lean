/- What the program's functions compute, each shown once; and plain laws of it. -/
import Derived.Test.YtffpepmfdjjjaaaOwnD
import Derived.Test.YtffpepmfdjjjaaaPureE
/- What a tree, or bytes, that come in read as; how much they hold. -/
namespace Go.Proofs.Ytffpepmfdjjjaaa
open Go.Pure Go.ChangeShapes Go.WideShapes Go.ChangeAt Go.RowKit

theorem all_le {H : Type} : ∀ (ds : List (DataW H)) (xs : List GV), ds.length = xs.length → (∀ (i : Nat) (d : DataW H) (x : GV), ds[i]? = some d → xs[i]? = some x → gbulk x ≤ Rows.uptoBulk d) → gbulks xs ≤ Rows.uptoBulkAll ds
  | [], [], _, _ => by simp [gbulks]
  | [], _ :: _, h, _ => by simp at h
  | _ :: _, [], h, _ => by simp at h
  | d :: ds, x :: xs, hl, h => by
    have h0 := h 0 d x rfl rfl
    have h1 := all_le ds xs (by simpa using hl) (fun i d' x' hd hx => h (i + 1) d' x' (by simpa using hd) (by simpa using hx))
    simp only [gbulks, Rows.uptoBulkAll]
    omega
theorem bulk_le {H : Type} {d : DataW H} {g : GV} (h : DG d g) : gbulk g ≤ Rows.uptoBulk d := by
  induction h with
  | int k n => simp [gbulk, Rows.uptoBulk]
  | bool b => simp [gbulk, Rows.uptoBulk]
  | str s => simp [gbulk, Rows.uptoBulk]
  | nil => simp [gbulk, gbulks, Rows.uptoBulk]
  | sl ds sp es hl _ ih =>
    have := all_le ds es hl ih
    simp only [gbulk, Rows.uptoBulk]
    omega
  | agg ds xs hl _ ih =>
    have := all_le ds xs hl ih
    simp only [gbulk, Rows.uptoBulk, gbulks_cells]
    omega
theorem bulk_all {H : Type} {ds : List (DataW H)} {xs : List GV} (hl : xs.length = ds.length) (h : ∀ (i : Nat) (d : DataW H) (g : GV), ds[i]? = some d → xs[i]? = some g → DG d g) : gbulks xs ≤ Rows.uptoBulkAll ds :=
  all_le ds xs hl.symm fun i d x hd hx => bulk_le (h i d x hd hx)

theorem bytes_inv {g : GV} (h : GT Try.prog 38 g) : ∃ l : List UInt8, g = .sl (bys l) ∧ l.length ≤ maxLen := by
  obtain ⟨es, rfl, hl, he⟩ := GT.sl_inv Try.underlying38 h
  have : ∀ es : List GV, (∀ x ∈ es, GT Try.prog 5 x) → ∃ l, es = bys l := by
    intro es
    induction es with
    | nil => intro _; exact ⟨[], rfl⟩
    | cons x es ih =>
      intro hx
      obtain ⟨l, rfl⟩ := ih fun y hy => hx y (List.mem_cons_of_mem _ hy)
      obtain ⟨n, rfl, hn⟩ := GT.int_inv Try.underlying5 (hx x (by simp))
      have hr : 0 ≤ n ∧ n ≤ 255 := by simpa [Lit.wf, IntKind.min, IntKind.max, IntKind.signed, IntKind.bits] using hn
      refine ⟨UInt8.ofNat n.toNat :: l, ?_⟩
      simp only [bys, List.map_cons, byteG]
      congr 2
      rw [u8of _ (by omega)]
      omega
  obtain ⟨l, rfl⟩ := this es he
  exact ⟨l, rfl, by simpa [bys] using hl⟩

mutual
theorem enc_bulk : ∀ t : Tr, (enc t).length + 31 ≤ 31 * gbulk t.g
  | .mk tag n text kids => by
    have h1 := encs_bulk kids
    have h2 := varint_len 9 (fold64 n) (by have := fold64_lt n; omega)
    simp only [enc, Tr.g, gbulk, gbulks, List.length_cons, List.length_append, Array.length_toList]
    have h3 : ∀ x : Nat, (varint x).length ≤ x + 1 := fun x => by
      by_cases hx : 128 ≤ x
      · have : ∀ k x : Nat, x < 128 ^ (k + 1) → (varint x).length ≤ k + 1 := varint_len
        have := varint_len x x (by
          have h1 := Nat.lt_two_pow_self (n := x)
          have h2 : 2 ^ x ≤ 128 ^ x := Nat.pow_le_pow_left (by decide) x
          have h3 : 128 ^ x ≤ 128 ^ (x + 1) := Nat.pow_le_pow_right (by decide) (by omega)
          omega)
        exact this
      · rw [varint_small hx]; simp
    have h4 := h3 text.size
    have h5 := h3 kids.length
    have h7 : text.data.size = text.size := rfl
    rw [h7]
    omega
theorem encs_bulk : ∀ l : List Tr, (encs l).length + 31 * l.length ≤ 31 * gbulks (Tr.gs l)
  | [] => by simp [encs]
  | t :: r => by
    have h1 := enc_bulk t
    have h2 := encs_bulk r
    simp only [encs, Tr.gs, gbulks, List.length_append, List.length_cons]
    omega
theorem kids_bulk : ∀ l : List Tr, l.length ≤ gbulks (Tr.gs l)
  | [] => by simp
  | .mk a b c d :: r => by
    have := kids_bulk r
    simp only [Tr.gs, gbulks, List.length_cons, Tr.g, gbulk]
    omega
end
theorem bys_bulk (l : List UInt8) : gbulk (.sl (bys l)) = l.length + 1 := by
  simp only [gbulk]
  congr 1
  induction l with
  | nil => simp [bys, gbulks]
  | cons c l ih =>
    have : bys (c :: l) = byteG c :: bys l := rfl
    rw [this]
    simp only [gbulks, byteG, gbulk, ih, List.length_cons]
    omega

theorem bulkAll_append {H : Type} : ∀ a b : List (DataW H), Rows.uptoBulkAll (a ++ b) = Rows.uptoBulkAll a + Rows.uptoBulkAll b
  | [], b => by simp [Rows.uptoBulkAll]
  | x :: a, b => by simp [Rows.uptoBulkAll, bulkAll_append a b, Nat.add_assoc]
theorem own : ownKnob Try.prog.godebug = none := by kernel_rfl
theorem laidOut : laidOutB Try.prog = true := by kernel_rfl
end Go.Proofs.Ytffpepmfdjjjaaa

