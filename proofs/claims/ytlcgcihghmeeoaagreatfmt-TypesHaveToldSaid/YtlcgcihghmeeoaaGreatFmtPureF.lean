/- A generic layer: values without memory, and code over them. -/
import Derived.Test.YtlcgcihghmeeoaaGreatFmtPureD
/- Lists and texts that come in are not longer than a machine holds. -/
namespace Go.Pure
open Go

mutual
/-- None of its lists is too long. -/
def gsz : GV → Prop
  | .agg cs => gszs cs
  | .sl es => es.length ≤ maxLen ∧ gszs es
  | .str s => s.size ≤ maxLen
  | _ => True
def gszs : List GV → Prop
  | [] => True
  | g :: r => gsz g ∧ gszs r
end
theorem gszs_iff : ∀ {l : List GV}, gszs l ↔ ∀ x ∈ l, gsz x
  | [] => by simp [gszs]
  | x :: l => by simp [gszs, gszs_iff (l := l)]
theorem gsz_cells {x : GV} : gszs x.cells ↔ gsz x := by
  cases x <;> simp [GV.cells, gszs, gsz]
theorem GT.gsz {P : Program} {t : TypeId} {g : GV} (h : GT P t g) : gsz g := by
  induction h with
  | int t k n h hw => simp [Pure.gsz]
  | bool t b h => simp [Pure.gsz]
  | str t s h hs => simpa [Pure.gsz] using hs
  | sl t e es h hl he ih => simp only [Pure.gsz]; exact ⟨hl, gszs_iff.2 ih⟩
  | agg t fs xs h hl hx ih =>
    simp only [Pure.gsz]
    refine gszs_iff.2 fun c hc => ?_
    obtain ⟨x, hx', hc⟩ := List.mem_flatMap.1 hc
    obtain ⟨i, hi, rfl⟩ := List.getElem_of_mem hx'
    have hf : i < fs.size := by omega
    exact gszs_iff.1 (gsz_cells.2 (ih i fs[i] xs[i] (by simp [hf]) (by simp [hi]))) c hc
theorem VVal.gsz_list {kind : Int} {yes : Bool} {coef exp : Int} {text : ByteArray} {list : List VVal} (h : gsz (VVal.mk kind yes coef exp text list).g) : list.length ≤ maxLen ∧ ∀ v ∈ list, gsz v.g := by
  simp only [VVal.g, gsz, gszs, VVal.gs_eq, List.length_map] at h
  obtain ⟨_, _, _, _, _, ⟨h1, h2⟩, _⟩ := h
  exact ⟨h1, fun v hv => gszs_iff.1 h2 _ (List.mem_map_of_mem hv)⟩
theorem hasT_eq (kind : Int) (yes : Bool) (coef exp : Int) (text : ByteArray) (list : List VVal) (n : Nat) (b : Int) : hasT (.mk kind yes coef exp text list) n b =
    if kind = 1 ∨ (n = 0 ∧ b = 6) then true
    else if kind = 2 then decide (n = 0 ∧ b = 2) else if kind = 3 then decide (n = 0 ∧ b = 3) else if kind = 4 then decide (n = 0 ∧ b = 4)
    else if kind = 5 then (match n with | 0 => false | n + 1 => hasTs list n b) else false := hasT.eq_def (.mk kind yes coef exp text list) n b
theorem ty_inv {P : Program} {ti TY LY : TypeId} (hi : P.underlying ti = some (.int .i64)) (hT : StructT P TY [ti, LY]) (hL : P.underlying LY = some (.slice TY)) : ∀ (m : Nat) (g : GV), SizeOf.sizeOf g ≤ m → GT P TY g → ∃ v : VTy, g = v.g
  | 0, g, hm, _ => by cases g <;> simp at hm
  | m + 1, g, hm, h => by
    obtain ⟨xs, rfl, hx⟩ := hT.inv h
    obtain ⟨a, xs, rfl, ha, hx⟩ := hx.one
    obtain ⟨e, xs, rfl, he, hx⟩ := hx.one
    obtain rfl := hx.nil
    have hsz := sizeOf_le_flat [a, e] e (by simp)
    obtain ⟨kind, rfl, _⟩ := GT.int_inv hi ha
    obtain ⟨es, rfl, _, hl⟩ := GT.sl_inv hL he
    obtain ⟨l, rfl⟩ := list_inv VTy.g es hl fun x hx hg => ty_inv hi hT hL m x (by have := size_mem hx; omega) hg
    exact ⟨.mk kind l, by simp [VTy.g, VTy.gs_eq, GV.cells]⟩
end Go.Pure

