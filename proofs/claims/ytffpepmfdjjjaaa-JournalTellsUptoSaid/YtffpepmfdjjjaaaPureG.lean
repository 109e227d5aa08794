/- A generic layer: values without memory, and code over them. -/
import Derived.Test.YtffpepmfdjjjaaaPureE
/- Numbers that come in are numbers of their kinds. -/
namespace Go.Pure
open Go

mutual
/-- All its numbers are of their kinds. -/
def gwf : GV → Prop
  | .int k n => (Lit.int k n).wf = true
  | .agg cs => gwfs cs
  | .sl es => gwfs es
  | _ => True
def gwfs : List GV → Prop
  | [] => True
  | g :: r => gwf g ∧ gwfs r
end
theorem gwfs_iff : ∀ {l : List GV}, gwfs l ↔ ∀ x ∈ l, gwf x
  | [] => by simp [gwfs]
  | x :: l => by simp [gwfs, gwfs_iff (l := l)]
theorem gwf_cells {x : GV} : gwfs x.cells ↔ gwf x := by
  cases x <;> simp [GV.cells, gwfs, gwf]
theorem GT.gwf {P : Program} {t : TypeId} {g : GV} (h : GT P t g) : gwf g := by
  induction h with
  | int t k n h hw => simpa [Pure.gwf] using hw
  | bool t b h => simp [Pure.gwf]
  | str t s h hs => simp [Pure.gwf]
  | sl t e es h hl he ih => simp only [Pure.gwf]; exact gwfs_iff.2 ih
  | agg t fs xs h hl hx ih =>
    simp only [Pure.gwf]
    refine gwfs_iff.2 fun c hc => ?_
    obtain ⟨x, hx', hc⟩ := List.mem_flatMap.1 hc
    obtain ⟨i, hi, rfl⟩ := List.getElem_of_mem hx'
    have hf : i < fs.size := by omega
    exact gwfs_iff.1 (gwf_cells.2 (ih i fs[i] xs[i] (by simp [hf]) (by simp [hi]))) c hc
theorem wf64 {n : Int} (h : (Lit.int .i64 n).wf = true) : -9223372036854775808 ≤ n ∧ n < 9223372036854775808 := by
  have : -9223372036854775808 ≤ n ∧ n ≤ 9223372036854775807 := by simpa [Lit.wf, IntKind.min, IntKind.max, IntKind.signed, IntKind.bits] using h
  omega
theorem gwfs_append {a b : List GV} : gwfs (a ++ b) ↔ gwfs a ∧ gwfs b := by
  simp only [gwfs_iff, List.mem_append]
  exact ⟨fun h => ⟨fun x hx => h x (.inl hx), fun x hx => h x (.inr hx)⟩, fun h x hx => hx.elim (h.1 x) (h.2 x)⟩
end Go.Pure

