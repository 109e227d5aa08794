/- A generic layer: values without memory, and code over them. -/
import Derived.Test.YtlcgcihghmeeoaaGreatFmtBesafterPureD
/- Lists and texts that come in are not longer than a machine holds. -/
namespace Go.Pure
open Go

theorem ty_inv {P : Program} {ti TY LY : TypeId} (hi : P.underlying ti = some (.int .i64)) (hT : StructT P TY [ti, LY]) (hL : P.underlying LY = some (.slice TY)) : ∀ (m : Nat) (g : GV), SizeOf.sizeOf g ≤ m → GT P TY g → ∃ v : VTy, g = v.g
  | 0, g, hm, _ => by cases g <;> simp at hm
  | m + 1, g, hm, h => by
    obtain ⟨xs, rfl, hx⟩ := hT.inv h
    obtain ⟨a, xs, rfl, ha, hx⟩ := hx.one
    obtain ⟨e, xs, rfl, he, hx⟩ := hx.one
    obtain rfl := hx.nil
    have hsz := sizeOf_le_flat [a, e] e (by simp)
    obtain ⟨kind, rfl, _⟩ := GT.int_inv hi ha
    obtain ⟨es, rfl, _, hl⟩ := GT.sl_inv hL he
    obtain ⟨l, rfl⟩ := list_inv VTy.g es hl fun x hx hg => ty_inv hi hT hL m x (by have := size_mem hx; omega) hg
    exact ⟨.mk kind l, by simp [VTy.g, VTy.gs_eq, GV.cells]⟩
end Go.Pure

