/- A generic layer: values without memory, and code over them. -/
import Derived.Test.YtffpepmfdjjjaaaPureB
/- A generic layer: arrays that may be written, in regions that draw their order. -/
namespace Go.Pure
open Go

section
variable {P : Program} {o : Oper} {env : Env} {H : PH} {K : List Nat}

theorem sh_arr {x : Option MO} {n e len : Nat} (h : shM x = some (1, n, e, len)) : ∃ es, x = some (.arr n e es) ∧ es.length = len := by
  unfold shM at h
  split at h
  · cases h
  · cases h
  · cases h; exact ⟨_, rfl, rfl⟩
  · cases h
theorem KSh.set {id n e : Nat} {es es' : List GV} (hm : H.mu[id]? = some (.arr n e es)) (hl : es'.length = es.length) : ∀ K : List Nat, KSh K H ⟨H.bx, H.tk, H.mu.set id (.arr n e es')⟩
  | [] => trivial
  | b :: K => by
    refine ⟨?_, KSh.set hm hl K⟩
    cases Nat.ble 10000 b
    · trivial
    · simp only [cond_true]
      by_cases h : b - 10000 = id
      · rw [h, hm, List.getElem?_set_self (List.getElem?_eq_some_iff.1 hm).1]
        simp [shM, hl]
      · rw [List.getElem?_set_ne (fun e => h e.symm)]
theorem KSh.arr {H1 : PH} (h : KSh K H H1) {id n e len : Nat} (hK : memB K (10000 + id) = true) (hm : shM H.mu[id]? = some (1, n, e, len)) : ∃ es, H1.mu[id]? = some (.arr n e es) ∧ es.length = len :=
  sh_arr ((h.at id (memB_iff.1 hK)).symm.trans hm)

theorem Cond_mindex {x y : Operand} {t e e' : TypeId} {id n m len : Nat} {k : IntKind} {i : Int} (hK : memB K (10000 + id) = true) (ho : o.op = .indexAddr t x y) (ht : P.underlying t = some (.slice e)) (hs : szB P e = some m) (hx' : env.eval x = .mar id n) (hi : env.eval y = .g (.int k i))
    (hm : shM H.mu[id]? = some (1, n, e', len)) (he : szB P e' = some m) (h0 : 0 ≤ i) (hlt : i < len) : Cond P K o env H (.mref id n i.toNat 0) H :=
  .inl ⟨by rw [ho]; rfl, rfl, fun H1 hq => by
    obtain ⟨es, h1, h2⟩ := hq.arr hK hm
    exact PO_mindex ho ht hs hx' hi h1 he h0 (by rw [h2]; exact hlt)⟩
theorem Cond_mlen {x : Operand} {t e e' : TypeId} {id n len : Nat} (hK : memB K (10000 + id) = true) (ho : o.op = .call { callee := .builtin .len, args := #[x], argTypes := #[t] }) (ht : P.underlying t = some (.slice e)) (hx' : env.eval x = .mar id n) (hm : shM H.mu[id]? = some (1, n, e', len)) :
    Cond P K o env H (.g (.int .i64 len)) H :=
  .inl ⟨by rw [ho]; rfl, rfl, fun H1 hq => by
    obtain ⟨es, h1, h2⟩ := hq.arr hK hm
    rw [← h2]
    exact PO_mlen ho ht hx' h1⟩
theorem Cond_mload {t : TypeId} {x : Operand} {id n i off : Nat} {e : TypeId} {es : List GV} {x' g : GV} (hK : memB K (10000 + id) = true) (ho : o.op = .load t x) (h1 : aggB P t = some false) (hp : env.eval x = .mref id n i off)
    (hm : H.mu[id]? = some (.arr n e es)) (hx' : es[i]? = some x') (hg : x'.cells[off]? = some g) : Cond P K o env H (.g g) H :=
  .inr (.inl ⟨by rw [ho]; rfl, rfl, fun H1 hq => PO_load_mref_one ho h1 hp ((hq.mu id (memB_iff.1 hK)) ▸ hm) hx' hg⟩)
theorem Cond_mstore {t : TypeId} {x y : Operand} {id n i off m : Nat} {e : TypeId} {es : List GV} {x' : GV} {ps : List PV} {cs : List GV} (ho : o.op = .store t x y) (hs : szB P t = some m) (hp : env.eval x = .mref id n i off) (hc : pvCells (env.eval y) = some ps) (hg : allG ps = some cs) (hn : cs.length = m) (hpos : 0 < m)
    (hm : H.mu[id]? = some (.arr n e es)) (hx' : es[i]? = some x') (hfit : off + m ≤ x'.cells.length) :
    Cond P K o env H undefP ⟨H.bx, H.tk, H.mu.set id (.arr n e (es.set i (setCells x' off cs)))⟩ :=
  .inr (.inr (.inr ⟨by rw [ho]; rfl, PO_store_mref ho hs hp hc hg hn hpos hm hx' hfit, KSh.set hm (by simp) K⟩))
end
end Go.Pure
