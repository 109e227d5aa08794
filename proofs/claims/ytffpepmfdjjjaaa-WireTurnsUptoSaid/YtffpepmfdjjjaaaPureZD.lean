/- A generic layer: arrays that may be written: given up, marked, appended to. -/
import Derived.Test.YtffpepmfdjjjaaaPureZC
namespace Go.Pure
open Go

mutual
/-- An array that is given up reads as its elements for good. -/
def frz (id n : Nat) (es : List GV) : PV → PV
  | .mar id' n' => bif Nat.beq id' id && Nat.beq n' n then .g (.sl es) else .mar id' n'
  | .clo f a b => .clo f (frzL id n es a) (frzL id n es b)
  | .agg cs => .agg (frzL id n es cs)
  | .tuple cs => .tuple (frzL id n es cs)
  | .g x => .g x
  | .own es' id' => .own es' id'
  | .ptr b off => .ptr b off
  | .nilp => .nilp
  | .nils => .nils
  | .pat cs => .pat cs
  | .mref a b c d => .mref a b c d
  | .mp a => .mp a
  | .any => .any
def frzL (id n : Nat) (es : List GV) : List PV → List PV
  | [] => []
  | p :: r => frz id n es p :: frzL id n es r
end
theorem frzL_eq (id n : Nat) (es : List GV) : ∀ l, frzL id n es l = l.map (frz id n es)
  | [] => by simp [frzL]
  | p :: r => by simp [frzL, frzL_eq id n es r]
def frzB (id n : Nat) (es : List GV) : List (List PV) → List (List PV)
  | [] => []
  | l :: r => frzL id n es l :: frzB id n es r
theorem frzB_eq (id n : Nat) (es : List GV) : ∀ l, frzB id n es l = l.map (·.map (frz id n es))
  | [] => rfl
  | p :: r => by simp [frzB, frzL_eq, frzB_eq id n es r]

section
variable {P : Program} {c : Ctx} {H : PH}

theorem RV_frz {c c' : Ctx} (hE : Evo c c') {id n : Nat} {es : List GV} (hread : ∀ v, RV c (.mar id n) v → RG c'.w c'.stab (.sl es) v) {p : PV} {v : Value} (h : RV c p v) : RV c' (frz id n es p) v := by
  induction h with
  | mar id' n' v t ht hn h1 hv =>
    simp only [frz]
    cases hb : (Nat.beq id' id && Nat.beq n' n) with
    | true =>
      rw [cond_true]
      simp only [Bool.and_eq_true] at hb
      have e1 := Nat.eq_of_beq_eq_true hb.1
      have e2 := Nat.eq_of_beq_eq_true hb.2
      subst e1; subst e2
      exact .g _ _ (hread v (.mar _ _ v t ht hn h1 hv))
    | false => rw [cond_false]; exact (RV.mar id' n' v t ht hn h1 hv).mono hE
  | g x v h => simp only [frz]; exact (RV.g x v h).mono hE
  | own es id v t h ht hs hl hv => simp only [frz]; exact (RV.own es id v t h ht hs hl hv).mono hE
  | ptr b off blk h => simp only [frz]; exact (RV.ptr b off blk h).mono hE
  | nilp => simp only [frz]; exact .nilp
  | nils => simp only [frz]; exact .nils
  | pat cs a f ha hf h => simp only [frz]; exact (RV.pat cs a f ha hf h).mono hE
  | clo fn ps qs us vs hp hq _ _ h1 h2 =>
    simp only [frz, frzL_eq]
    refine .clo fn _ _ us vs (by simpa using hp) (by simpa using hq) (fun i p v hp' hv => ?_) (fun i p v hp' hv => ?_)
    · simp only [List.getElem?_map, Option.map_eq_some_iff] at hp'
      obtain ⟨q, hq', rfl⟩ := hp'
      exact h1 i q v hq' hv
    · simp only [List.getElem?_map, Option.map_eq_some_iff] at hp'
      obtain ⟨q, hq', rfl⟩ := hp'
      exact h2 i q v hq' hv
  | agg cs vs hl h1 _ ih =>
    simp only [frz, frzL_eq]
    refine .agg _ vs (by simpa using hl) h1 fun i p v hp' hv => ?_
    simp only [List.getElem?_map, Option.map_eq_some_iff] at hp'
    obtain ⟨q, hq', rfl⟩ := hp'
    exact ih i q v hq' hv
  | tuple cs vs hl _ ih =>
    simp only [frz, frzL_eq]
    refine .tuple _ vs (by simpa using hl) fun i p v hp' hv => ?_
    simp only [List.getElem?_map, Option.map_eq_some_iff] at hp'
    obtain ⟨q, hq', rfl⟩ := hp'
    exact ih i q v hq' hv
  | mref id n i off a t ht hn h1 hv => simp only [frz]; exact (RV.mref id n i off a t ht hn h1 hv).mono hE
  | mp id v t ht h1 hv => simp only [frz]; exact (RV.mp id v t ht h1 hv).mono hE
  | any v => simp only [frz]; exact .any v

/-- Nobody will write this array any more. -/
theorem Rel.freeze (hr : Rel P c H) {id n : Nat} {e : TypeId} {es : List GV} (hm : H.mu[id]? = some (.arr n e es)) :
    ∃ c', c'.w = c.w ∧ Rel P c' ⟨frzB id n es H.bx, H.tk, H.mu.set id (.gone (n + 1))⟩ ∧ Evo c c' ∧ ∀ p v, RV c p v → RV c' (frz id n es p) v := by
  have hid : id < c.μ.length := by rw [hr.mlen]; exact (List.getElem?_eq_some_iff.1 hm).1
  have ht := List.getElem?_eq_getElem hid
  generalize c.μ[id] = t at ht
  have hmk := hr.mu id t _ ht hm
  obtain ⟨a1, a2, a3, a4⟩ := hmk
  obtain ⟨r1, r2⟩ := hr.setMu ht (t' := { t with live := false, gen := n + 1 }) (o' := .gone (n + 1)) rfl (.inr (by dsimp only; omega)) (w' := c.w) rfl rfl rfl (Nat.le_refl _) (fun _ _ _ => rfl) (fun h => by cases h) (fun _ => ⟨rfl, rfl⟩)
  refine ⟨⟨c.σ, c.τ, c.μ.set id { t with live := false, gen := n + 1 }, c.hid, c.w⟩, rfl, ?_, r2, ?_⟩
  all_goals
    have hread : ∀ v, RV c (.mar id n) v → RG c.w (Ctx.stab ⟨c.σ, c.τ, c.μ.set id { t with live := false, gen := n + 1 }, c.hid, c.w⟩) (.sl es) v := by
      intro v hv
      cases hv with
      | mar _ _ _ t2 ht2 hn h1 hv =>
        rw [ht] at ht2
        cases ht2
        rcases hv a1.symm with ⟨lv, rfl⟩ | ⟨lv, rfl⟩
        · refine MOk.reads (hr.mu id t _ ht hm) lv (fun _ => rfl) (fun p _ => ?_) r2.keep
          have htm := List.mem_of_getElem? ht
          refine ⟨fun h => hr.mhid t htm lv p h, fun h => hr.ms t htm lv h, fun t3 h3 lv3 e3 => absurd e3.symm (hr.mt t htm lv t3 h3 lv3), fun t3 h3 lv3 e3 => ?_⟩
          obtain ⟨k, hk⟩ := List.getElem?_of_mem h3
          replace hk : (c.μ.set id { t with live := false, gen := n + 1 })[k]? = some t3 := hk
          by_cases ek : k = id
          · subst ek
            rw [List.getElem?_set_self hid] at hk
            cases hk
            cases lv3
          · rw [List.getElem?_set_ne (fun h => ek h.symm)] at hk
            exact ek (hr.md k id t3 t hk ht lv3 lv e3)
        · rcases a4 with ⟨_, rfl⟩ | ⟨lv', _⟩
          · exact .nil
          · rw [lv] at lv'; cases lv'
  · refine { r1 with len := by rw [frzB_eq]; simpa using r1.len, bx := ?_ }
    intro i b cs hb hcs
    rw [frzB_eq] at hcs
    simp only [List.getElem?_map, Option.map_eq_some_iff] at hcs
    obtain ⟨ds, hds, rfl⟩ := hcs
    obtain ⟨vals, T, e1, e2, e3⟩ := hr.bx i b ds hb hds
    refine ⟨vals, T, e1, by simpa using e2, fun j p v hp hv => ?_⟩
    simp only [List.getElem?_map, Option.map_eq_some_iff] at hp
    obtain ⟨q, hq, rfl⟩ := hp
    exact ⟨RV_frz r2 hread (e3 j q v hq hv).1, (e3 j q v hq hv).2⟩
  · exact fun p v h => RV_frz r2 hread h
end

section
variable {P : Program} {N : Nat} {Q : Exit → Env → PH → Prop} {env : Env} {H : PH}
theorem PW_freeze {code : Code} (id : Nat) {n : Nat} {e : TypeId} {es : List GV} (hm : H.mu[id]? = some (.arr n e es)) (h : PW P N code Q (fun t => frz id n es (env t)) ⟨frzB id n es H.bx, H.tk, H.mu.set id (.gone (n + 1))⟩) : PW P N code Q env H := by
  intro c a hr he
  obtain ⟨c', hw, r1, e1, r2⟩ := hr.freeze hm
  have := h c' a r1 ⟨he.defers, he.size, fun t => r2 _ _ (he.slot t)⟩
  rw [hw] at this
  refine wp_mono this ?_
  rintro x a' w' ⟨c2, env', H', q, rfl, hr', hE', he'⟩
  exact ⟨c2, env', H', q, rfl, hr', e1.trans hE', he'⟩
end

section
variable {P : Program} {o : Oper} {ρ : Operand → PV} {H : PH}

theorem run_convert_mark {w : World} {g n cap : Nat} {t e : TypeId} {C : Array Value} (hg : w.heap[g]? = some (.cells C e (0, 0))) (ht : P.underlying t = some (.slice e)) (he : P.underlying e = some (.int .u8)) :
    (convert t t (.slice (some ⟨g, 0, none⟩) n cap)).run P w = .ok (.slice (some ⟨g, 0, none⟩) n cap) (w.freeze ⟨g, C.size, none⟩ 1) := by
  have hsh : w.shape? g = some (e, C.size) := by unfold World.shape?; rw [hg]
  simp [convert, run_underlying ht, run_underlying he, markStringish, hsh]
theorem freeze_other (w : World) (g k b : Nat) (h : b ≠ g) : (w.freeze ⟨g, k, none⟩ 1).heap[b]? = w.heap[b]? := by
  simp [World.freeze, Array.getElem?_modify, Ne.symm h]
theorem freeze_cell (w : World) (g k : Nat) (a : Addr) : (w.freeze ⟨g, k, none⟩ 1).cell? a = w.cell? a := by
  by_cases h : a.block = g
  · unfold World.cell? World.freeze
    rw [if_neg (by decide)]
    simp only [Array.getElem?_modify]
    subst h
    simp only [if_true]
    cases w.heap[a.block]? with
    | none => rfl
    | some o => cases o <;> rfl
  · exact World.cell?_of_block (freeze_other w g k a.block h)

/-- '[]byte("..")' of a constant: the array is marked, and isn't written any more. -/
theorem PO_conv_mark {t e : TypeId} {x : Operand} {id n : Nat} {es : List GV} (ho : o.op = .convert t t x) (ht : P.underlying t = some (.slice e)) (he : intB P e = some .u8) (hx' : ρ x = .mar id n) (hm : H.mu[id]? = some (.arr n e es)) (hne : Nat.ble 1 es.length = true) :
    PO P o ρ H (.g (.sl es)) ⟨H.bx, H.tk, H.mu.set id (.gone (n + 1))⟩ := by
  intro c ρr hr hx
  have h1 := hx x (by simp [ho, Op.operands])
  rw [hx'] at h1
  generalize hv : ρr x = v at h1
  cases h1 with
  | mar _ _ _ t' ht' hn h1' hv' =>
    have hmk := hr.mu id t' _ ht' hm
    obtain ⟨a1, a2, a3, a4⟩ := hmk
    rcases a4 with ⟨_, rfl⟩ | ⟨lv, cur, b1, b2, b3, b4, b5, b6⟩
    · cases hne
    · rcases hv' a1.symm with ⟨_, rfl⟩ | ⟨lv', _⟩
      · have hrun : (execOp ρr o).run P c.w = .ok (.value (.slice (some ⟨t'.g, 0, none⟩) t'.len t'.cap)) (c.w.freeze ⟨t'.g, cur.size, none⟩ 1) := by
          have := run_convert_mark (n := t'.len) (cap := t'.cap) b1 ht (intB_ok he)
          simp [execOp, ho, hv, this]
        unfold OpGoes
        rw [hrun]
        have htm := List.mem_of_getElem? ht'
        have hid := (List.getElem?_eq_some_iff.1 ht').1
        obtain ⟨r1, r2⟩ := hr.setMu ht' (t' := { t' with live := false, gen := n + 1 }) (o' := .gone (n + 1)) rfl (.inr (by dsimp only; omega)) (w' := c.w.freeze ⟨t'.g, cur.size, none⟩ 1) rfl rfl rfl (by simp [World.freeze]) (fun b hb h => freeze_other c.w t'.g _ b (h lv)) (fun h => by cases h) (fun _ => ⟨rfl, rfl⟩)
        refine ⟨_, rfl, r1, r2, .g _ _ (MOk.reads (hr.mu id t' _ ht' hm) lv (fun k => freeze_cell _ _ _ _) (fun p _ => ?_) r2.keep)⟩
        refine ⟨fun h => hr.mhid t' htm lv p h, fun h => hr.ms t' htm lv h, fun t3 h3 lv3 e3 => absurd e3.symm (hr.mt t' htm lv t3 h3 lv3), fun t3 h3 lv3 e3 => ?_⟩
        obtain ⟨k, hk⟩ := List.getElem?_of_mem h3
        replace hk : (c.μ.set id { t' with live := false, gen := n + 1 })[k]? = some t3 := hk
        by_cases ek : k = id
        · subst ek
          rw [List.getElem?_set_self hid] at hk
          cases hk
          cases lv3
        · rw [List.getElem?_set_ne (fun h => ek h.symm)] at hk
          exact ek (hr.md k id t3 t' hk ht' lv3 lv e3)
      · rw [lv] at lv'; cases lv'
end
end Go.Pure
