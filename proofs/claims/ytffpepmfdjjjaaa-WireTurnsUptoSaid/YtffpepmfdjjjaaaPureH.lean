/- A generic layer: steps. -/
import Derived.Test.YtffpepmfdjjjaaaPureG
namespace Go.Pure
open Go
def dstOk (N : Nat) (d : Option Tmp) : Bool := match d with | some t => Nat.blt t N | none => true

section
variable {P : Program} {N : Nat} {all : Array Oper} {K : Env → PH → Prop} {rest : List Oper} {env : Env} {H H' : PH} {v : PV} {d : Option Tmp} {op : Op} {ty : TypeId} {pos : String} {aft : Array Edge}

theorem dst_of (h : dstOk N d = true) : ∀ t, d = some t → t < N := by
  intro t e
  unfold dstOk at h
  rw [e] at h
  simpa [Nat.blt_eq] using h

theorem POps_cons (hd : dstOk N d = true) (h : PO P ⟨d, op, ty, pos, aft, none⟩ env.eval H v H') (k : POps P N all K rest (upd env d v) H') : POps P N all K (⟨d, op, ty, pos, aft, none⟩ :: rest) env H :=
  ⟨dst_of hd, v, H', h, k⟩

theorem POps_guard {gg : Nat × Bool} (hg : gd all ⟨d, op, ty, pos, aft, some gg⟩ env = some true) (hd : dstOk N d = true) (h : PO P ⟨d, op, ty, pos, aft, some gg⟩ env.eval H v H') (k : POps P N all K rest (upd env d v) H') :
    POps P N all K (⟨d, op, ty, pos, aft, some gg⟩ :: rest) env H := by
  refine ⟨dst_of hd, ?_⟩
  rw [hg]
  exact ⟨v, H', h, k⟩

theorem POps_skip {gg : Nat × Bool} (hg : gd all ⟨d, op, ty, pos, aft, some gg⟩ env = some false) (hd : dstOk N d = true) (k : POps P N all K rest (upd env d undefP) H) :
    POps P N all K (⟨d, op, ty, pos, aft, some gg⟩ :: rest) env H := by
  refine ⟨dst_of hd, ?_⟩
  rw [hg]
  exact k

/-- The next operation runs: its guard, its slot, its rule. -/
theorem POps_run {g : Option (Nat × Bool)} (hg : gd all ⟨d, op, ty, pos, aft, g⟩ env = some true) (hd : dstOk N d = true) (h : PO P ⟨d, op, ty, pos, aft, g⟩ env.eval H v H') (k : POps P N all K rest (upd env d v) H') :
    POps P N all K (⟨d, op, ty, pos, aft, g⟩ :: rest) env H := by
  refine ⟨dst_of hd, ?_⟩
  rw [hg]
  exact ⟨v, H', h, k⟩

theorem POps_nil (h : K env H) : POps P N all K [] env H := h

/-- What comes behind stands behind a variable. -/
theorem PW_seq_k {x y : Code} {Q : Exit → Env → PH → Prop} (h : ∀ K : Env → PH → Prop, (∀ env H, PW P N y Q env H → K env H) → PW P N x (Next K Q) env H) : PW P N (.seq x y) Q env H :=
  PW_seq (h _ fun _ _ h => h)

theorem PW_region_k {id : Nat} {l : List Oper} {Q : Exit → Env → PH → Prop} (h : ∀ K : Env → PH → Prop, (∀ env H, Q .normal env H → K env H) → POps P N l.toArray K l env H) : PW P N (.region id l.toArray false) Q env H :=
  PW_region (h _ fun _ _ h => h)

theorem resV_tmp {t : Tmp} : resV P env H (.tmp t) = some (env t) := rfl
theorem resV_agg {a : Tmp} {t : TypeId} {n b off : Nat} {cs : List PV} (h1 : aggB P t = some true) (h2 : szB P t = some n) (ha : env a = .ptr b off) (hb : H.bx[b]? = some cs) (hl : off + n ≤ cs.length) :
    resV P env H (.cell a t) = some (.agg ((cs.drop off).take n)) := by simp [resV, h1, h2, ha, hb, hl]
theorem resV_one {a : Tmp} {t : TypeId} {b off : Nat} {cs : List PV} {p : PV} (h1 : aggB P t = some false) (ha : env a = .ptr b off) (hb : H.bx[b]? = some cs) (hl : cs[off]? = some p) :
    resV P env H (.cell a t) = some p := by simp [resV, h1, ha, hb, hl]
theorem resVs_nil : resVs P env H [] = some [] := rfl
theorem resVs_cons {r : ResultVar} {rs : List ResultVar} {p : PV} {ps : List PV} (h : resV P env H r = some p) (hs : resVs P env H rs = some ps) : resVs P env H (r :: rs) = some (pack p :: ps) := by simp [resVs, h, hs]

theorem resRs_nil : resRs P env H [] = some [] := rfl
theorem resRs_cons {r : ResultVar} {rs : List ResultVar} {p : PV} {ps : List PV} (h : resV P env H r = some p) (hs : resRs P env H rs = some ps) : resRs P env H (r :: rs) = some (p :: ps) := by simp [resRs, h, hs]

theorem Ret_pure {rs : List ResultVar} {ps : List PV} {e : Exit} {H2 : PH} (hs : resVs P env H2 rs = some ps) (hv : retV ps = v) (hc : RefsIn 0 0 0 v) (he : e = .normal ∨ e = .ret := by first | exact .inl rfl | exact .inr rfl) :
    Ret P rs ⟨[], [], []⟩ v ⟨[], [], []⟩ e env H2 :=
  ⟨he, ps, .inl hs, hv, ⟨_, rfl⟩, ⟨_, rfl⟩, ⟨_, rfl⟩, Nat.le_refl _, Nat.le_refl _, Nat.le_refl _, hc, by simp⟩

theorem Ret_keep {rs : List ResultVar} {ps : List PV} {e : Exit} {H2 : PH} {x : List (List PV)} {y : List (TypeId × Nat)} {z : List MO} (hs : resVs P env H2 rs = some ps) (hv : retV ps = v) (hx : H2.bx = H'.bx ++ x) (hy : H2.tk = H'.tk ++ y) (hz : H2.mu = H'.mu ++ z)
    (h1 : H.bx.length ≤ H'.bx.length) (h2 : H.tk.length ≤ H'.tk.length) (h3 : H.mu.length ≤ H'.mu.length)
    (hc : RefsIn H'.bx.length H'.tk.length H'.mu.length v) (hb : ∀ cs ∈ H'.bx, ∀ p ∈ cs, RefsIn H'.bx.length H'.tk.length H'.mu.length p) (he : e = .normal ∨ e = .ret := by first | exact .inl rfl | exact .inr rfl) :
    Ret P rs H v H' e env H2 :=
  ⟨he, ps, .inl hs, hv, ⟨_, hx⟩, ⟨_, hy⟩, ⟨_, hz⟩, h1, h2, h3, hc, hb⟩
end
end Go.Pure
