/- A generic layer: values without memory, and code over them. -/
import Derived.Test.YtdicineiaifahaaGreatDoorPureB
import Derived.Laws.MakeOwn
import Derived.Laws.OwnMore
import Derived.LaidEqlPtr
import Derived.Defers
import Derived.Laws.Twins
import Derived.LoopN
import Derived.Laws.CopyRow
/- A generic layer: what a result is, said in the prover's words; short names of the rules that a walk tries. -/
namespace Go.Pure
open Go

section
variable {P : Program} {o : Oper} {ρ : Operand → PV} {H : PH}
theorem PO_as {v v' : PV} {H' : PH} (h : PO P o ρ H v H') (e : v = v') : PO P o ρ H v' H' := e ▸ h
end
section
variable {P : Program} {K : List Nat} {o : Oper} {env : Env} {H H' : PH} {v : PV}
end
theorem qA : type_of% @POps_nil := @POps_nil
theorem qB : type_of% @POpsD_nil := @POpsD_nil
theorem oR : type_of% @POps_run := @POps_run
theorem dR : type_of% @POpsD_run := @POpsD_run
theorem cI : type_of% @PO_conv_int := @PO_conv_int
theorem mF : type_of% @PO_makeFunc := @PO_makeFunc
theorem bS : type_of% @PO_buildSlice := @PO_buildSlice
theorem nC : type_of% @PO_nilCheck := @PO_nilCheck
theorem xS : type_of% @PW_seq := @PW_seq
theorem xU : type_of% @PW_seq_unless := @PW_seq_unless
theorem xR : type_of% @PW_region := @PW_region
theorem xK : type_of% @PW_draw_auto := @PW_draw_auto
theorem xB : type_of% @PW_block := @PW_block
theorem xN : type_of% @PW_skip := @PW_skip
theorem xE : type_of% @PW_exit := @PW_exit
theorem xT : type_of% @PW_ret := @PW_ret
theorem xt : type_of% @PW_cond_t := @PW_cond_t
theorem xf : type_of% @PW_cond_f := @PW_cond_f
theorem cl : type_of% @call_pure := @call_pure
theorem cb : type_of% @call_box := @call_box
theorem cd : type_of% @call_deep := @call_deep
theorem cm : type_of% @call_cdeep := @call_cdeep
theorem iA : type_of% @PO_indexAddr := @PO_indexAddr
theorem vC : type_of% @resVs_cons := @resVs_cons
theorem vN : type_of% @resVs_nil := @resVs_nil
theorem vT : type_of% @resV_tmp := @resV_tmp
theorem vA : type_of% @resV_agg := @resV_agg
theorem wC : type_of% @resRs_cons := @resRs_cons
theorem wN : type_of% @resRs_nil := @resRs_nil
theorem lB : type_of% @Nat.le_of_ble_eq_true := @Nat.le_of_ble_eq_true
section
variable {P : Program} {T : Tab} {N : Nat} {all : Array Oper} {Z : Env → PH → Prop} {l l' rest : List Oper} {env env' : Env} {H H' : PH} {v : PV} {d : Option Tmp} {op : Op} {ty : TypeId} {pos : String} {aft : Array Edge} {g : Option (Nat × Bool)}
theorem ro1 (hT : TabOk P T) (h0 : canO T N all l env H = true) (h : runO T N all 300 l env H = some (l', env', H')) (k : POps P N all Z l' env' H') : POps P N all Z l env H := runO_ok hT 300 h0 h k
theorem ro2 (hT : TabOk P T) (h0 : canO T N all l env H = true) (h : runO T N all 6 l env H = some (l', env', H')) (k : POps P N all Z l' env' H') : POps P N all Z l env H := runO_ok hT 6 h0 h k
theorem ro3 (hT : TabOk P T) (h0 : canO T N all l env H = true) (h : runO T N all 1 l env H = some (l', env', H')) (k : POps P N all Z l' env' H') : POps P N all Z l env H := runO_ok hT 1 h0 h k
section
variable {K : List Nat}
theorem rd1 (hT : TabOk P T) (h0 : canD T N all K l env H = true) (h : runD T N all K 300 l env H = some (l', env', H')) (k : POpsD P N all K Z l' env' H') : POpsD P N all K Z l env H := runD_ok hT 300 h0 h k
theorem rd2 (hT : TabOk P T) (h0 : canD T N all K l env H = true) (h : runD T N all K 6 l env H = some (l', env', H')) (k : POpsD P N all K Z l' env' H') : POpsD P N all K Z l env H := runD_ok hT 6 h0 h k
theorem rd3 (hT : TabOk P T) (h0 : canD T N all K l env H = true) (h : runD T N all K 1 l env H = some (l', env', H')) (k : POpsD P N all K Z l' env' H') : POpsD P N all K Z l env H := runD_ok hT 1 h0 h k
theorem noneB_none {x : Option Tmp} (h : x = none) : noneB x = true := by subst h; rfl
theorem dF (hg : gd all ⟨d, op, ty, pos, aft, g⟩ env = some true) (hd : dstOk N d = true) (hk : kindB P op = 0) (h : ∀ H1, PO P ⟨d, op, ty, pos, aft, g⟩ env.eval H1 v H1) (k : POpsD P N all K Z rest (upd env d v) H) : POpsD P N all K Z (⟨d, op, ty, pos, aft, g⟩ :: rest) env H :=
  POpsD_run hg hd (Cond_f h hk) k (noneB_none (abT_kind (P := P) (by show kindB P op ≠ 3; rw [hk]; decide)))
theorem dP (hg : gd all ⟨d, op, ty, pos, aft, g⟩ env = some true) (hd : dstOk N d = true) (hk : frB K ⟨d, op, ty, pos, aft, g⟩ = true) (h : ∀ H1, PO P ⟨d, op, ty, pos, aft, g⟩ env.eval H1 v H1) (k : POpsD P N all K Z rest (upd env d v) H) : POpsD P N all K Z (⟨d, op, ty, pos, aft, g⟩ :: rest) env H :=
  POpsD_run hg hd (Cond_p h hk) k (noneB_none (frB_tt hk).2)
theorem dL (hg : gd all ⟨d, op, ty, pos, aft, g⟩ env = some true) (hd : dstOk N d = true) (hk : kindB P op = 1) (h : ∀ H1, PO P ⟨d, op, ty, pos, aft, g⟩ env.eval H1 v H1) (k : POpsD P N all K Z rest (upd env d v) H) : POpsD P N all K Z (⟨d, op, ty, pos, aft, g⟩ :: rest) env H :=
  POpsD_run hg hd (Cond_l h hk) k (noneB_none (abT_kind (P := P) (by show kindB P op ≠ 3; rw [hk]; decide)))
theorem dC (hg : gd all ⟨d, op, ty, pos, aft, g⟩ env = some true) (hd : dstOk N d = true) (hk : kindB P op = 2) (hf : plB K ⟨d, op, ty, pos, aft, g⟩ = true) (h : PO P ⟨d, op, ty, pos, aft, g⟩ env.eval H v H') (hq : KEq K H H') (k : POpsD P N all K Z rest (upd env d v) H') : POpsD P N all K Z (⟨d, op, ty, pos, aft, g⟩ :: rest) env H :=
  POpsD_run hg hd (Cond_c h hq hk hf) k (noneB_none (plB_spec hf).2.1)
theorem kQ (h : KEq K H H' := by first | exact KEq.refl _ _ | (repeat (first | exact trivial | refine And.intro rfl ?_ | refine And.intro trivial ?_))) : KEq K H H' := h
end
section
variable {id : Nat} {Q : Exit → Env → PH → Prop} {K0 K : List Nat}
theorem qxa (h0 : upTo H.bx lits = some K0) (ha : autoK l env (isNil H.mu) false false K0 = some K) (hm : P.follows .mixedOrders = true) (h : POpsD P N l.toArray K (fun env H => Q .normal env H) l env H) (hd : drawB P K l = true := by decide +kernel) : PW P N (.region id l.toArray true) Q env H := PW_draw_all false false h0 ha hm hd h
theorem qxb (h0 : upTo H.bx lits = some K0) (ha : autoK l env (isNil H.mu) false true K0 = some K) (hm : P.follows .mixedOrders = true) (h : POpsD P N l.toArray K (fun env H => Q .normal env H) l env H) (hd : drawB P K l = true := by decide +kernel) : PW P N (.region id l.toArray true) Q env H := PW_draw_all false true h0 ha hm hd h
theorem qxc (h0 : upTo H.bx lits = some K0) (ha : autoK l env (isNil H.mu) true false K0 = some K) (hm : P.follows .mixedOrders = true) (h : POpsD P N l.toArray K (fun env H => Q .normal env H) l env H) (hd : drawB P K l = true := by decide +kernel) : PW P N (.region id l.toArray true) Q env H := PW_draw_all true false h0 ha hm hd h
theorem qxd (h0 : upTo H.bx lits = some K0) (ha : autoK l env (isNil H.mu) true true K0 = some K) (hm : P.follows .mixedOrders = true) (h : POpsD P N l.toArray K (fun env H => Q .normal env H) l env H) (hd : drawB P K l = true := by decide +kernel) : PW P N (.region id l.toArray true) Q env H := PW_draw_all true true h0 ha hm hd h
end
end
end Go.Pure


/- A generic layer: slices that are made empty, with room for so many. -/
namespace Go.Pure
open Go

section
variable {P : Program} {o : Oper} {ρ : Operand → PV} {H : PH}

end
end Go.Pure


/- A generic layer: nothing appended to a slice written out. -/
namespace Go.Pure
open Go

section
variable {P : Program} {o : Oper} {ρ : Operand → PV} {H : PH}
end
end Go.Pure


/- A generic layer: maps: made, filled, looked up in. -/
namespace Go.Pure
open Go

section
variable {P : Program} {o : Oper} {ρ : Operand → PV} {H : PH}

end

section
variable {P : Program} {K : List Nat} {o : Oper} {env : Env} {H : PH}
end
end Go.Pure


/- A generic layer: parts of arrays that may be written (their elements have one cell): made, cut, read, copied, cleared. -/
namespace Go.Pure
open Go

def putAt (es : List GV) (off : Nat) (gs : List GV) : List GV := es.take off ++ gs ++ es.drop (off + gs.length)
theorem putAt_length {es gs : List GV} {off : Nat} (h : off + gs.length ≤ es.length) : (putAt es off gs).length = es.length := by simp [putAt]; omega

section
variable {P : Program} {o : Oper} {ρ : Operand → PV} {H : PH}

theorem sz_one {e size : Nat} (h1 : (P.info? e).map (·.size) = some size) (h2 : szB P e = some 1) : size = 1 := by
  unfold szB at h2
  rw [h2] at h1
  exact (Option.some.inj h1).symm

theorem Rel.writeArr {c : Ctx} (hr : Rel P c H) {id n e : Nat} {es gs : List GV} {t : MTok} {us : List Value} (ht : c.μ[id]? = some t) (hm : H.mu[id]? = some (.arr n e es)) (hs : szB P e = some 1) (lv : t.live = true) {off : Nat} (hl : us.length = gs.length) (hfit : off + gs.length ≤ es.length)
    (hg : ∀ (j : Nat) (g : GV) (v : Value), gs[j]? = some g → us[j]? = some v → RG c.w c.stab g v ∧ v.oneCell' = true) :
    ∃ cur, c.w.heap[t.g]? = some (.cells cur e (0, 0)) ∧ off + us.length ≤ cur.size ∧ t.size = 1 ∧
      ∃ c', c'.w = c.w.setRow t.g (cur.toList.take off ++ us ++ cur.toList.drop (off + us.length)).toArray ∧ Rel P c' ⟨H.bx, H.tk, H.mu.set id (.arr n e (putAt es off gs))⟩ ∧ Evo c c' := by
  have hmk := hr.mu id t _ ht hm
  obtain ⟨a1, a2, a3, a4⟩ := hmk
  have hsz := sz_one a3 hs
  rcases a4 with ⟨lv', _⟩ | ⟨_, cur, b1, b2, b3, b4, b5, b6⟩
  · rw [lv] at lv'; cases lv'
  · rw [hsz, Nat.mul_one] at b2
    have hfc : off + us.length ≤ cur.size := by omega
    refine ⟨cur, b1, hfc, hsz, ?_⟩
    have hone : ∀ g ∈ gs, g.cells = [g] := by
      intro g hgm
      obtain ⟨j, hj⟩ := List.getElem?_of_mem hgm
      have hlt : j < us.length := by rw [hl]; exact (List.getElem?_eq_some_iff.1 hj).1
      obtain ⟨r1, r2⟩ := hg j g _ hj (List.getElem?_eq_getElem hlt)
      exact r1.cells_one r2
    have hone' : ∀ x ∈ es, x.cells.length = 1 := fun x hx => by rw [b5 x hx, hsz]
    generalize hnew : (cur.toList.take off ++ us ++ cur.toList.drop (off + us.length)).toArray = new
    have hnsz : new.size = cur.size := by rw [← hnew]; simp; omega
    have := hr.setMu ht (t' := t) (o' := .arr n e (putAt es off gs)) rfl (.inl rfl) (w' := c.w.setRow t.g new) rfl ⟨rfl, fun _ => by first | exact Nat.le_refl _ | exact Nat.le_succ _⟩ rfl (by simp) (fun b hb h => setRow_other c.w t.g b _ (h lv)) (fun _ => .inl ⟨lv, rfl⟩) (fun hE => ?_)
    · exact ⟨_, rfl, this.1, this.2⟩
    · refine ⟨a1, by rw [putAt_length hfit]; exact a2, a3, .inr ⟨lv, new, setRow_heap c.w t.g cur new e (0, 0) b1, by rw [hnsz, hsz, Nat.mul_one]; exact b2, by rw [putAt_length hfit]; exact b3, b4, ?_, ?_⟩⟩
      · intro x hx
        rw [hsz]
        unfold putAt at hx
        simp only [List.mem_append] at hx
        rcases hx with (hx | hx) | hx
        · exact hone' x (List.mem_of_mem_take hx)
        · rw [hone x hx]; rfl
        · exact hone' x (List.mem_of_mem_drop hx)
      · intro i x j g v hx hgj hv
        rw [hsz, Nat.mul_one] at hv
        rw [← hnew] at hv
        simp only [List.getElem?_toArray] at hv
        unfold putAt at hx
        have hcl : (cur.toList.take off).length = off := by simp; omega
        have hel : (es.take off).length = off := by simp; omega
        have old : ∀ k, es[k]? = some x → cur.toList[k + j]? = some v → RG c.w c.stab g v ∧ v.oneCell' = true := fun k hk hv => b6 k x j g v hk hgj (by rw [hsz, Nat.mul_one]; simpa using hv)
        by_cases h1 : i < off
        · rw [List.append_assoc, List.getElem?_append_left (by rw [hel]; exact h1)] at hx
          have hx2 : es[i]? = some x := by rw [List.getElem?_take, if_pos h1] at hx; exact hx
          have hj0 : j = 0 := by
            have := (List.getElem?_eq_some_iff.1 hgj).1
            rw [hone' x (List.mem_of_getElem? hx2)] at this
            omega
          subst hj0
          rw [List.append_assoc, List.getElem?_append_left (by rw [hcl]; omega)] at hv
          rw [List.getElem?_take, if_pos (by omega)] at hv
          exact ⟨(old i hx2 hv).1.mono hE.keep, (old i hx2 hv).2⟩
        · by_cases h2 : i < off + gs.length
          · rw [List.append_assoc, List.getElem?_append_right (by rw [hel]; omega), List.getElem?_append_left (by rw [hel]; omega), hel] at hx
            have hj0 : j = 0 := by
              have := (List.getElem?_eq_some_iff.1 hgj).1
              rw [hone x (List.mem_of_getElem? hx)] at this
              simpa using this
            subst hj0
            rw [hone x (List.mem_of_getElem? hx)] at hgj
            simp only [List.getElem?_cons_zero, Option.some.injEq] at hgj
            subst hgj
            rw [List.append_assoc, List.getElem?_append_right (by rw [hcl]; omega), List.getElem?_append_left (by rw [hcl, hl]; omega), hcl] at hv
            exact ⟨(hg _ x v hx hv).1.mono hE.keep, (hg _ x v hx hv).2⟩
          · rw [List.getElem?_append_right (by simp [hel]; omega)] at hx
            have l2 : (es.take off ++ gs).length = off + gs.length := by simp [hel]
            rw [l2, List.getElem?_drop, show off + gs.length + (i - (off + gs.length)) = i by omega] at hx
            have hj0 : j = 0 := by
              have := (List.getElem?_eq_some_iff.1 hgj).1
              rw [hone' x (List.mem_of_getElem? hx)] at this
              omega
            subst hj0
            rw [List.getElem?_append_right (by simp [hcl, hl]; omega)] at hv
            have l3 : (cur.toList.take off ++ us).length = off + us.length := by simp [hcl]
            rw [l3, List.getElem?_drop, hl, show off + gs.length + (i + 0 - (off + gs.length)) = i by omega] at hv
            exact ⟨(old i hx (by simpa using hv)).1.mono hE.keep, (old i hx (by simpa using hv)).2⟩

theorem vw_sl {c : Ctx} {id n off len cap : Nat} {v : Value} (h : RV c (.vw id n off len cap) v) : ∃ g, v = .slice (some ⟨g, off, none⟩) len cap := by
  cases h; exact ⟨_, rfl⟩
theorem vw_get {c : Ctx} (hr : Rel P c H) {id n off len cap e : Nat} {es : List GV} {v : Value} (h : RV c (.vw id n off len cap) v) (hm : H.mu[id]? = some (.arr n e es)) :
    ∃ t, c.μ[id]? = some t ∧ n ≤ t.gen ∧ t.live = true ∧ t.size = 1 ∧ v = .slice (some ⟨t.g, off, none⟩) len cap ∧ n = t.gen ∧ len ≤ cap ∧ off + cap ≤ t.len ∧ t.len = es.length ∧ cap ≤ maxLen := by
  cases h with
  | vw _ _ _ _ _ g t ht hn h1 h2 hv =>
    obtain ⟨a1, a2, a3, a4⟩ := hr.mu id t _ ht hm
    obtain ⟨lv, rfl, ls, l2⟩ := hv a1.symm
    exact ⟨t, ht, hn, lv, ls, rfl, a1.symm, h1, l2, a2, h2⟩

theorem vw_mk {c : Ctx} {id n off len cap : Nat} {t : MTok} (ht : c.μ[id]? = some t) (hn : n ≤ t.gen) (lv : t.live = true) (hs : t.size = 1) (h1 : len ≤ cap) (hm : cap ≤ maxLen) (h2 : off + cap ≤ t.len) : RV c (.vw id n off len cap) (.slice (some ⟨t.g, off, none⟩) len cap) :=
  .vw id n off len cap t.g t ht hn h1 hm fun _ => ⟨lv, rfl, hs, h2⟩

theorem PO_vmake {t e m : Nat} {x y : Operand} {k1 k2 : IntKind} {l n : Nat} {z : Value} (ho : o.op = .makeSlice t x y) (hx1 : ρ x = .g (.int k1 l)) (hy1 : ρ y = .g (.int k2 n)) (he : P.underlying t = some (.slice e)) (hs : szB P e = some 1) (hz : zeroB P e = some z) (hz1 : z.oneCell' = true)
    (hby : bytesB P e = some m) (hl : l ≤ n) (hm : m * n ≤ 281474976710656) (hn : n ≤ 9223372036854775807) :
    PO P o ρ H (.vw H.mu.length 0 0 l n) ⟨H.bx, H.tk, H.mu ++ [.arr 0 e (List.replicate n (constG z))]⟩ := by
  intro c ρr hr hx
  have h1 := hx x (by simp [ho, Op.operands])
  have h2 := hx y (by simp [ho, Op.operands])
  rw [hx1] at h1
  rw [hy1] at h2
  have q1 := RV_int h1
  have q2 := RV_int h2
  obtain ⟨i, hi, hsz⟩ : ∃ i, P.info? e = some i ∧ i.size = 1 := by
    unfold szB at hs
    cases hu : P.info? e with
    | none => rw [hu] at hs; cases hs
    | some i => rw [hu] at hs; exact ⟨i, rfl, by simpa using hs⟩
  have hiz : i.zero = some z := by unfold zeroB at hz; rw [hi] at hz; simpa using hz
  have hib : i.bytes = m := by unfold bytesB at hby; rw [hi] at hby; simpa using hby
  have hzc : z.cells = #[z] := cells_one hz1
  have hrun : (execOp ρr o).run P c.w = .ok (.value (.slice (some ⟨c.w.heap.size, 0, none⟩) l n)) (c.w.alloc (.cells (madeCells #[z] n) e)) := by
    have hr := run_make (P := P) c.w t e i z he hi hiz k1 k2 l n (by omega) (by omega) (by rw [hib, ← Int.natCast_mul]; omega) (by omega)
    simp only [Int.toNat_natCast, hsz, Nat.mul_one, hzc] at hr
    simp [execOp, ho, q1, q2, hr]
  unfold OpGoes
  rw [hrun]
  have hmax : n ≤ maxLen := by unfold maxLen; omega
  have hat : ∀ (k : Nat) (v : Value), (madeCells #[z] n)[k]? = some v → v = z := by
    intro k v hv
    have : (madeCells #[z] n).toList[k]? = some v := by simpa using hv
    rw [toList_madeCells_one, List.getElem?_replicate] at this
    split at this
    · exact (Option.some.inj this).symm
    · cases this
  have hc1 : (constG z).cells = [constG z] := (constG_ok c.w c.stab z).cells_one hz1
  obtain ⟨r1, r2⟩ := hr.addMu (Ext.alloc c.w (.cells (madeCells #[z] n) e)) (t := ⟨true, c.w.heap.size, 1, 0, n, n⟩) (o := .arr 0 e (List.replicate n (constG z))) (fun _ => ⟨Nat.le_refl _, by simp⟩)
    ⟨rfl, by simp, hs, .inr ⟨rfl, _, Go.heap_alloc_new c.w _, by simp [size_madeCells], by simp, hmax, fun x hx => by rw [(List.mem_replicate.1 hx).2, hc1]; rfl, fun k x j g v hx hg hv => by
      rw [List.getElem?_replicate] at hx
      split at hx
      · cases hx
        rw [hc1] at hg
        have hj : j = 0 := by have := (List.getElem?_eq_some_iff.1 hg).1; simpa using this
        subst hj
        simp at hg
        subst hg
        rw [hat _ _ hv]
        exact ⟨constG_ok _ _ z, hz1⟩
      · cases hx⟩⟩
  refine ⟨_, rfl, r1, r2, ?_⟩
  refine vw_mk (t := ⟨true, c.w.heap.size, 1, 0, n, n⟩) ?_ (Nat.le_refl _) rfl rfl hl hmax (by simp)
  show (c.μ ++ [_])[H.mu.length]? = _
  rw [← hr.mlen]; simp

theorem run_sliceAt_sl {w : World} {t e : Nat} (ht : P.underlying t = some (.slice e)) (hs : szB P e = some 1) (a : Addr) (len cap : Nat) (lo hi mx : Option Value) (L U M : Nat) (hb : (Instr.sliceBounds true len cap lo hi mx).run P w = .ok (L, U, M) w) :
    (Instr.sliceAt t (.slice (some a) len cap) lo hi mx).run P w = .ok (.slice (if M = L then some a else some (a.add L)) (U - L) (M - L)) w := by
  simp [Instr.sliceAt, Instr.slice, run_underlying ht, hb, run_sizeOf hs]
theorem run_bound {w : World} (k : IntKind) (i : Nat) (y : Nat) (code : BoundsCode) (h : i ≤ y) : (Instr.sliceBound (.int k i) y code).run P w = .ok i w := by
  have h' : 0 ≤ (i : Int) ∧ (i : Int) ≤ (y : Int) := by omega
  simp only [Instr.sliceBound, asIntOf, Sem.run_bind, Sem.run_pure, Result.andThen_ok]
  rw [if_pos h']
  simp
theorem run_bounds {w : World} {len cap : Nat} (l h m : Option (IntKind × Int)) (hhm : h = none → m = none) {L U M : Nat} (hL : loOf l = L) (hU : hiOf len h = U) (hM : hiOf cap m = M) (h1 : L ≤ U) (h2 : U ≤ M) (h3 : M ≤ cap) :
    (Instr.sliceBounds true len cap (l.map fun p => .int p.1 p.2) (h.map fun p => .int p.1 p.2) (m.map fun p => .int p.1 p.2)).run P w = .ok (L, U, M) w := by
  cases m with
  | none =>
    have hMc : M = cap := by simp only [hiOf] at hM; omega
    subst hMc
    cases h with
    | none =>
      have hUc : U = len := by simp only [hiOf] at hU; omega
      subst hUc
      cases l with
      | none =>
        have : L = 0 := by simp only [loOf] at hL; omega
        subst this
        simp [Instr.sliceBounds]
      | some p =>
        obtain ⟨k, i⟩ := p
        simp only [loOf] at hL
        subst hL
        simp [Instr.sliceBounds, run_bound k L U _ h1]
    | some q =>
      obtain ⟨kq, iq⟩ := q
      simp only [hiOf] at hU
      subst hU
      cases l with
      | none =>
        have : L = 0 := by simp only [loOf] at hL; omega
        subst this
        simp [Instr.sliceBounds, run_bound kq U M _ h2]
      | some p =>
        obtain ⟨k, i⟩ := p
        simp only [loOf] at hL
        subst hL
        simp [Instr.sliceBounds, run_bound kq U M _ h2, run_bound k L U _ h1]
  | some r =>
    obtain ⟨kr, ir⟩ := r
    simp only [hiOf] at hM
    subst hM
    cases h with
    | none => exact absurd (hhm rfl) (by simp)
    | some q =>
      obtain ⟨kq, iq⟩ := q
      simp only [hiOf] at hU
      subst hU
      cases l with
      | none =>
        have : L = 0 := by simp only [loOf] at hL; omega
        subst this
        simp [Instr.sliceBounds, run_bound kr M cap _ h3, run_bound kq U M _ h2]
      | some p =>
        obtain ⟨k, i⟩ := p
        simp only [loOf] at hL
        subst hL
        simp [Instr.sliceBounds, run_bound kr M cap _ h3, run_bound kq U M _ h2, run_bound k L U _ h1]

theorem PO_vslice (L U M : Nat) {t e : TypeId} {x : Operand} {lo hi mx : Option Operand} {id n off len cap : Nat} {l h m : Option (IntKind × Int)} (ho : o.op = .slice t x lo hi mx) (ht : P.underlying t = some (.slice e)) (hs : szB P e = some 1) (hx : ρ x = .vw id n off len cap)
    (hl : boundP ρ lo = some l) (hh : boundP ρ hi = some h) (hmx : boundP ρ mx = some m) (hhm : h = none → m = none) (hL : loOf l = L) (hU : hiOf len h = U) (hM : hiOf cap m = M) (h1 : L ≤ U) (h2 : U ≤ M) (h3 : M ≤ cap) :
    PO P o ρ H (.vw id n (if M = L then off else off + L) (U - L) (M - L)) H :=
  PO_val fun c ρr hr hxx => by
    have e1 := hxx x (by simp [ho, Op.operands])
    rw [hx] at e1
    have el := boundP_ok (ρr := ρr) hl fun y hy => hxx y (by subst hy; simp [ho, Op.operands])
    have eh := boundP_ok (ρr := ρr) hh fun y hy => hxx y (by subst hy; simp [ho, Op.operands])
    have em := boundP_ok (ρr := ρr) hmx fun y hy => hxx y (by subst hy; simp [ho, Op.operands])
    generalize hv : ρr x = v at e1
    cases e1 with
    | vw _ _ _ _ _ g tk g1 g2 g3 g4 g5 =>
    have hrun : (execOp ρr o).run P c.w = .ok (.value (.slice (if M = L then some ⟨g, off, none⟩ else some (Addr.add ⟨g, off, none⟩ L)) (U - L) (M - L))) c.w := by
      have hb := run_bounds (P := P) (w := c.w) (len := len) (cap := cap) l h m hhm hL hU hM h1 h2 h3
      have := run_sliceAt_sl (w := c.w) ht hs ⟨g, off, none⟩ len cap _ _ _ L U M hb
      simp only [execOp, ho, hv, el, eh, em]
      simp [this]
    refine ⟨_, hrun, ?_⟩
    by_cases hc : M = L
    · rw [if_pos hc, if_pos hc]
      exact .vw id n off (U - L) (M - L) g tk g1 g2 (by omega) (by omega) fun e => ⟨(g5 e).1, (g5 e).2.1, (g5 e).2.2.1, by have := (g5 e).2.2.2; omega⟩
    · rw [if_neg hc, if_neg hc, add_eq _ _ rfl]
      exact .vw id n (off + L) (U - L) (M - L) g tk g1 g2 (by omega) (by omega) fun e => ⟨(g5 e).1, (g5 e).2.1, (g5 e).2.2.1, by have := (g5 e).2.2.2; omega⟩

theorem PO_vindex (i : Nat) {x y : Operand} {t e : TypeId} {id n off len cap : Nat} {k : IntKind} {z : Int} (ho : o.op = .indexAddr t x y) (ht : P.underlying t = some (.slice e)) (hs : szB P e = some 1) (hx' : ρ x = .vw id n off len cap) (hi : ρ y = .g (.int k z)) (hz : z = i) (hlt : i < len) :
    PO P o ρ H (.mref id n (off + i) 0) H :=
  PO_val fun c ρr hr hx => by
    have h1 := hx x (by simp [ho, Op.operands])
    have h2 := hx y (by simp [ho, Op.operands])
    rw [hx'] at h1
    rw [hi, hz] at h2
    have h2 := RV_int h2
    generalize hv : ρr x = v at h1
    cases h1 with
    | vw _ _ _ _ _ g tk g1 g2 g3 g4 g5 =>
    refine ⟨.pointer (some ((⟨g, off, none⟩ : Addr).add i)), ?_, .mref id n (off + i) 0 _ tk g1 g2 (add_spot _ _ rfl) (fun e => by obtain ⟨_, rfl, hs1, _⟩ := g5 e; rw [add_eq _ _ rfl, hs1]; simp)⟩
    have hidx : 0 ≤ (i : Int) ∧ (i : Int) < (len : Int) := by omega
    simp only [execOp, ho, hv, h2]
    simp [Instr.indexAt, asIntOf, run_underlying ht, hlt, run_sizeOf hs]

theorem PO_vlen {x : Operand} {t e : TypeId} {id n off len cap : Nat} (ho : o.op = .call { callee := .builtin .len, args := #[x], argTypes := #[t] }) (ht : P.underlying t = some (.slice e)) (hx' : ρ x = .vw id n off len cap) :
    PO P o ρ H (.g (.int .i64 len)) H :=
  PO_val fun c ρr hr hx => by
    have h1 := hx x (by simp [ho, Op.operands, Call.operands])
    rw [hx'] at h1
    obtain ⟨g, hv⟩ := vw_sl h1
    exact ⟨.int .i64 len, by simp [execOp, ho, resolve, invoke, builtin, hv, Builtin.len_, run_underlying ht, goInt], .g _ _ (.int _ _)⟩

theorem PO_vcap {x : Operand} {t e : TypeId} {id n off len cap : Nat} (ho : o.op = .call { callee := .builtin .cap, args := #[x], argTypes := #[t] }) (ht : P.underlying t = some (.slice e)) (hx' : ρ x = .vw id n off len cap) :
    PO P o ρ H (.g (.int .i64 cap)) H :=
  PO_val fun c ρr hr hx => by
    have h1 := hx x (by simp [ho, Op.operands, Call.operands])
    rw [hx'] at h1
    obtain ⟨g, hv⟩ := vw_sl h1
    exact ⟨.int .i64 cap, by simp [execOp, ho, resolve, invoke, builtin, hv, Builtin.cap_, run_underlying ht, goInt], .g _ _ (.int _ _)⟩

theorem PO_ncap {x : Operand} {t e : TypeId} (ho : o.op = .call { callee := .builtin .cap, args := #[x], argTypes := #[t] }) (ht : P.underlying t = some (.slice e)) (hx' : ρ x = .nils) : PO P o ρ H (.g (.int .i64 0)) H :=
  PO_val fun c ρr hr hx => by
    have h1 := hx x (by simp [ho, Op.operands, Call.operands])
    rw [hx'] at h1
    generalize hv : ρr x = v at h1
    cases h1
    exact ⟨.int .i64 0, by simp [execOp, ho, resolve, invoke, builtin, hv, Builtin.cap_, run_underlying ht, goInt], .g _ _ (.int _ _)⟩
theorem PO_nslice {t e size : TypeId} {x : Operand} {lo hi : Option Operand} {l h : Option (IntKind × Int)} (ho : o.op = .slice t x lo hi none) (ht : P.underlying t = some (.slice e)) (hs : szB P e = some size) (hx : ρ x = .nils) (hl : boundP ρ lo = some l) (hh : boundP ρ hi = some h) (hL : loOf l = 0) (hU : hiOf 0 h = 0) :
    PO P o ρ H .nils H :=
  PO_val fun c ρr hr hxx => by
    have e1 := hxx x (by simp [ho, Op.operands])
    rw [hx] at e1
    have el := boundP_ok (ρr := ρr) hl fun y hy => hxx y (by subst hy; simp [ho, Op.operands])
    have eh := boundP_ok (ρr := ρr) hh fun y hy => hxx y (by subst hy; simp [ho, Op.operands])
    generalize hv : ρr x = v at e1
    cases e1
    have hb := run_bounds (P := P) (w := c.w) (len := 0) (cap := 0) l h none (fun _ => rfl) (L := 0) (U := 0) (M := 0) hL hU rfl (Nat.le_refl _) (Nat.le_refl _) (Nat.le_refl _)
    refine ⟨.slice none 0 0, ?_, .nils⟩
    simp only [execOp, ho, hv, el, eh]
    simp only [Option.map_none] at hb ⊢
    simp [Instr.sliceAt, Instr.slice, run_underlying ht, hb, run_sizeOf hs]

def srcE (H : PH) : PV → Option (List GV)
  | .vw id n off len _ => match H.mu[id]? with
    | some (.arr n' _ es) => bif Nat.beq n' n && Nat.ble (off + len) es.length then some ((es.drop off).take len) else none
    | _ => none
  | p => elems p

theorem src_cells {c : Ctx} (hr : Rel P c H) {p : PV} {u : Value} {xs : List GV} (h : RV c p u) (hx : srcE H p = some xs) (h1 : ∀ id n off len cap, p = .vw id n off len cap → ∀ n' e es, H.mu[id]? = some (.arr n' e es) → szB P e = some 1) (hxs : ∀ x ∈ xs, x.cells = [x]) :
    (∃ b cp, u = .slice b xs.length cp) ∧ ∀ k, k ≤ xs.length → ∃ us : List Value, us.length = k ∧ (Builtin.firstCells 1 k u).run P c.w = .ok us.toArray c.w ∧ ∀ (j : Nat) (g : GV) (v : Value), (xs.take k)[j]? = some g → us[j]? = some v → RG c.w c.stab g v ∧ v.oneCell' = true := by
  have key : ∀ (a : Addr) (cap : Nat) (news : List Value), u = .slice (some a) xs.length cap → news.length = xs.length → (∀ j v, news[j]? = some v → c.w.cell? (a.add j) = some v) → (∀ v ∈ news, v.oneCell' = true) →
      (∀ (i : Nat) (x : GV) (v : Value), xs[i]? = some x → news[i]? = some v → RG c.w c.stab x v) →
      (∃ b cp, u = .slice b xs.length cp) ∧ ∀ k, k ≤ xs.length → ∃ us : List Value, us.length = k ∧ (Builtin.firstCells 1 k u).run P c.w = .ok us.toArray c.w ∧ ∀ (j : Nat) (g : GV) (v : Value), (xs.take k)[j]? = some g → us[j]? = some v → RG c.w c.stab g v ∧ v.oneCell' = true := by
    intro a cap news hu hn hcell hone hrg
    refine ⟨⟨_, _, hu⟩, fun k hk => ⟨news.take k, by simp; omega, ?_, fun j g v hj hv => ?_⟩⟩
    · rw [hu]
      exact run_firstCells_some c.w 1 k a xs.length cap (news.take k) (by simp; omega) fun j v hj => by
        rw [List.getElem?_take] at hj
        split at hj
        · exact hcell j v hj
        · cases hj
    · rw [List.getElem?_take] at hj hv
      split at hj
      · rename_i hlt
        rw [if_pos hlt] at hv
        exact ⟨hrg j g v hj hv, hone v (List.mem_of_getElem? hv)⟩
      · cases hj
  have gnd : elems p = some xs → (∃ b cp, u = .slice b xs.length cp) ∧ ∀ k, k ≤ xs.length → ∃ us : List Value, us.length = k ∧ (Builtin.firstCells 1 k u).run P c.w = .ok us.toArray c.w ∧ ∀ (j : Nat) (g : GV) (v : Value), (xs.take k)[j]? = some g → us[j]? = some v → RG c.w c.stab g v ∧ v.oneCell' = true := by
    intro he
    have hr1 := elems_ok h he
    by_cases hne : xs = []
    · subst hne
      obtain ⟨a, cap, hv, _⟩ := RG_len hr1
      refine ⟨⟨a, cap, hv⟩, fun k hk => ?_⟩
      have hk0 : k = 0 := by simpa using hk
      subst hk0
      refine ⟨[], rfl, ?_, by simp⟩
      rw [hv]
      cases a with
      | none => simp [Builtin.firstCells]
      | some a => exact run_firstCells_some c.w 1 0 a _ cap [] (by simp) (by simp)
    · obtain ⟨a, cap, news, hu, hn, hcell, hone, hrg⟩ := slice_cells hr1 (size := 1) (fun x hx => by rw [hxs x hx]; rfl) hne
      exact key a cap news hu (by omega) hcell hone fun i x v hi hv => hrg i x 0 x v hi (by rw [hxs x (List.mem_of_getElem? hi)]; rfl) (by simpa using hv)
  cases p with
  | vw id n off len cap =>
    simp only [srcE] at hx
    split at hx
    · rename_i n' e es hm
      cases hb : (Nat.beq n' n && Nat.ble (off + len) es.length) with
      | false => rw [hb] at hx; cases hx
      | true =>
        rw [hb, cond_true] at hx
        cases hx
        simp only [Bool.and_eq_true] at hb
        have hn' := Nat.eq_of_beq_eq_true hb.1
        have hle := Nat.le_of_ble_eq_true hb.2
        subst hn'
        have hs := h1 _ _ _ _ _ rfl _ _ _ hm
        obtain ⟨tk, g1, g2, g3, g4, hv, g5, g6, g7, g8, g9⟩ := vw_get hr h hm
        obtain ⟨a1, a2, a3, a4⟩ := hr.mu id tk _ g1 hm
        rcases a4 with ⟨lv', _⟩ | ⟨_, cur, b1, b2, b3, b4, b5, b6⟩
        · rw [g3] at lv'; cases lv'
        · rw [g4, Nat.mul_one] at b2
          have hlen : ((es.drop off).take len).length = len := by simp; omega
          have hget : ∀ (i : Nat) (x : GV), ((es.drop off).take len)[i]? = some x → es[off + i]? = some x ∧ i < len := by
            intro i x hi
            rw [List.getElem?_take] at hi
            split at hi
            · rename_i hlt; rw [List.getElem?_drop] at hi; exact ⟨hi, hlt⟩
            · cases hi
          have hnew : ∀ (j : Nat) (v : Value), ((cur.toList.drop off).take len)[j]? = some v → cur[off + j]? = some v ∧ j < len := by
            intro j v hj
            rw [List.getElem?_take] at hj
            split at hj
            · rename_i hlt; rw [List.getElem?_drop] at hj; exact ⟨by simpa using hj, hlt⟩
            · cases hj
          have hrg : ∀ (i : Nat) (x : GV) (v : Value), ((es.drop off).take len)[i]? = some x → ((cur.toList.drop off).take len)[i]? = some v → RG c.w c.stab x v ∧ v.oneCell' = true := by
            intro i x v hi hv
            have hm1 := List.mem_of_getElem? hi
            exact b6 (off + i) x 0 x v (hget i x hi).1 (by rw [hxs x hm1]; rfl) (by rw [g4, Nat.mul_one, Nat.add_zero]; exact (hnew i v hv).1)
          refine key ⟨tk.g, off, none⟩ cap ((cur.toList.drop off).take len) (by rw [hlen]; exact hv) (by rw [hlen]; simp; omega) (fun j v hj => ?_) (fun v hvm => ?_) (fun i x v hi hv => (hrg i x v hi hv).1)
          · rw [add_eq _ _ rfl, cell_of_row c.w tk.g _ cur e (0, 0) b1]
            exact (hnew j v hj).1
          · obtain ⟨j, hj⟩ := List.getElem?_of_mem hvm
            have hlt : j < ((es.drop off).take len).length := by rw [hlen]; exact (hnew j v hj).2
            exact (hrg j _ v (List.getElem?_eq_getElem hlt) hj).2
    · cases hx
  | _ => exact gnd hx

theorem run_lenOf_sl (w : World) (a : Option Addr) (n cap : Nat) : (Builtin.lenOf (.slice a n cap)).run P w = .ok n w := by simp [Builtin.lenOf]

theorem PO_vcopy {x y : Operand} {t u e e' : TypeId} {id n off len cap : Nat} {es ys : List GV} (ho : o.op = .call { callee := .builtin .copy, args := ⟨[x, y]⟩, argTypes := ⟨[t, u]⟩ }) (ht : P.underlying t = some (.slice e)) (hs : szB P e = some 1) (hs' : szB P e' = some 1) (hx' : ρ x = .vw id n off len cap)
    (hm : H.mu[id]? = some (.arr n e' es)) (hy : srcE H (ρ y) = some ys) (hy1 : ∀ id n off len cap, ρ y = .vw id n off len cap → ∀ n' e es, H.mu[id]? = some (.arr n' e es) → szB P e = some 1) (hys : ∀ x ∈ ys, x.cells = [x]) (hfit : off + len ≤ es.length) :
    PO P o ρ H (.g (.int .i64 (min ys.length len))) ⟨H.bx, H.tk, H.mu.set id (.arr n e' (putAt es off (ys.take len)))⟩ := by
  intro c ρr hr hx
  have h1 := hx x (by simp [ho, Op.operands, Call.operands])
  have h2 := hx y (by simp [ho, Op.operands, Call.operands])
  rw [hx'] at h1
  obtain ⟨tk, g1, g2, g3, g4, hv, g5, g6, g7, g8, g9⟩ := vw_get hr h1 hm
  obtain ⟨⟨yb, yc, hyv⟩, hsrc⟩ := src_cells hr h2 hy hy1 hys
  obtain ⟨us, ul, urun, urg⟩ := hsrc (min ys.length len) (Nat.min_le_left _ _)
  have htake : ys.take (min ys.length len) = ys.take len := by
    rcases Nat.le_total ys.length len with h | h
    · rw [Nat.min_eq_left h, List.take_of_length_le (Nat.le_refl _), List.take_of_length_le h]
    · rw [Nat.min_eq_right h]
  rw [htake] at urg
  have hgl : (ys.take len).length = min ys.length len := by simp [Nat.min_comm]
  have hmin : Nat.min ys.length len = min ys.length len := rfl
  obtain ⟨cur, c1, c2, c3, c', w', r1, r2⟩ := hr.writeArr g1 hm hs' g3 (us := us) (gs := ys.take len) (off := off) (by rw [ul, hgl]) (by rw [hgl]; have := Nat.min_le_right ys.length len; omega) urg
  have hone : ∀ v ∈ us, v.oneCell' = true := by
    intro v hvm
    obtain ⟨j, hj⟩ := List.getElem?_of_mem hvm
    have hlt : j < (ys.take len).length := by rw [hgl, ← ul]; exact (List.getElem?_eq_some_iff.1 hj).1
    exact (urg j _ v (List.getElem?_eq_getElem hlt) hj).2
  have hst := run_storeCells_at P tk.g off e' us 0 cur c.w c1 (by omega) hone
  simp only [Nat.add_zero] at hst
  have hrun : (execOp ρr o).run P c.w = .ok (.value (.int .i64 (min ys.length len))) c'.w := by
    rw [w']
    rw [hyv] at urun
    simp [execOp, ho, resolve, invoke, builtin, hv, hyv, Builtin.copy_, run_underlying ht, run_sizeOf hs, run_lenOf_sl, hmin, urun, hst, goInt]
    omega
  unfold OpGoes
  rw [hrun]
  exact ⟨c', rfl, r1, r2, .g _ _ (.int _ _)⟩

theorem PO_vclear {x : Operand} {t e e' : TypeId} {id n off len cap : Nat} {es : List GV} {z : Value} (ho : o.op = .call { callee := .builtin .clear, args := ⟨[x]⟩, argTypes := ⟨[t]⟩ }) (ht : P.underlying t = some (.slice e)) (hz : zeroB P e = some z) (hz1 : z.oneCell' = true) (hs' : szB P e' = some 1) (hx' : ρ x = .vw id n off len cap)
    (hm : H.mu[id]? = some (.arr n e' es)) (hfit : off + len ≤ es.length) :
    PO P o ρ H (.tuple []) ⟨H.bx, H.tk, H.mu.set id (.arr n e' (putAt es off (List.replicate len (constG z))))⟩ := by
  intro c ρr hr hx
  have h1 := hx x (by simp [ho, Op.operands, Call.operands])
  rw [hx'] at h1
  obtain ⟨tk, g1, g2, g3, g4, hv, g5, g6, g7, g8, g9⟩ := vw_get hr h1 hm
  obtain ⟨cur, c1, c2, c3, c', w', r1, r2⟩ := hr.writeArr g1 hm hs' g3 (us := List.replicate len z) (gs := List.replicate len (constG z)) (off := off) (by simp) (by simpa using hfit) (fun j g v hj hv => by
    rw [List.getElem?_replicate] at hj hv
    split at hj
    · rename_i hlt
      rw [if_pos hlt] at hv
      cases hj; cases hv
      exact ⟨constG_ok _ _ z, hz1⟩
    · cases hj)
  have hst := run_storeCells_at P tk.g off e' (List.replicate len z) 0 cur c.w c1 (by simpa using c2) (fun v hvm => by rw [(List.mem_replicate.1 hvm).2]; exact hz1)
  simp only [Nat.add_zero] at hst
  have hrun : (execOp ρr o).run P c.w = .ok (.value (.tuple #[])) c'.w := by
    rw [w']
    cases len with
    | zero =>
      have : c.w.setRow tk.g (cur.toList.take off ++ List.replicate 0 z ++ cur.toList.drop (off + (List.replicate 0 z).length)).toArray = c.w := by
        simp only [List.replicate_zero, List.append_nil, List.length_nil, Nat.add_zero, List.take_append_drop, Array.toArray_toList]
        exact setRow_self c.w tk.g cur e' (0, 0) c1
      rw [this]
      simp [execOp, ho, resolve, invoke, builtin, hv, Builtin.clear_, run_underlying ht]
    | succ k =>
      have hcl : (Builtin.zeroCells z.cells (k + 1)).toList = List.replicate (k + 1) z := by
        rw [cells_one hz1]
        simp [Builtin.zeroCells, ← toList_madeCells_one, madeCells]
      simp [execOp, ho, resolve, invoke, builtin, hv, Builtin.clear_, run_underlying ht, run_zero hz, hcl, hst]
  unfold OpGoes
  rw [hrun]
  exact ⟨c', rfl, r1, r2, .tuple [] #[] rfl (by simp)⟩

def nilPB : PV → Option Bool
  | .nilp => some true
  | .ptr _ _ => some false
  | .mref _ _ _ _ => some false
  | .pat _ => some false
  | _ => none
theorem nilPB_ok {c : Ctx} {p : PV} {v : Value} {r : Bool} (h : RV c p v) (hr : nilPB p = some r) : ∃ a : Option Addr, v = .pointer a ∧ a.isNone = r := by
  cases p <;> simp only [nilPB] at hr <;> first | (cases hr; done) | (cases hr; cases h; exact ⟨_, rfl, rfl⟩)

theorem run_eql_ptr_nil {w : World} {tp te : Nat} (hp : P.underlying tp = some (.pointer te)) (a : Option Addr) : (binOp .eql tp (.pointer a) (.pointer none)).run P w = .ok (.bool a.isNone) w := by
  have h : ∀ d : Nat, (Op.equalIn (d + 1) tp (.pointer a) (.pointer none)).run P w = .ok a.isNone w := fun d => by
    cases a <;> simp [Op.equalIn, run_underlying hp]
  simp only [binOp]
  simp [Op.equal, Op.maxDepth, h 9999]
theorem run_neq_ptr_nil {w : World} {tp te : Nat} (hp : P.underlying tp = some (.pointer te)) (a : Option Addr) : (binOp .neq tp (.pointer a) (.pointer none)).run P w = .ok (.bool (!a.isNone)) w := by
  have h : ∀ d : Nat, (Op.equalIn (d + 1) tp (.pointer a) (.pointer none)).run P w = .ok a.isNone w := fun d => by
    cases a <;> simp [Op.equalIn, run_underlying hp]
  simp only [binOp]
  simp [Op.equal, Op.maxDepth, h 9999]

theorem PO_pnil {x y : Operand} {t u T : Nat} {r : Bool} (ho : o.op = .binOp .eql t x y u) (ht : P.underlying t = some (.pointer T)) (hx' : nilPB (ρ x) = some r) (hy' : ρ y = .nilp) : PO P o ρ H (.g (.bool r)) H :=
  PO_val fun c ρr hr hx => by
    obtain ⟨a, h1, h3⟩ := nilPB_ok (hx x (by simp [ho, Op.operands])) hx'
    have h2 := hx y (by simp [ho, Op.operands])
    rw [hy'] at h2
    generalize hv2 : ρr y = v2 at h2
    cases h2
    subst h3
    exact ⟨.bool a.isNone, by simp only [execOp, ho, h1, hv2]; simp [eqGuard, run_eql_ptr_nil ht], .g _ _ (.bool _)⟩
theorem PO_pnnil {x y : Operand} {t u T : Nat} {r : Bool} (ho : o.op = .binOp .neq t x y u) (ht : P.underlying t = some (.pointer T)) (hx' : nilPB (ρ x) = some r) (hy' : ρ y = .nilp) : PO P o ρ H (.g (.bool (!r))) H :=
  PO_val fun c ρr hr hx => by
    obtain ⟨a, h1, h3⟩ := nilPB_ok (hx x (by simp [ho, Op.operands])) hx'
    have h2 := hx y (by simp [ho, Op.operands])
    rw [hy'] at h2
    generalize hv2 : ρr y = v2 at h2
    cases h2
    subst h3
    exact ⟨.bool (!a.isNone), by simp only [execOp, ho, h1, hv2]; simp [eqGuard, run_neq_ptr_nil ht], .g _ _ (.bool _)⟩

theorem run_neq_ptr_same {w : World} {tp te : Nat} {j : TypeInfo} (a : Addr) (hp : P.underlying tp = some (.pointer te)) (hte : P.info? te = some j) :
    (binOp .neq tp (.pointer (some a)) (.pointer (some a))).run P w = .ok (.bool false) w := by
  have h : ∀ d : Nat, (Op.equalIn (d + 1) tp (.pointer (some a)) (.pointer (some a))).run P w = .ok true w := fun d => by
    simp [Op.equalIn, run_underlying hp, sizeOf, typeInfo, hte, run_sameAddr_same]
  simp only [binOp]
  simp [Op.equal, Op.maxDepth, h 9999]
theorem run_neq_ptr_other {w : World} {tp te : Nat} {j : TypeInfo} {a b : Addr} {ca cb : Array Value} {ta tb : TypeId} (hp : P.underlying tp = some (.pointer te)) (hte : P.info? te = some j) (hsz : j.size ≠ 0)
    (hne : a ≠ b) (ha : w.heap[a.block]? = some (.cells ca ta (0, 0))) (hb : w.heap[b.block]? = some (.cells cb tb (0, 0))) :
    (binOp .neq tp (.pointer (some a)) (.pointer (some b))).run P w = .ok (.bool true) w := by
  have h : ∀ d : Nat, (Op.equalIn (d + 1) tp (.pointer (some a)) (.pointer (some b))).run P w = .ok false w := fun d => by
    simp [Op.equalIn, run_underlying hp, sizeOf, typeInfo, hte, hsz, run_sameAddr_other w hne ha hb]
  simp only [binOp]
  simp [Op.equal, Op.maxDepth, h 9999]

theorem run_cmp_ptr {w : World} {tp te k : Nat} {a b : Addr} {ca cb : Array Value} {ta tb : TypeId} {op : BinOp} {r : Bool} (hp : P.underlying tp = some (.pointer te)) (hs : szB P te = some (k + 1)) (hop : op = .eql ∨ op = .neq) (hr : decide (a = b) = r)
    (ha : w.heap[a.block]? = some (.cells ca ta (0, 0))) (hb : w.heap[b.block]? = some (.cells cb tb (0, 0))) :
    (binOp op tp (.pointer (some a)) (.pointer (some b))).run P w = .ok (.bool (if op = .eql then r else !r)) w := by
  obtain ⟨j, hj, hsz⟩ : ∃ j, P.info? te = some j ∧ j.size = k + 1 := by
    unfold szB at hs
    cases hu : P.info? te with
    | none => rw [hu] at hs; cases hs
    | some i => rw [hu] at hs; exact ⟨i, rfl, by simpa using hs⟩
  subst hr
  by_cases he : a = b
  · subst he
    rcases hop with rfl | rfl
    · simpa using run_eql_ptr_same w a hp hj
    · simpa using run_neq_ptr_same (w := w) a hp hj
  · rcases hop with rfl | rfl
    · simpa [he] using run_eql_ptr_other w hp hj (by omega) he ha hb
    · simpa [he] using run_neq_ptr_other (w := w) hp hj (by omega) he ha hb

theorem PO_pcmp {x y : Operand} {t u T k : Nat} {op : BinOp} {b1 o1 b2 o2 : Nat} {cs1 cs2 : List PV} (ho : o.op = .binOp op t x y u) (ht : P.underlying t = some (.pointer T)) (hs : szB P T = some (k + 1)) (hop : op = .eql ∨ op = .neq) (hx' : ρ x = .ptr b1 o1) (hy' : ρ y = .ptr b2 o2)
    (hb1 : H.bx[b1]? = some cs1) (hb2 : H.bx[b2]? = some cs2) : PO P o ρ H (.g (.bool (if op = .eql then (Nat.beq b1 b2 && Nat.beq o1 o2) else !(Nat.beq b1 b2 && Nat.beq o1 o2)))) H :=
  PO_val fun c ρr hr hx => by
    have h1 := hx x (by simp [ho, Op.operands])
    have h2 := hx y (by simp [ho, Op.operands])
    rw [hx'] at h1
    rw [hy'] at h2
    generalize hv1 : ρr x = v1 at h1
    generalize hv2 : ρr y = v2 at h2
    cases h1 with
    | ptr _ _ blk1 e1 =>
    cases h2 with
    | ptr _ _ blk2 e2 =>
    obtain ⟨vals1, T1, f1, _⟩ := hr.bx b1 blk1 cs1 e1 hb1
    obtain ⟨vals2, T2, f2, _⟩ := hr.bx b2 blk2 cs2 e2 hb2
    have hcmp : decide ((⟨blk1, o1, none⟩ : Addr) = ⟨blk2, o2, none⟩) = (Nat.beq b1 b2 && Nat.beq o1 o2) := by
      by_cases hid : b1 = b2
      · subst hid
        rw [e1] at e2
        cases e2
        rw [Nat.beq_refl, Bool.true_and]
        by_cases hk : o1 = o2
        · rw [hk, Nat.beq_refl]; simp
        · rw [Bool.eq_false_iff.2 fun h => hk (Nat.eq_of_beq_eq_true h)]; simp [hk]
      · have hg : blk1 ≠ blk2 := fun h => hid (by
          subst h
          exact (List.getElem?_inj (List.getElem?_eq_some_iff.1 e1).1 hr.nd).1 (e1.trans e2.symm))
        rw [Bool.eq_false_iff.2 fun h => hid (Nat.eq_of_beq_eq_true h), Bool.false_and]
        simp [hg]
    refine ⟨_, ?_, .g _ _ (.bool _)⟩
    simp only [execOp, ho, hv1, hv2]
    have := run_cmp_ptr ht hs hop hcmp f1 f2
    rcases hop with rfl | rfl <;> simp [eqGuard, this]

theorem PO_mcmp {x y : Operand} {t u T k : Nat} {op : BinOp} {id n i off id2 n2 i2 off2 e e2 : Nat} {es es2 : List GV} (ho : o.op = .binOp op t x y u) (ht : P.underlying t = some (.pointer T)) (hsT : szB P T = some (k + 1)) (hop : op = .eql ∨ op = .neq) (hx' : ρ x = .mref id n i off) (hy' : ρ y = .mref id2 n2 i2 off2)
    (hm : H.mu[id]? = some (.arr n e es)) (hm2 : H.mu[id2]? = some (.arr n2 e2 es2)) (hs : szB P e = some 1) (hs2 : szB P e2 = some 1) (hne : es ≠ []) (hne2 : es2 ≠ []) :
    PO P o ρ H (.g (.bool (if op = .eql then (Nat.beq id id2 && Nat.beq (i + off) (i2 + off2)) else !(Nat.beq id id2 && Nat.beq (i + off) (i2 + off2))))) H :=
  PO_val fun c ρr hr hx => by
    have h1 := hx x (by simp [ho, Op.operands])
    have h2 := hx y (by simp [ho, Op.operands])
    rw [hx'] at h1
    rw [hy'] at h2
    generalize hv1 : ρr x = v1 at h1
    generalize hv2 : ρr y = v2 at h2
    cases h1 with
    | mref _ _ _ _ a t1 ht1 hn1 hs1 hv1' =>
    cases h2 with
    | mref _ _ _ _ b t2 ht2 hn2 hs2' hv2' =>
    obtain ⟨a1, a2, a3, a4⟩ := hr.mu id t1 _ ht1 hm
    obtain ⟨b1, b2, b3, b4⟩ := hr.mu id2 t2 _ ht2 hm2
    have z1 := sz_one a3 hs
    have z2 := sz_one b3 hs2
    obtain ⟨l1, cur1, c1, _⟩ := a4.resolve_left fun h => hne h.2
    obtain ⟨l2, cur2, c2, _⟩ := b4.resolve_left fun h => hne2 h.2
    have ea := hv1' a1.symm
    have eb := hv2' b1.symm
    rw [z1, Nat.mul_one] at ea
    rw [z2, Nat.mul_one] at eb
    subst ea; subst eb
    have hcmp : decide ((⟨t1.g, i + off, none⟩ : Addr) = ⟨t2.g, i2 + off2, none⟩) = (Nat.beq id id2 && Nat.beq (i + off) (i2 + off2)) := by
      by_cases hid : id = id2
      · subst hid
        rw [ht1] at ht2
        cases ht2
        rw [Nat.beq_refl, Bool.true_and]
        by_cases hk : i + off = i2 + off2
        · rw [hk, Nat.beq_refl]; simp
        · rw [Bool.eq_false_iff.2 fun h => hk (Nat.eq_of_beq_eq_true h)]; simp [hk]
      · have hg : t1.g ≠ t2.g := fun h => hid (hr.md id id2 t1 t2 ht1 ht2 l1 l2 h)
        rw [Bool.eq_false_iff.2 fun h => hid (Nat.eq_of_beq_eq_true h), Bool.false_and]
        simp [hg]
    refine ⟨_, ?_, .g _ _ (.bool _)⟩
    simp only [execOp, ho, hv1, hv2]
    have := run_cmp_ptr ht hsT hop hcmp c1 c2
    rcases hop with rfl | rfl <;> simp [eqGuard, this]
end
end Go.Pure


/- A generic layer: package-level variables that are read; an array's place is taken by another one. -/
namespace Go.Pure
open Go

def lkG : List (Nat × List Value) → Nat → Nat → Option Value
  | [], _, _ => none
  | (b, vs) :: r, g, off => bif Nat.beq b g then vs[off]? else lkG r g off
theorem lkG_mem : ∀ {l : List (Nat × List Value)} {g off : Nat} {v : Value}, lkG l g off = some v → ∃ vs, (g, vs) ∈ l ∧ vs[off]? = some v
  | [], _, _, _, h => by cases h
  | (b, vs) :: r, g, off, v, h => by
    unfold lkG at h
    cases hb : Nat.beq b g with
    | true =>
      rw [hb, cond_true] at h
      have := Nat.eq_of_beq_eq_true hb
      subst this
      exact ⟨vs, List.mem_cons_self, h⟩
    | false =>
      rw [hb, cond_false] at h
      obtain ⟨vs', h1, h2⟩ := lkG_mem h
      exact ⟨vs', List.mem_cons_of_mem _ h1, h2⟩

section
variable {P : Program} {o : Oper} {ρ : Operand → PV} {H : PH}
theorem PO_loadg {t : TypeId} {x : Operand} {g off : Nat} {v : Value} (ho : o.op = .load t x) (h1 : aggB P t = some false) (hx' : ρ x = .glob g off) (hv : (fun β => lkG (gfacts β) g off) = fun _ => some v) : PO P o ρ H (.g (constG v)) H :=
  PO_val fun c ρr hr hx => by
    have hx1 := hx x (by simp [ho, Op.operands])
    rw [hx'] at hx1
    generalize hrx : ρr x = u at hx1
    cases hx1
    obtain ⟨⟨β, _, gl⟩, _⟩ := hr.gl
    obtain ⟨vs, hm, hvs⟩ := lkG_mem (congrFun hv β)
    have hc := (gl _ hm off v hvs).1
    exact ⟨v, by simp only [execOp, ho, hrx, Instr.loadAt, Instr.sureAddr]; simp [run_loadVar_one h1 _ _ hc], .g _ _ (constG_ok _ _ v)⟩
end

mutual
def mov (id2 n2 id n : Nat) : PV → PV
  | .vw id' n' off len cap => bif Nat.beq id' id2 && Nat.beq n' n2 then .vw id n off len cap else .vw id' n' off len cap
  | .clo f a b => .clo f (movL id2 n2 id n a) (movL id2 n2 id n b)
  | .agg cs => .agg (movL id2 n2 id n cs)
  | .tuple cs => .tuple (movL id2 n2 id n cs)
  | .mar id' n' => .mar id' n'
  | .g x => .g x
  | .own es' id' => .own es' id'
  | .ptr b off => .ptr b off
  | .nilp => .nilp
  | .nils => .nils
  | .pat cs => .pat cs
  | .lit es' => .lit es'
  | .mref a b c d => .mref a b c d
  | .mp a => .mp a
  | .glob g off => .glob g off
  | .kv g off => .kv g off
  | .ifc t p => .ifc t (mov id2 n2 id n p)
  | .any => .any
def movL (id2 n2 id n : Nat) : List PV → List PV
  | [] => []
  | p :: r => mov id2 n2 id n p :: movL id2 n2 id n r
end
theorem movL_eq (id2 n2 id n : Nat) : ∀ l, movL id2 n2 id n l = l.map (mov id2 n2 id n)
  | [] => by simp [movL]
  | p :: r => by simp [movL, movL_eq id2 n2 id n r]
def movB (id2 n2 id n : Nat) : List (List PV) → List (List PV)
  | [] => []
  | l :: r => movL id2 n2 id n l :: movB id2 n2 id n r
theorem movB_eq (id2 n2 id n : Nat) : ∀ l, movB id2 n2 id n l = l.map (·.map (mov id2 n2 id n))
  | [] => rfl
  | p :: r => by simp [movB, movL_eq, movB_eq id2 n2 id n r]

theorem RV_mov {c c' : Ctx} (hE : EvoL c c') {id2 n2 id n : Nat} (hread : ∀ off len cap v, RV c (.vw id2 n2 off len cap) v → RV c' (.vw id n off len cap) v) {p : PV} {v : Value} (h : RV c p v) : RV c' (mov id2 n2 id n p) v := by
  induction h with
  | vw id' n' off len cap g t ht hn h1 h2 hv =>
    simp only [mov]
    cases hb : (Nat.beq id' id2 && Nat.beq n' n2) with
    | true =>
      rw [cond_true]
      simp only [Bool.and_eq_true] at hb
      have e1 := Nat.eq_of_beq_eq_true hb.1
      have e2 := Nat.eq_of_beq_eq_true hb.2
      subst e1; subst e2
      exact hread off len cap _ (.vw _ _ off len cap g t ht hn h1 h2 hv)
    | false => rw [cond_false]; exact (RV.vw id' n' off len cap g t ht hn h1 h2 hv).light hE
  | mar id' n' v t ht hn h1 hv => simp only [mov]; exact (RV.mar id' n' v t ht hn h1 hv).light hE
  | g x v h => simp only [mov]; exact (RV.g x v h).light hE
  | own es id v t h ht hs hl hv => simp only [mov]; exact (RV.own es id v t h ht hs hl hv).light hE
  | ptr b off blk h => simp only [mov]; exact (RV.ptr b off blk h).light hE
  | nilp => simp only [mov]; exact .nilp
  | nils => simp only [mov]; exact .nils
  | pat cs a f ha hf h => simp only [mov]; exact (RV.pat cs a f ha hf h).light hE
  | clo fn ps qs us vs hp hq _ _ h1 h2 =>
    simp only [mov, movL_eq]
    refine .clo fn _ _ us vs (by simpa using hp) (by simpa using hq) (fun i p v hp' hv => ?_) (fun i p v hp' hv => ?_)
    · simp only [List.getElem?_map, Option.map_eq_some_iff] at hp'
      obtain ⟨q, hq', rfl⟩ := hp'
      exact h1 i q v hq' hv
    · simp only [List.getElem?_map, Option.map_eq_some_iff] at hp'
      obtain ⟨q, hq', rfl⟩ := hp'
      exact h2 i q v hq' hv
  | agg cs vs hl h1 _ ih =>
    simp only [mov, movL_eq]
    refine .agg _ vs (by simpa using hl) h1 fun i p v hp' hv => ?_
    simp only [List.getElem?_map, Option.map_eq_some_iff] at hp'
    obtain ⟨q, hq', rfl⟩ := hp'
    exact ih i q v hq' hv
  | tuple cs vs hl _ ih =>
    simp only [mov, movL_eq]
    refine .tuple _ vs (by simpa using hl) fun i p v hp' hv => ?_
    simp only [List.getElem?_map, Option.map_eq_some_iff] at hp'
    obtain ⟨q, hq', rfl⟩ := hp'
    exact ih i q v hq' hv
  | lit es a h => simp only [mov]; exact (RV.lit es a h).light hE
  | mref id n i off a t ht hn h1 hv => simp only [mov]; exact (RV.mref id n i off a t ht hn h1 hv).light hE
  | mp id v t ht h1 hv => simp only [mov]; exact (RV.mp id v t ht h1 hv).light hE
  | glob g off => simp only [mov]; exact .glob g off
  | kv g off v h hs h1 => simp only [mov]; exact (RV.kv g off v h hs h1).light hE
  | ifc t p v _ ih => simp only [mov]; exact .ifc t _ v ih
  | any v => simp only [mov]; exact .any v

theorem Rel.move {P : Program} {c : Ctx} {H : PH} (hr : Rel P c H) {id id2 n n2 e e2 : Nat} {es es2 : List GV} (hne : id ≠ id2) (hm : H.mu[id]? = some (.arr n e es)) (hm2 : H.mu[id2]? = some (.arr n2 e2 es2)) (hs : szB P e = some 1) (hs2 : szB P e2 = some 1) :
    ∃ c', c'.w = c.w ∧ c'.hid = c.hid ∧ Rel P c' ⟨movB id2 n2 id (n + 1) H.bx, H.tk, (H.mu.set id2 (.gone (n2 + 1))).set id (.arr (n + 1) e2 es2)⟩ ∧ Evo c c' ∧ ∀ p v, RV c p v → RV c' (mov id2 n2 id (n + 1) p) v := by
  have hid : id < c.μ.length := by rw [hr.mlen]; exact (List.getElem?_eq_some_iff.1 hm).1
  have hid2 : id2 < c.μ.length := by rw [hr.mlen]; exact (List.getElem?_eq_some_iff.1 hm2).1
  have ht := List.getElem?_eq_getElem hid
  have ht2 := List.getElem?_eq_getElem hid2
  generalize c.μ[id] = t at ht
  generalize c.μ[id2] = t2 at ht2
  have hmk := hr.mu id t _ ht hm
  have hmk2 := hr.mu id2 t2 _ ht2 hm2
  obtain ⟨a1, a2, a3, a4⟩ := hmk
  obtain ⟨b1, b2, b3, b4⟩ := hmk2
  have s1 := sz_one a3 hs
  have s2 := sz_one b3 hs2
  -- the array at id2 is given up first: its block is nobody's for a moment
  obtain ⟨r1, r2⟩ := hr.setMu ht2 (t' := { t2 with live := false, gen := n2 + 1 }) (o' := .gone (n2 + 1)) rfl (.inr (by dsimp only; omega)) (w' := c.w) rfl ⟨rfl, fun _ => by first | exact Nat.le_refl _ | exact Nat.le_succ _⟩ rfl (Nat.le_refl _) (fun _ _ _ => rfl) (fun h => by cases h) (fun _ => ⟨rfl, rfl⟩)
  generalize hμ : (c.μ.set id2 { t2 with live := false, gen := n2 + 1 }).set id { t2 with gen := n + 1 } = μ'
  have g0 : μ'[id]? = some { t2 with gen := n + 1 } := by rw [← hμ, List.getElem?_set_self (by simpa using hid)]
  have g2 : μ'[id2]? = some { t2 with live := false, gen := n2 + 1 } := by rw [← hμ, List.getElem?_set_ne hne, List.getElem?_set_self hid2]
  have gk : ∀ k, k ≠ id → k ≠ id2 → μ'[k]? = c.μ[k]? := fun k h1 h2 => by rw [← hμ, List.getElem?_set_ne (Ne.symm h1), List.getElem?_set_ne (Ne.symm h2)]
  have mem' : ∀ x ∈ μ', x.live = true → ∃ y ∈ c.μ, y.live = true ∧ y.g = x.g := by
    intro x hx lv
    obtain ⟨k, hk⟩ := List.getElem?_of_mem hx
    by_cases h1 : k = id
    · subst h1; rw [g0] at hk; cases hk; exact ⟨t2, List.mem_of_getElem? ht2, lv, rfl⟩
    · by_cases h2 : k = id2
      · subst h2; rw [g2] at hk; cases hk; cases lv
      · rw [gk k h1 h2] at hk; exact ⟨x, List.mem_of_getElem? hk, lv, rfl⟩
  have hstab : ∀ b p, c.stab b p → Ctx.stab ⟨c.σ, c.τ, μ', c.hid, c.w⟩ b p := fun b p h => ⟨h.1, h.2.1, h.2.2.1, fun x hx lv e => by
    obtain ⟨y, hy, lv', e'⟩ := mem' x hx lv
    exact h.2.2.2 y hy lv' (e'.trans e)⟩
  have hk : Keeps c.w c.w c.stab (Ctx.stab ⟨c.σ, c.τ, μ', c.hid, c.w⟩) := fun a v _ hs hc => ⟨hc, hstab _ _ hs⟩
  have hE : Evo c ⟨c.σ, c.τ, μ', c.hid, c.w⟩ := by
    refine ⟨rfl, ⟨rfl, fun _ => Nat.le_refl _⟩, rfl, Nat.le_refl _, rfl, ⟨[], by simp⟩, fun _ t h => ⟨t, h, rfl, rfl, .inl rfl⟩, ?_, fun x hx lv => .inl (mem' x hx lv), fun t h lv => .inl ⟨t, h, lv, rfl⟩, hk, fun _ _ _ _ _ => rfl⟩
    intro k x hx
    by_cases h1 : k = id
    · subst h1
      rw [ht] at hx; cases hx
      exact ⟨_, g0, by rw [s1]; exact s2, .inr (by dsimp only; omega)⟩
    · by_cases h2 : k = id2
      · subst h2
        rw [ht2] at hx; cases hx
        exact ⟨_, g2, rfl, .inr (by dsimp only; omega)⟩
      · exact ⟨x, by rw [gk k h1 h2]; exact hx, rfl, .inl rfl⟩
  have hread : ∀ off len cap v, RV c (.vw id2 n2 off len cap) v → RV ⟨c.σ, c.τ, μ', c.hid, c.w⟩ (.vw id (n + 1) off len cap) v := by
    intro off len cap v hv
    cases hv with
    | vw _ _ _ _ _ g t3 ht3 hn h1 h2 hv =>
      rw [ht2] at ht3; cases ht3
      exact .vw id (n + 1) off len cap g _ g0 (Nat.le_refl _) h1 h2 fun _ => hv b1.symm
  refine ⟨⟨c.σ, c.τ, μ', c.hid, c.w⟩, rfl, rfl, ?_, hE, fun p v h => RV_mov hE.light hread h⟩
  refine { len := by rw [movB_eq]; simpa using hr.len, bx := ?_, tk := hr.tk, tb := hr.tb, nd := hr.nd, td := hr.td, st := hr.st, hidlt := hr.hidlt, thid := hr.thid, shid := hr.shid, dead := hr.dead, mlen := ?_, mu := ?_, mlt := ?_, md := ?_, ms := ?_, mt := ?_, mhid := ?_, gl := hr.gl.keep hk }
  · intro i b cs hb hcs
    rw [movB_eq] at hcs
    simp only [List.getElem?_map, Option.map_eq_some_iff] at hcs
    obtain ⟨ds, hds, rfl⟩ := hcs
    obtain ⟨vals, T, e1, e2, e3⟩ := hr.bx i b ds hb hds
    refine ⟨vals, T, e1, by simpa using e2, fun j p v hp hv => ?_⟩
    simp only [List.getElem?_map, Option.map_eq_some_iff] at hp
    obtain ⟨q, hq, rfl⟩ := hp
    exact ⟨RV_mov hE.light hread (e3 j q v hq hv).1, (e3 j q v hq hv).2⟩
  · show μ'.length = _
    rw [← hμ]; simpa using hr.mlen
  · intro i x o hx ho
    replace hx : μ'[i]? = some x := hx
    by_cases h1 : i = id
    · subst h1
      rw [g0] at hx; cases hx
      rw [List.getElem?_set_self (by simpa using (List.getElem?_eq_some_iff.1 hm).1)] at ho
      cases ho
      refine ⟨rfl, b2, b3, b4.imp (fun h => h) ?_⟩
      rintro ⟨lv, cur, c1, c2, c3, c4, c5, c6⟩
      exact ⟨lv, cur, c1, c2, c3, c4, c5, fun i x j g v hx hg hv => ⟨(c6 i x j g v hx hg hv).1.mono hk, (c6 i x j g v hx hg hv).2⟩⟩
    · rw [List.getElem?_set_ne (Ne.symm h1)] at ho
      by_cases h2 : i = id2
      · subst h2
        rw [g2] at hx; cases hx
        rw [List.getElem?_set_self (List.getElem?_eq_some_iff.1 hm2).1] at ho
        cases ho
        exact ⟨rfl, rfl⟩
      · rw [List.getElem?_set_ne (Ne.symm h2)] at ho
        rw [gk i h1 h2] at hx
        exact MOk.mono hE (fun _ => rfl) (hr.mu i x o hx ho)
  · intro x hx lv
    obtain ⟨y, hy, lv', e⟩ := mem' x hx lv
    exact e ▸ hr.mlt y hy lv'
  · intro i j x y hx hy lx ly e
    have key : ∀ (k : Nat) (z : MTok), μ'[k]? = some z → z.live = true → ∃ k' z', c.μ[k']? = some z' ∧ z'.live = true ∧ z'.g = z.g ∧ ((k = id ∧ k' = id2) ∨ (k ≠ id ∧ k ≠ id2 ∧ k' = k)) := by
      intro k z hz lz
      by_cases h1 : k = id
      · subst h1; rw [g0] at hz; cases hz; exact ⟨id2, t2, ht2, lz, rfl, .inl ⟨rfl, rfl⟩⟩
      · by_cases h2 : k = id2
        · subst h2; rw [g2] at hz; cases hz; cases lz
        · rw [gk k h1 h2] at hz; exact ⟨k, z, hz, lz, rfl, .inr ⟨h1, h2, rfl⟩⟩
    obtain ⟨i', x', hx', lx', ex, di⟩ := key i x hx lx
    obtain ⟨j', y', hy', ly', ey, dj⟩ := key j y hy ly
    have := hr.md i' j' x' y' hx' hy' lx' ly' (ex.trans (e.trans ey.symm))
    omega
  · intro x hx lv
    obtain ⟨y, hy, lv', e⟩ := mem' x hx lv
    exact e ▸ hr.ms y hy lv'
  · intro x hx lv
    obtain ⟨y, hy, lv', e⟩ := mem' x hx lv
    exact e ▸ hr.mt y hy lv'
  · intro x hx lv
    obtain ⟨y, hy, lv', e⟩ := mem' x hx lv
    exact e ▸ hr.mhid y hy lv'

mutual
def swp (id2 n2 id n : Nat) : PV → PV
  | .vw id' n' off len cap => bif Nat.beq id' id2 && Nat.beq n' n2 then .vw id (n + 1) off len cap else bif Nat.beq id' id && Nat.beq n' n then .vw id2 (n2 + 1) off len cap else .vw id' n' off len cap
  | .clo f a b => .clo f (swpL id2 n2 id n a) (swpL id2 n2 id n b)
  | .agg cs => .agg (swpL id2 n2 id n cs)
  | .tuple cs => .tuple (swpL id2 n2 id n cs)
  | .mar id' n' => .mar id' n'
  | .g x => .g x
  | .own es' id' => .own es' id'
  | .ptr b off => .ptr b off
  | .nilp => .nilp
  | .nils => .nils
  | .pat cs => .pat cs
  | .lit es' => .lit es'
  | .mref a b c d => .mref a b c d
  | .mp a => .mp a
  | .glob g off => .glob g off
  | .kv g off => .kv g off
  | .ifc t p => .ifc t (swp id2 n2 id n p)
  | .any => .any
def swpL (id2 n2 id n : Nat) : List PV → List PV
  | [] => []
  | p :: r => swp id2 n2 id n p :: swpL id2 n2 id n r
end
theorem swpL_eq (id2 n2 id n : Nat) : ∀ l, swpL id2 n2 id n l = l.map (swp id2 n2 id n)
  | [] => by simp [swpL]
  | p :: r => by simp [swpL, swpL_eq id2 n2 id n r]
def swpB (id2 n2 id n : Nat) : List (List PV) → List (List PV)
  | [] => []
  | l :: r => swpL id2 n2 id n l :: swpB id2 n2 id n r
theorem swpB_eq (id2 n2 id n : Nat) : ∀ l, swpB id2 n2 id n l = l.map (·.map (swp id2 n2 id n))
  | [] => rfl
  | p :: r => by simp [swpB, swpL_eq, swpB_eq id2 n2 id n r]

theorem RV_swp {c c' : Ctx} (hE : EvoL c c') {id2 n2 id n : Nat} (hread : ∀ off len cap v, RV c (.vw id2 n2 off len cap) v → RV c' (.vw id (n + 1) off len cap) v) (hread2 : ∀ off len cap v, RV c (.vw id n off len cap) v → RV c' (.vw id2 (n2 + 1) off len cap) v) {p : PV} {v : Value} (h : RV c p v) : RV c' (swp id2 n2 id n p) v := by
  induction h with
  | vw id' n' off len cap g t ht hn h1 h2 hv =>
    simp only [swp]
    cases hb : (Nat.beq id' id2 && Nat.beq n' n2) with
    | true =>
      rw [cond_true]
      simp only [Bool.and_eq_true] at hb
      have e1 := Nat.eq_of_beq_eq_true hb.1
      have e2 := Nat.eq_of_beq_eq_true hb.2
      subst e1; subst e2
      exact hread off len cap _ (.vw _ _ off len cap g t ht hn h1 h2 hv)
    | false =>
      rw [cond_false]
      cases hb2 : (Nat.beq id' id && Nat.beq n' n) with
      | true =>
        rw [cond_true]
        simp only [Bool.and_eq_true] at hb2
        have e1 := Nat.eq_of_beq_eq_true hb2.1
        have e2 := Nat.eq_of_beq_eq_true hb2.2
        subst e1; subst e2
        exact hread2 off len cap _ (.vw _ _ off len cap g t ht hn h1 h2 hv)
      | false => rw [cond_false]; exact (RV.vw id' n' off len cap g t ht hn h1 h2 hv).light hE
  | mar id' n' v t ht hn h1 hv => simp only [swp]; exact (RV.mar id' n' v t ht hn h1 hv).light hE
  | g x v h => simp only [swp]; exact (RV.g x v h).light hE
  | own es id v t h ht hs hl hv => simp only [swp]; exact (RV.own es id v t h ht hs hl hv).light hE
  | ptr b off blk h => simp only [swp]; exact (RV.ptr b off blk h).light hE
  | nilp => simp only [swp]; exact .nilp
  | nils => simp only [swp]; exact .nils
  | pat cs a f ha hf h => simp only [swp]; exact (RV.pat cs a f ha hf h).light hE
  | clo fn ps qs us vs hp hq _ _ h1 h2 =>
    simp only [swp, swpL_eq]
    refine .clo fn _ _ us vs (by simpa using hp) (by simpa using hq) (fun i p v hp' hv => ?_) (fun i p v hp' hv => ?_)
    · simp only [List.getElem?_map, Option.map_eq_some_iff] at hp'
      obtain ⟨q, hq', rfl⟩ := hp'
      exact h1 i q v hq' hv
    · simp only [List.getElem?_map, Option.map_eq_some_iff] at hp'
      obtain ⟨q, hq', rfl⟩ := hp'
      exact h2 i q v hq' hv
  | agg cs vs hl h1 _ ih =>
    simp only [swp, swpL_eq]
    refine .agg _ vs (by simpa using hl) h1 fun i p v hp' hv => ?_
    simp only [List.getElem?_map, Option.map_eq_some_iff] at hp'
    obtain ⟨q, hq', rfl⟩ := hp'
    exact ih i q v hq' hv
  | tuple cs vs hl _ ih =>
    simp only [swp, swpL_eq]
    refine .tuple _ vs (by simpa using hl) fun i p v hp' hv => ?_
    simp only [List.getElem?_map, Option.map_eq_some_iff] at hp'
    obtain ⟨q, hq', rfl⟩ := hp'
    exact ih i q v hq' hv
  | lit es a h => simp only [swp]; exact (RV.lit es a h).light hE
  | mref id n i off a t ht hn h1 hv => simp only [swp]; exact (RV.mref id n i off a t ht hn h1 hv).light hE
  | mp id v t ht h1 hv => simp only [swp]; exact (RV.mp id v t ht h1 hv).light hE
  | glob g off => simp only [swp]; exact .glob g off
  | kv g off v h hs h1 => simp only [swp]; exact (RV.kv g off v h hs h1).light hE
  | ifc t p v _ ih => simp only [swp]; exact .ifc t _ v ih
  | any v => simp only [swp]; exact .any v

theorem Rel.swap {P : Program} {c : Ctx} {H : PH} (hr : Rel P c H) {id id2 n n2 e e2 : Nat} {es es2 : List GV} (hne : id ≠ id2) (hm : H.mu[id]? = some (.arr n e es)) (hm2 : H.mu[id2]? = some (.arr n2 e2 es2)) (hs : szB P e = some 1) (hs2 : szB P e2 = some 1) :
    ∃ c', c'.w = c.w ∧ c'.hid = c.hid ∧ Rel P c' ⟨swpB id2 n2 id n H.bx, H.tk, (H.mu.set id2 (.arr (n2 + 1) e es)).set id (.arr (n + 1) e2 es2)⟩ ∧ Evo c c' ∧ ∀ p v, RV c p v → RV c' (swp id2 n2 id n p) v := by
  have hid : id < c.μ.length := by rw [hr.mlen]; exact (List.getElem?_eq_some_iff.1 hm).1
  have hid2 : id2 < c.μ.length := by rw [hr.mlen]; exact (List.getElem?_eq_some_iff.1 hm2).1
  have ht := List.getElem?_eq_getElem hid
  have ht2 := List.getElem?_eq_getElem hid2
  generalize c.μ[id] = t at ht
  generalize c.μ[id2] = t2 at ht2
  have hmk := hr.mu id t _ ht hm
  have hmk2 := hr.mu id2 t2 _ ht2 hm2
  obtain ⟨a1, a2, a3, a4⟩ := hmk
  obtain ⟨b1, b2, b3, b4⟩ := hmk2
  have s1 := sz_one a3 hs
  have s2 := sz_one b3 hs2
  generalize hμ : (c.μ.set id2 { t with gen := n2 + 1 }).set id { t2 with gen := n + 1 } = μ'
  have g0 : μ'[id]? = some { t2 with gen := n + 1 } := by rw [← hμ, List.getElem?_set_self (by simpa using hid)]
  have g2 : μ'[id2]? = some { t with gen := n2 + 1 } := by rw [← hμ, List.getElem?_set_ne hne, List.getElem?_set_self hid2]
  have gk : ∀ k, k ≠ id → k ≠ id2 → μ'[k]? = c.μ[k]? := fun k h1 h2 => by rw [← hμ, List.getElem?_set_ne (Ne.symm h1), List.getElem?_set_ne (Ne.symm h2)]
  have mem' : ∀ x ∈ μ', x.live = true → ∃ y ∈ c.μ, y.live = true ∧ y.g = x.g := by
    intro x hx lv
    obtain ⟨k, hk⟩ := List.getElem?_of_mem hx
    by_cases h1 : k = id
    · subst h1; rw [g0] at hk; cases hk; exact ⟨t2, List.mem_of_getElem? ht2, lv, rfl⟩
    · by_cases h2 : k = id2
      · subst h2; rw [g2] at hk; cases hk; exact ⟨t, List.mem_of_getElem? ht, lv, rfl⟩
      · rw [gk k h1 h2] at hk; exact ⟨x, List.mem_of_getElem? hk, lv, rfl⟩
  have hstab : ∀ b p, c.stab b p → Ctx.stab ⟨c.σ, c.τ, μ', c.hid, c.w⟩ b p := fun b p h => ⟨h.1, h.2.1, h.2.2.1, fun x hx lv e => by
    obtain ⟨y, hy, lv', e'⟩ := mem' x hx lv
    exact h.2.2.2 y hy lv' (e'.trans e)⟩
  have hk : Keeps c.w c.w c.stab (Ctx.stab ⟨c.σ, c.τ, μ', c.hid, c.w⟩) := fun a v _ hs hc => ⟨hc, hstab _ _ hs⟩
  have hE : Evo c ⟨c.σ, c.τ, μ', c.hid, c.w⟩ := by
    refine ⟨rfl, ⟨rfl, fun _ => Nat.le_refl _⟩, rfl, Nat.le_refl _, rfl, ⟨[], by simp⟩, fun _ t h => ⟨t, h, rfl, rfl, .inl rfl⟩, ?_, fun x hx lv => .inl (mem' x hx lv), fun t h lv => .inl ⟨t, h, lv, rfl⟩, hk, fun _ _ _ _ _ => rfl⟩
    intro k x hx
    by_cases h1 : k = id
    · subst h1
      rw [ht] at hx; cases hx
      exact ⟨_, g0, by rw [s1]; exact s2, .inr (by dsimp only; omega)⟩
    · by_cases h2 : k = id2
      · subst h2
        rw [ht2] at hx; cases hx
        exact ⟨_, g2, by rw [s2]; exact s1, .inr (by dsimp only; omega)⟩
      · exact ⟨x, by rw [gk k h1 h2]; exact hx, rfl, .inl rfl⟩
  have hread : ∀ off len cap v, RV c (.vw id2 n2 off len cap) v → RV ⟨c.σ, c.τ, μ', c.hid, c.w⟩ (.vw id (n + 1) off len cap) v := by
    intro off len cap v hv
    cases hv with
    | vw _ _ _ _ _ g t3 ht3 hn h1 h2 hv =>
      rw [ht2] at ht3; cases ht3
      exact .vw id (n + 1) off len cap g _ g0 (Nat.le_refl _) h1 h2 fun _ => hv b1.symm
  have hread2 : ∀ off len cap v, RV c (.vw id n off len cap) v → RV ⟨c.σ, c.τ, μ', c.hid, c.w⟩ (.vw id2 (n2 + 1) off len cap) v := by
    intro off len cap v hv
    cases hv with
    | vw _ _ _ _ _ g t3 ht3 hn h1 h2 hv =>
      rw [ht] at ht3; cases ht3
      exact .vw id2 (n2 + 1) off len cap g _ g2 (Nat.le_refl _) h1 h2 fun _ => hv a1.symm
  refine ⟨⟨c.σ, c.τ, μ', c.hid, c.w⟩, rfl, rfl, ?_, hE, fun p v h => RV_swp hE.light hread hread2 h⟩
  refine { len := by rw [swpB_eq]; simpa using hr.len, bx := ?_, tk := hr.tk, tb := hr.tb, nd := hr.nd, td := hr.td, st := hr.st, hidlt := hr.hidlt, thid := hr.thid, shid := hr.shid, dead := hr.dead, mlen := ?_, mu := ?_, mlt := ?_, md := ?_, ms := ?_, mt := ?_, mhid := ?_, gl := hr.gl.keep hk }
  · intro i b cs hb hcs
    rw [swpB_eq] at hcs
    simp only [List.getElem?_map, Option.map_eq_some_iff] at hcs
    obtain ⟨ds, hds, rfl⟩ := hcs
    obtain ⟨vals, T, e1, e2, e3⟩ := hr.bx i b ds hb hds
    refine ⟨vals, T, e1, by simpa using e2, fun j p v hp hv => ?_⟩
    simp only [List.getElem?_map, Option.map_eq_some_iff] at hp
    obtain ⟨q, hq, rfl⟩ := hp
    exact ⟨RV_swp hE.light hread hread2 (e3 j q v hq hv).1, (e3 j q v hq hv).2⟩
  · show μ'.length = _
    rw [← hμ]; simpa using hr.mlen
  · intro i x o hx ho
    replace hx : μ'[i]? = some x := hx
    by_cases h1 : i = id
    · subst h1
      rw [g0] at hx; cases hx
      rw [List.getElem?_set_self (by simpa using (List.getElem?_eq_some_iff.1 hm).1)] at ho
      cases ho
      refine ⟨rfl, b2, b3, b4.imp (fun h => h) ?_⟩
      rintro ⟨lv, cur, c1, c2, c3, c4, c5, c6⟩
      exact ⟨lv, cur, c1, c2, c3, c4, c5, fun i x j g v hx hg hv => ⟨(c6 i x j g v hx hg hv).1.mono hk, (c6 i x j g v hx hg hv).2⟩⟩
    · rw [List.getElem?_set_ne (Ne.symm h1)] at ho
      by_cases h2 : i = id2
      · subst h2
        rw [g2] at hx; cases hx
        rw [List.getElem?_set_self (List.getElem?_eq_some_iff.1 hm2).1] at ho
        cases ho
        refine ⟨rfl, a2, a3, a4.imp (fun h => h) ?_⟩
        rintro ⟨lv, cur, c1, c2, c3, c4, c5, c6⟩
        exact ⟨lv, cur, c1, c2, c3, c4, c5, fun i x j g v hx hg hv => ⟨(c6 i x j g v hx hg hv).1.mono hk, (c6 i x j g v hx hg hv).2⟩⟩
      · rw [List.getElem?_set_ne (Ne.symm h2)] at ho
        rw [gk i h1 h2] at hx
        exact MOk.mono hE (fun _ => rfl) (hr.mu i x o hx ho)
  · intro x hx lv
    obtain ⟨y, hy, lv', e⟩ := mem' x hx lv
    exact e ▸ hr.mlt y hy lv'
  · intro i j x y hx hy lx ly e
    have key : ∀ (k : Nat) (z : MTok), μ'[k]? = some z → z.live = true → ∃ k' z', c.μ[k']? = some z' ∧ z'.live = true ∧ z'.g = z.g ∧ ((k = id ∧ k' = id2) ∨ (k = id2 ∧ k' = id) ∨ (k ≠ id ∧ k ≠ id2 ∧ k' = k)) := by
      intro k z hz lz
      by_cases h1 : k = id
      · subst h1; rw [g0] at hz; cases hz; exact ⟨id2, t2, ht2, lz, rfl, .inl ⟨rfl, rfl⟩⟩
      · by_cases h2 : k = id2
        · subst h2; rw [g2] at hz; cases hz; exact ⟨id, t, ht, lz, rfl, .inr (.inl ⟨rfl, rfl⟩)⟩
        · rw [gk k h1 h2] at hz; exact ⟨k, z, hz, lz, rfl, .inr (.inr ⟨h1, h2, rfl⟩)⟩
    obtain ⟨i', x', hx', lx', ex, di⟩ := key i x hx lx
    obtain ⟨j', y', hy', ly', ey, dj⟩ := key j y hy ly
    have := hr.md i' j' x' y' hx' hy' lx' ly' (ex.trans (e.trans ey.symm))
    omega
  · intro x hx lv
    obtain ⟨y, hy, lv', e⟩ := mem' x hx lv
    exact e ▸ hr.ms y hy lv'
  · intro x hx lv
    obtain ⟨y, hy, lv', e⟩ := mem' x hx lv
    exact e ▸ hr.mt y hy lv'
  · intro x hx lv
    obtain ⟨y, hy, lv', e⟩ := mem' x hx lv
    exact e ▸ hr.mhid y hy lv'

section
variable {P : Program} {N : Nat} {Q : Exit → Env → PH → Prop} {env : Env} {H : PH}
theorem PW_swap {code : Code} (id id2 : Nat) {n n2 e e2 : Nat} {es es2 : List GV} (hne : Nat.beq id id2 = false) (hm : H.mu[id]? = some (.arr n e es)) (hm2 : H.mu[id2]? = some (.arr n2 e2 es2)) (hs : szB P e = some 1) (hs2 : szB P e2 = some 1)
    (h : PW P N code Q (fun t => swp id2 n2 id n (env t)) ⟨swpB id2 n2 id n H.bx, H.tk, (H.mu.set id2 (.arr (n2 + 1) e es)).set id (.arr (n + 1) e2 es2)⟩) : PW P N code Q env H := by
  intro c a hr he
  obtain ⟨c', hw, hh, r1, e1, r2⟩ := hr.swap (fun h => by rw [h, Nat.beq_refl] at hne; cases hne) hm hm2 hs hs2
  have := h c' a r1 ⟨he.defers.trans (congrArg Hid.d hh).symm, he.size, fun t => r2 _ _ (he.slot t)⟩
  rw [hw] at this
  refine wp_mono this ?_
  rintro x a' w' ⟨c2, env', H', q, rfl, hr', hE', he'⟩
  exact ⟨c2, env', H', q, rfl, hr', e1.trans hE', he'⟩
end
end Go.Pure


/- A generic layer: calls of functions that others stand in for; calls that are put off to a function's end. -/
namespace Go.Pure
open Go

section
variable {P : Program} {o : Oper} {ρ : Operand → PV} {H H' : PH} {v v' : PV}

theorem PO_call_twin (ks : List Bool) {f : Operand} {args : Array Operand} {ts : Array TypeId} {id0 id : FuncId} {ps : List PV} (ho : o.op = .call { callee := .value f, args := args, argTypes := ts })
    (hf : ρ f = .g (.raw (.func (.func id0) #[] #[]))) (he : ∀ (args : Array Value) (w : World), (callFunc id0 args).run P w = .ok (.enter id args) w) (ha : argsK ρ ks args.toList = ps) (hp : PC P id ps H v H') : PO P o ρ H v H' := by
  intro c ρr hr hx
  have hops : ∀ x, x = f ∨ x ∈ args.toList → x ∈ o.op.operands.toList := by
    intro x hx
    simp [ho, Op.operands, Call.operands]
    rcases hx with rfl | hx
    · exact .inl rfl
    · exact .inr (by simpa using hx)
  have hf1 := hx f (hops f (.inl rfl))
  rw [hf] at hf1
  have hf2 := RV_raw hf1
  have hrun : (execOp ρr o).run P c.w = .ok (.enter id (args.map ρr)) c.w := by
    simp [execOp, ho, resolve, hf2, Deferred.ofValue, invoke, he]
  unfold OpGoes
  rw [hrun]
  refine (hp c _ hr ⟨by rw [← ha, argsK_length]; simp, fun i p u hp' hu => ?_⟩).mono ?_
  · simp only [Array.getElem?_map, Option.map_eq_some_iff] at hu
    obtain ⟨x, hx1, rfl⟩ := hu
    rw [← ha] at hp'
    exact argsK_get ks args.toList (fun z hz => hx z (hops z (.inr hz))) i p x hp' (by simpa using hx1)
  · rintro e w' ⟨rv, c', rfl, rfl, hr', hE, hv'⟩
    exact ⟨rv, rfl, c', rfl, hr', hE, hv'⟩

theorem ct (ks : List Bool) {f : Operand} {args : Array Operand} {ts : Array TypeId} {id0 id : FuncId} {qs ps : List PV} {H0 H1 : PH} {v1 : PV} {I J L : List Nat} (ho : o.op = .call { callee := .value f, args := args, argTypes := ts })
    (hf : ρ f = .g (.raw (.func (.func id0) #[] #[]))) (he : ∀ (args : Array Value) (w : World), (callFunc id0 args).run P w = .ok (.enter id args) w) (hp : PC P id ps H0 v1 H1) (hq : deepL (argsK ρ ks args.toList) = some qs) (_hI : reachB H.bx 40 (refBL qs) [] = I) (_hJ : dedup [] (refOL qs ++ refOL (boxesOf H.bx I)) = J) (_hL : dedup [] (refML qs ++ refML (boxesOf H.bx I)) = L) (hn : (nodupB I && nodupB J && nodupB L) = true)
    (hb : pickB I J L H.bx I = some H0.bx) (ht : pickT H.tk J = some H0.tk) (hm : pickM H.mu L = some H0.mu) (ha : renL (posOf I) (posOf J) (posOf L) qs = ps) (hv : deepV (ren (backOf I H.bx.length) (backOf J H.tk.length) (backOf L H.mu.length) v1) = some v') (hH : deepH (back I J L H H1) = some H') :
    PO P o ρ H v' H' := by
  rw [deepL_eq] at hq
  exact PO_call_twin ks ho hf he (Option.some.inj hq) (PC_at hp I J L hn hb ht hm ha hv hH)

def intsV (ks : List (IntKind × Int)) : Array Value := (ks.map fun k => Value.int k.1 k.2).toArray
theorem PO_call_ext {f : Operand} {args : Array Operand} {ts : Array TypeId} {id : FuncId} {ks : List (IntKind × Int)} {u : Value} {p : PV} (ho : o.op = .call { callee := .value f, args := args, argTypes := ts })
    (hf : ρ f = .g (.raw (.func (.func id) #[] #[]))) (ha : args.toList.map ρ = ks.map fun k => PV.g (.int k.1 k.2)) (h : ∀ w : World, (callFunc id (intsV ks)).run P w = .ok (.value u) w) (hv : ∀ c : Ctx, RV c p u) : PO P o ρ H p H :=
  PO_val fun c ρr hr hx => by
    have hops : ∀ x, x = f ∨ x ∈ args.toList → x ∈ o.op.operands.toList := by
      intro x hx
      simp [ho, Op.operands, Call.operands]
      rcases hx with rfl | hx
      · exact .inl rfl
      · exact .inr (by simpa using hx)
    have hf1 := hx f (hops f (.inl rfl))
    rw [hf] at hf1
    have hf2 := RV_raw hf1
    have hargs : args.map ρr = intsV ks := by
      apply Array.ext_getElem?
      intro i
      have h1 : (args.toList.map ρ)[i]? = (ks.map fun k => PV.g (.int k.1 k.2))[i]? := by rw [ha]
      simp only [List.getElem?_map] at h1
      unfold intsV
      simp only [Array.getElem?_map, List.getElem?_toArray, List.getElem?_map]
      cases hi : args[i]? with
      | none =>
        have : args.toList[i]? = none := by simpa using hi
        rw [this] at h1
        cases hk : ks[i]? with
        | none => rfl
        | some k => rw [hk] at h1; cases h1
      | some x =>
        have hi' : args.toList[i]? = some x := by simpa using hi
        rw [hi'] at h1
        cases hk : ks[i]? with
        | none => rw [hk] at h1; cases h1
        | some k =>
          rw [hk] at h1
          simp only [Option.map_some, Option.some.injEq] at h1
          have hx1 := hx x (hops x (.inr (List.mem_of_getElem? hi')))
          rw [h1] at hx1
          simp [RV_int hx1]
    refine ⟨u, ?_, hv c⟩
    simp [execOp, ho, resolve, hf2, Deferred.ofValue, invoke, hargs, h]
end

/-! ### Calls that are put off -/
structure DefP where
  fn : FuncId
  args : List PV

def DefsR (c : Ctx) : List DefP → List Deferred → Prop
  | [], l => l = []
  | d :: ds, l => ∃ x r, l = x :: r ∧ x.target = .fn (.func d.fn) #[] ∧ RVs c d.args x.args ∧ DefsR c ds r
theorem DefsR.light {c c' : Ctx} (hE : EvoL c c') : ∀ {ds : List DefP} {l : List Deferred}, DefsR c ds l → DefsR c' ds l
  | [], _, h => h
  | _ :: _, _, ⟨x, r, h1, h2, h3, h4⟩ => ⟨x, r, h1, h2, ⟨h3.1, fun i p v hp hv => (h3.2 i p v hp hv).light hE⟩, h4.light hE⟩

def PCd (P : Program) (f : FuncId) (args : List PV) (H : PH) (H' : PH) : Prop :=
  ∀ (c : Ctx) (vs : Array Value), Rel P c H → RVs c args vs →
    CallsD P f vs .returning c.w fun e u w' => u = .returning ∧ ∃ rv c', e = .returned rv ∧ c'.w = w' ∧ Rel P c' H' ∧ Evo c c'

section
variable {P : Program}
theorem PCd_of_PW {f : FuncId} {fn : Func} {code : Code} {N : Nat} {rs : List ResultVar} {args : List PV} {H H' : PH} {v : PV} (hf : P.funcs[f]? = some fn) (hb : fn.body = some code) (hn : fn.ntmps = N)
    (hrs : fn.results = rs.toArray) (hl : args.length ≤ N) (h : PW P N code (Ret P rs H v H') (env0 args) H) : PCd P f args H H' := fun c vs hr ha => by
  refine CallsD.mono (callsD_of_wp (u := .returning) hf hb (wp_of_PW hn hrs hl h hr ha)) ?_
  rintro e u w' ⟨hu, rv, c', h1, h2, h3, h4, _⟩
  exact ⟨hu, rv, c', h1, h2, h3, h4⟩

def Done (P : Program) (rs : List ResultVar) (H0 : PH) (v : PV) (H' : PH) (e : Exit) (env : Env) : List DefP → PH → Prop
  | [], H2 => Ret P rs H0 v H' e env H2
  | d :: ds, H2 => ∃ H3, enterB P d.fn = true ∧ PCd P d.fn d.args H2 H3 ∧ Done P rs H0 v H' e env ds H3

theorem Evo.wd2 {c c' : Ctx} (hE : Evo c c') (d : List Deferred) : Evo (c.wd d) (c'.wd d) :=
  { os := hE.os, tape := hE.tape, output := hE.output, size := hE.size, hid := by
      show (⟨c'.hid.f, d⟩ : Hid) = ⟨c.hid.f, d⟩
      rw [hE.hid]
    sig := hE.sig, tok := hE.tok, mu := hE.mu, munew := hE.munew, toknew := hE.toknew, keep := hE.keep, frame := hE.frame }

theorem leaves_of_Done {fn : Func} {rs : List ResultVar} {H0 H' : PH} {v : PV} {e : Exit} {env : Env} {N : Nat} {tmps : Array Value} (hrs : fn.results = rs.toArray) (hN : tmps.size = N) {c0 : Ctx} (hr0 : Rel P c0 H0) :
    ∀ (ds : List DefP) (l : List Deferred) (H2 : PH) (c : Ctx), Done P rs H0 v H' e env ds H2 → Rel P c H2 → Evo (c0.wd []) (c.wd []) → DefsR c ds l → (∀ t, RV c (env t) (tmps.getD t undef)) →
      Leaves P fn tmps (fun e w' => ∃ rv c', e = .returned rv ∧ c'.w = w' ∧ Rel P c' H' ∧ Evo c0 c' ∧ RV c' v rv) l .returning c.w
  | [], l, H2, c, hd, hr, hE, hl, hs => by
    cases hl
    have := ret_reads (a := ⟨tmps, []⟩) hr0 hrs hd (hr.wd []) hE hN (fun t => (hs t).wd [])
    exact this
  | d :: ds, l, H2, c, hd, hr, hE, hl, hs => by
    obtain ⟨x, r, rfl, ht, ha, hl'⟩ := hl
    obtain ⟨H3, he, hp, hd'⟩ := hd
    have hcall := hp c x.args hr ha
    refine ⟨(fun h => by cases h), .func d.fn, #[], d.fn, x.args, ht, ?_, hcall.mono ?_⟩
    · rw [ht]
      simp [invoke, run_callFunc he]
    · rintro e' u w' ⟨rfl, rv, c', rfl, rfl, hr', hE'⟩
      exact leaves_of_Done hrs hN hr0 ds r H3 c' hd' hr' (hE.trans (hE'.wd2 [])) (hl'.light hE'.light) (fun t => (hs t).mono hE')

def PM (P : Program) (N : Nat) (rs : List ResultVar) (H0 : PH) (v : PV) (H' : PH) (code : Code) (K : List DefP → Env → PH → Prop) (ds : List DefP) (env : Env) (H : PH) : Prop :=
  ∀ (fn : Func) (c0 c : Ctx) (a : Act), fn.results = rs.toArray → Rel P c0 H0 → Rel P c H → Evo (c0.wd []) (c.wd []) → ER c N env a → DefsR c ds a.defers →
    code.wp P (fun e a' w' => (e = .normal ∧ ∃ c' env' H1 ds', K ds' env' H1 ∧ c'.w = w' ∧ Rel P c' H1 ∧ Evo (c0.wd []) (c'.wd []) ∧ ER c' N env' a' ∧ DefsR c' ds' a'.defers) ∨
      (e = .ret ∧ Leaves P fn a'.tmps (fun e w' => ∃ rv c', e = .returned rv ∧ c'.w = w' ∧ Rel P c' H' ∧ Evo c0 c' ∧ RV c' v rv) a'.defers .returning w')) a c.w

section
variable {N : Nat} {rs : List ResultVar} {H0 H' H : PH} {v : PV} {ds : List DefP} {env : Env} {K : List DefP → Env → PH → Prop}
theorem PM_pw {x : Code} (h : PW P N x (fun e env' H1 => (e = .normal ∧ K ds env' H1) ∨ (e = .ret ∧ Done P rs H0 v H' e env' ds H1)) env H) : PM P N rs H0 v H' x K ds env H := by
  intro fn c0 c a hrs hr0 hr hE he hd
  refine wp_mono (h c a hr he) ?_
  rintro e a' w' ⟨c', env', H1, hx, rfl, hr', hE', he'⟩
  have hdf : a'.defers = a.defers := by rw [he'.defers, he.defers, hE'.hid]
  have hd' : DefsR c' ds a'.defers := by rw [hdf]; exact hd.light hE'.light
  rcases hx with ⟨rfl, hk⟩ | ⟨rfl, hdone⟩
  · exact .inl ⟨rfl, c', env', H1, ds, hk, rfl, hr', hE.trans (hE'.wd2 []), he', hd'⟩
  · exact .inr ⟨rfl, leaves_of_Done hrs he'.size hr0 ds a'.defers H1 c' hdone hr' (hE.trans (hE'.wd2 [])) hd' he'.slot⟩
theorem PM_seq {x y : Code} (h : PM P N rs H0 v H' x (PM P N rs H0 v H' y K) ds env H) : PM P N rs H0 v H' (.seq x y) K ds env H := by
  intro fn c0 c a hrs hr0 hr hE he hd
  refine wp_seq (wp_mono (h fn c0 c a hrs hr0 hr hE he hd) ?_)
  rintro e a' w' (⟨rfl, c', env', H1, ds', hk, rfl, hr', hE', he', hd'⟩ | ⟨rfl, hl⟩)
  · exact hk fn c0 c' a' hrs hr0 hr' hE' he' hd'
  · exact .inr ⟨rfl, hl⟩
theorem PM_skip (h : K ds env H) : PM P N rs H0 v H' .skip K ds env H := fun _ _ c _ _ _ hr hE he hd => wp_skip (.inl ⟨rfl, c, env, H, ds, h, rfl, hr, hE, he, hd⟩)
theorem PM_cond_t {x : Operand} {t e : Code} (hx : env.eval x = .g (.bool true)) (h : PM P N rs H0 v H' t K ds env H) : PM P N rs H0 v H' (.cond x t e) K ds env H := by
  intro fn c0 c a hrs hr0 hr hE he hd
  have hv := he.eval x
  rw [hx] at hv
  cases hv with
  | g _ v hg =>
    generalize hv : a.eval x = v at hg
    cases hg
    exact wp_cond_split hv (fun _ => h fn c0 c a hrs hr0 hr hE he hd) (fun e => by cases e)
theorem PM_cond_f {x : Operand} {t e : Code} (hx : env.eval x = .g (.bool false)) (h : PM P N rs H0 v H' e K ds env H) : PM P N rs H0 v H' (.cond x t e) K ds env H := by
  intro fn c0 c a hrs hr0 hr hE he hd
  have hv := he.eval x
  rw [hx] at hv
  cases hv with
  | g _ v hg =>
    generalize hv : a.eval x = v at hg
    cases hg
    exact wp_cond_split hv (fun e => by cases e) (fun _ => h fn c0 c a hrs hr0 hr hE he hd)

theorem wpList_defer {all : Array Oper} {o : Oper} {f : Operand} {args : Array Operand} {ts : Array TypeId} (ho : o.op = .defer { callee := .value f, args := args, argTypes := ts }) (hg : o.guard = none) (hdst : ∀ t, o.dst = some t → t < N) : ∀ (l : List Oper) (env : Env) (H : PH),
    POps P N all (fun env' H1 => ∃ id, env'.eval f = .g (.raw (.func (.func id) #[] #[])) ∧ K (⟨id, args.toList.map env'.eval⟩ :: ds) (upd env' o.dst undefP) H1) l env H → ∀ (c0 c : Ctx) (a : Act), Rel P c H → Evo (c0.wd []) (c.wd []) → ER c N env a → DefsR c ds a.defers →
    wpList P all (fun e a' w' => e = .normal ∧ ∃ c' env' H1 ds', K ds' env' H1 ∧ c'.w = w' ∧ Rel P c' H1 ∧ Evo (c0.wd []) (c'.wd []) ∧ ER c' N env' a' ∧ DefsR c' ds' a'.defers) (l ++ [o]) a c.w
  | [], env, H, h, c0, c, a, hr, hE, he, hd => by
    obtain ⟨id, hf, hk⟩ := h
    have hfv := he.eval f
    rw [hf] at hfv
    have hfv := RV_raw hfv
    show wpList P all _ [o] a c.w
    unfold wpList
    have hw : Region.wanted o (yielded all a.tmps) = true := by unfold Region.wanted; rw [hg]
    rw [hw, if_pos rfl]
    refine .inl ?_
    have hrun : (execOp a.eval o).run P c.w = .ok (.defer { target := .fn (.func id) #[], args := args.map a.eval }) c.w := by
      simp [execOp, ho, resolve, hfv, Deferred.ofValue]
    unfold Oper.wp
    rw [hrun]
    generalize hx : ({ target := .fn (.func id) #[], args := args.map a.eval } : Deferred) = x
    rw [Oper.upon_defer]
    show wpList P all _ [] _ _
    unfold wpList
    have hsz : a.tmps.size = N := he.size
    refine ⟨rfl, c.wd (x :: a.defers), _, H, _, hk, rfl, hr.wd _, hE, ?_, ?_⟩
    · have h1 : ER (c.wd (x :: a.defers)) N env { a with defers := x :: a.defers } := ⟨rfl, he.size, fun t => (he.slot t).wd _⟩
      exact h1.put hdst (.g _ _ (.raw _))
    · have : (Act.put { a with defers := x :: a.defers } o.dst undef).defers = x :: a.defers := by unfold Act.put; cases o.dst <;> rfl
      rw [this]
      refine ⟨x, a.defers, rfl, by rw [← hx], ⟨by rw [← hx]; simp, fun i p u hp hu => ?_⟩, hd.light (evoL_wd c _)⟩
      rw [← hx] at hu
      simp only [Array.getElem?_map, List.getElem?_map, Option.map_eq_some_iff] at hp hu
      obtain ⟨y, hy, rfl⟩ := hp
      obtain ⟨z, hz, rfl⟩ := hu
      have : y = z := by simpa [hz] using hy.symm
      subst this
      exact (he.eval y).wd _
  | o1 :: rest, env, H, h, c0, c, a, hr, hE, he, hd => by
    obtain ⟨hdd, h⟩ := h
    show wpList P all _ (o1 :: (rest ++ [o])) a c.w
    unfold wpList
    split at h
    · rename_i hg1
      rw [gd_ok he hg1, if_pos rfl]
      obtain ⟨v1, H1, hpo, hrest⟩ := h
      refine .inl ((hpo c a.eval hr (fun x _ => he.eval x)).wp ?_)
      rintro rv w' ⟨c', rfl, hr', hE', hv⟩
      have hdf : (a.put o1.dst rv).defers = a.defers := by unfold Act.put; cases o1.dst <;> rfl
      exact wpList_defer ho hg hdst rest _ _ hrest c0 c' (a.put o1.dst rv) hr' (hE.trans (hE'.wd2 [])) ((he.mono hE').put hdd hv) (by rw [hdf]; exact hd.light hE'.light)
    · rename_i hg1
      rw [gd_ok he hg1, if_neg (by simp)]
      have hdf : (a.put o1.dst undef).defers = a.defers := by unfold Act.put; cases o1.dst <;> rfl
      exact wpList_defer ho hg hdst rest _ _ h c0 c (a.put o1.dst undef) hr hE (he.put hdd (.g _ _ (.raw _))) (by rw [hdf]; exact hd)
    · exact h.elim

theorem PM_defer {id : Nat} {l : List Oper} {o : Oper} {f : Operand} {args : Array Operand} {ts : Array TypeId} {ops : Array Oper} (hops : ops = (l ++ [o]).toArray) (ho : o.op = .defer { callee := .value f, args := args, argTypes := ts }) (hg : o.guard = none) (hdst : ∀ t, o.dst = some t → t < N)
    (h : POps P N ops (fun env' H1 => ∃ id, env'.eval f = .g (.raw (.func (.func id) #[] #[])) ∧ K (⟨id, args.toList.map env'.eval⟩ :: ds) (upd env' o.dst undefP) H1) l env H) : PM P N rs H0 v H' (.region id ops false) K ds env H := by
  subst hops
  intro fn c0 c a hrs hr0 hr hE he hd
  refine wp_region_lit ?_
  refine wpList_of_POps.wpList_mono ?_ (wpList_defer ho hg hdst l env H h c0 c a hr hE he hd)
  rintro e a' w' ⟨rfl, hk⟩
  exact .inl ⟨rfl, hk⟩
end

theorem PC_of_PM {f : FuncId} {fn : Func} {code : Code} {N : Nat} {rs : List ResultVar} {args : List PV} {H H' : PH} {v : PV} (hf : P.funcs[f]? = some fn) (hb : fn.body = some code) (hn : fn.ntmps = N)
    (hrs : fn.results = rs.toArray) (hl : args.length ≤ N) (h : PM P N rs H v H' code (fun ds env' H1 => Done P rs H v H' .normal env' ds H1) [] (env0 args) H) : PC P f args H v H' := by
  intro c vs hr ha
  refine calls_of_wp_defers hf hb (wp_mono (h fn c (c.wd []) _ hrs hr (hr.wd []) (Evo.refl _) (er_entry hn hl ha) rfl) ?_)
  rintro e a' w' (⟨rfl, c', env', H1, ds', hk, rfl, hr', hE', he', hd'⟩ | ⟨rfl, hl⟩)
  · exact leaves_of_Done hrs he'.size hr ds' a'.defers H1 c' hk hr' hE' hd' he'.slot
  · exact hl
end

theorem w64 {n : Int} (h : -9223372036854775808 ≤ n ∧ n < 9223372036854775808) : IntKind.i64.wrap n = n := by
  rw [IntKind.wrap_i64]; omega

section
variable {P : Program} {o : Oper} {ρ : Operand → PV} {H : PH}
theorem vcut (U : Nat) {t e : TypeId} {x : Operand} {lo hi : Option Operand} {id n off len cap : Nat} {l h : Option (IntKind × Int)} (ho : o.op = .slice t x lo hi none) (ht : P.underlying t = some (.slice e)) (hs : szB P e = some 1) (hx : ρ x = .vw id n off len cap)
    (hl : boundP ρ lo = some l) (hh : boundP ρ hi = some h) (hL : loOf l = 0) (hU : hiOf len h = U) (h2 : U ≤ cap) : PO P o ρ H (.vw id n off U cap) H :=
  PO_as (PO_vslice 0 U cap ho ht hs hx hl hh rfl (fun _ => rfl) (by rw [hL]; rfl) hU rfl (Nat.zero_le _) h2 (Nat.le_refl _)) (by simp)
theorem vmid (L U : Nat) {t e : TypeId} {x : Operand} {lo hi : Option Operand} {id n off len cap : Nat} {l h : Option (IntKind × Int)} (ho : o.op = .slice t x lo hi none) (ht : P.underlying t = some (.slice e)) (hs : szB P e = some 1) (hx : ρ x = .vw id n off len cap)
    (hl : boundP ρ lo = some l) (hh : boundP ρ hi = some h) (hL : loOf l = L) (hU : hiOf len h = U) (h1 : L ≤ U) (h2 : U ≤ cap) (h3 : L < cap) : PO P o ρ H (.vw id n (off + L) (U - L) (cap - L)) H :=
  PO_as (PO_vslice L U cap ho ht hs hx hl hh rfl (fun _ => rfl) hL hU rfl h1 h2 (Nat.le_refl _)) (by rw [if_neg (by omega)])
theorem PO_asH {v : PV} {H' H'' : PH} (h : PO P o ρ H v H') (e : H' = H'') : PO P o ρ H v H'' := e ▸ h
end

section
variable {P : Program} {o : Oper} {env : Env} {H : PH} {K : List Nat}
theorem Cond_mcmp {x y : Operand} {t u T k : Nat} {op : BinOp} {id n i off id2 n2 i2 off2 e e2 len len2 : Nat} (hK : memB K (10000 + id) = true) (hK2 : memB K (10000 + id2) = true) (ho : o.op = .binOp op t x y u) (ht : P.underlying t = some (.pointer T)) (hsT : szB P T = some (k + 1)) (hop : op = .eql ∨ op = .neq)
    (hx' : env.eval x = .mref id n i off) (hy' : env.eval y = .mref id2 n2 i2 off2) (hm : shM H.mu[id]? = some (1, n, e, len)) (hm2 : shM H.mu[id2]? = some (1, n2, e2, len2)) (hs : szB P e = some 1) (hs2 : szB P e2 = some 1) (hl : 0 < len) (hl2 : 0 < len2) (hKl : Nat.ble 10000 id = false := by rfl) (hKl2 : Nat.ble 10000 id2 = false := by rfl) :
    Cond P K o env H (.g (.bool (if op = .eql then (Nat.beq id id2 && Nat.beq (i + off) (i2 + off2)) else !(Nat.beq id id2 && Nat.beq (i + off) (i2 + off2))))) H :=
  Cond_i (hk := by rw [ho]; rfl) fun H1 hq => by
    obtain ⟨es, a1, a2⟩ := hq.arr hK hKl hm
    obtain ⟨es2, b1, b2⟩ := hq.arr hK2 hKl2 hm2
    exact PO_mcmp ho ht hsT hop hx' hy' a1 b1 hs hs2 (fun e => by subst e; simp at a2; omega) (fun e => by subst e; simp at b2; omega)
end

/-! ### Results -/
theorem Ret2 {P : Program} {env : Env} {rs : List ResultVar} {ps : List PV} {e : Exit} {H2 : PH} {a b a' b' : GV} (hs : resVs P env H2 rs = some ps) (hp : ps = [.g a, .g b]) (ha : a = a') (hb : b = b')
    (he : e = .normal ∨ e = .ret := by first | exact .inl rfl | exact .inr rfl) : Ret P rs ⟨[], [], []⟩ (.tuple [.g a', .g b']) ⟨[], [], []⟩ e env H2 := by
  subst ha; subst hb; subst hp
  refine Ret_pure hs rfl (.tuple _ fun p hp => ?_) he
  simp at hp
  rcases hp with rfl | rfl <;> exact .g _
end Go.Pure


namespace Go.Pure
open Go
section
variable {P : Program}
theorem PC.post {f : FuncId} {args : List PV} {H H1 H2 : PH} {v : PV} (h : PC P f args H v H1) (hle : HLe P H1 H2) : PC P f args H v H2 := fun c vs hr ha =>
  Calls.mono (h c vs hr ha) (fun _ _ ⟨rv, c', h1, h2, h3, h4, h5⟩ => ⟨rv, c', h1, h2, hle c' h3, h4, h5⟩)
theorem HLe.packbx {H : PH} : HLe P H ⟨H.bx.map (List.map pack), H.tk, H.mu⟩ := fun c hr =>
  { hr with
    len := by simpa using hr.len
    bx := fun i b cs hi hcs => by
      simp only [List.getElem?_map, Option.map_eq_some_iff] at hcs
      obtain ⟨cs0, h0, rfl⟩ := hcs
      obtain ⟨vals, T, h1, h2, h3⟩ := hr.bx i b cs0 hi h0
      refine ⟨vals, T, h1, by simpa using h2, fun j p v hj hv => ?_⟩
      simp only [List.getElem?_map, Option.map_eq_some_iff] at hj
      obtain ⟨p0, hp0, rfl⟩ := hj
      obtain ⟨k1, k2⟩ := h3 j p0 v hp0 hv
      exact ⟨pack_ok k1, k2⟩ }
theorem PC.moved {f : FuncId} {args : List PV} {m0 m1 : MO} {n n1 n2 e e1 e2 len cap : Nat} {es es1 es2 : List GV} (hs : szB P e = some 1) (hs2 : szB P e2 = some 1)
    (h : PC P f args ⟨[], [], [m0, m1]⟩ (.vw 2 n2 0 len cap) ⟨[], [], [.arr n e es, .arr n1 e1 es1, .arr n2 e2 es2]⟩) :
    PC P f args ⟨[], [], [m0, m1]⟩ (.vw 0 (n + 1) 0 len cap) ⟨[], [], [.arr (n + 1) e2 es2, .arr n1 e1 es1]⟩ := fun c vs hr ha =>
  Calls.mono (h c vs hr ha) (fun _ _ ⟨rv, c', h1, h2, h3, h4, h5⟩ => by
    obtain ⟨c2, hw, _, r1, e1', r2⟩ := h3.move (id := 0) (id2 := 2) (by decide) rfl rfl hs hs2
    refine ⟨rv, c2.cut 0 0 2, h1, hw.trans h2, r1.cut (H' := ⟨[], [], [.arr (n + 1) e2 es2, .arr n1 e1 es1]⟩) ⟨[], rfl⟩ ⟨[], rfl⟩ ⟨[.gone (n2 + 1)], rfl⟩ (fun _ h => by cases h), (h4.trans e1').cut ?_ ?_ ?_, RV.cut ?_ ?_⟩
    · have := hr.len; simp at this; simp [this]
    · have := hr.tk; simp at this; simp [this]
    · have := hr.mlen; simp at this; omega
    · have := r2 _ _ h5
      simpa [mov] using this
    · exact .vw _ _ _ _ _ (by decide))
end
end Go.Pure


/- A generic layer: a loop of at most n rounds, each walked in whatever arms. -/
namespace Go.Pure
open Go
section
variable {P : Program} {N : Nat} {Q : Exit → Env → PH → Prop} {env : Env} {H : PH}

def PWR (P : Program) (N : Nat) (body : Code) (Q : Exit → Env → PH → Prop) : Nat → Env → PH → Prop
  | 0, _, _ => False
  | n + 1, env, H => PW P N body (Next (PWR P N body Q n) Q) env H
theorem PWR_rounds {body : Code} : ∀ (n : Nat) (env : Env) (H : PH) (c0 c : Ctx) (a : Act), PWR P N body Q n env H → Evo c0 c → Rel P c H → ER c N env a → Code.rounds P body (QR P c0 N Q) n a c.w
  | 0, _, _, _, _, _, h, _, _, _ => h.elim
  | n + 1, env, H, c0, c, a, h, hE0, hr, he => by
    rw [rounds_succ]
    refine wp_mono (h c a hr he) ?_
    rintro e a' w' ⟨c', env', H', q, rfl, hr', hE, he'⟩
    cases e <;> simp only [Next] at q <;> simp only [Exit.then]
    case normal => exact PWR_rounds n env' H' c0 c' a' q (hE0.trans hE) hr' he'
    all_goals exact ⟨c', env', H', q, rfl, hr', hE0.trans hE, he'⟩
theorem PW_loop_n {body : Code} (n : Nat) (h : PWR P N body Q n env H) : PW P N (.loop body) Q env H :=
  fun c a hr he => wp_loop_rounds n (PWR_rounds n env H c c a h (Evo.refl c) hr he)
end
end Go.Pure


/- A generic layer: regions that draw their order, with new variables to which nothing is stored there: a store of nought put ahead of the operation that takes them changes nothing. -/
namespace Go.Pure
open Go

structure NV where
  at_ : Nat
  t : TypeId
  x : Tmp
  z : Value
def phM (d m j : Nat) : Nat := bif Nat.blt j d then j else j + m
def shE (d m : Nat) (e : Edge) : Edge := ⟨phM d m e.on, e.ground⟩
def shG (d m : Nat) : Option (Nat × Bool) → Option (Nat × Bool)
  | some (g, b) => some (phM d m g, b)
  | none => none
def prevE (d : Nat) : Nat → List Edge
  | 0 => []
  | r + 1 => ⟨d + r, .data⟩ :: prevE d r
def shO (d m : Nat) (x : List Edge) (o : Oper) : Oper := ⟨o.dst, o.op, o.type, o.pos, (o.after.toList.map (shE d m) ++ x).toArray, shG d m o.guard⟩
def psd (d m : Nat) (D : Oper) (r : Nat) (s : NV) : Oper := ⟨none, .store s.t (.tmp s.x) (.const s.z), 0, "", (D.after.toList.map (shE d m) ++ prevE d r).toArray, none⟩
def psds (d m : Nat) (D : Oper) : Nat → List NV → List Oper
  | _, [] => []
  | r, s :: ss => psd d m D r s :: psds d m D (r + 1) ss
def insH (d : Nat) (ss : List NV) (D : Oper) (l : List Oper) : List Oper :=
  (l.take d).map (shO d ss.length []) ++ (psds d ss.length D 0 ss ++ shO d ss.length (prevE d ss.length) D :: (l.drop (d + 1)).map (shO d ss.length []))

theorem ph_lt {d m j : Nat} (h : j < d) : phM d m j = j := by
  have : Nat.blt j d = true := by simpa [Nat.blt_eq] using h
  unfold phM; rw [this]; rfl
theorem ph_ge {d m j : Nat} (h : d ≤ j) : phM d m j = j + m := by
  have : Nat.blt j d = false := by
    cases hb : Nat.blt j d with
    | false => rfl
    | true => have : j < d := by simpa [Nat.blt_eq] using hb
              omega
  unfold phM; rw [this]; rfl
theorem ph_out {d m j : Nat} : phM d m j < d ∨ d + m ≤ phM d m j := by
  rcases Nat.lt_or_ge j d with h | h
  · rw [ph_lt h]; exact .inl h
  · rw [ph_ge h]; omega
theorem ph_inj {d m j k : Nat} (h : phM d m j = phM d m k) : j = k := by
  rcases Nat.lt_or_ge j d with h1 | h1 <;> rcases Nat.lt_or_ge k d with h2 | h2 <;> simp only [ph_lt, ph_ge, *] at h <;> omega
theorem ph_cover (d m p : Nat) : (d ≤ p ∧ p < d + m) ∨ ∃ j, p = phM d m j := by
  rcases Nat.lt_or_ge p d with h | h
  · exact .inr ⟨p, (ph_lt h).symm⟩
  · by_cases e : p < d + m
    · exact .inl ⟨h, e⟩
    · exact .inr ⟨p - m, by rw [ph_ge (by omega)]; omega⟩
theorem prevE_mem {d : Nat} {e : Edge} : ∀ {r : Nat}, e ∈ prevE d r → ∃ q, q < r ∧ e.on = d + q
  | 0, h => by cases h
  | r + 1, h => by
    rcases List.mem_cons.1 h with rfl | h
    · exact ⟨r, Nat.lt_succ_self r, rfl⟩
    · obtain ⟨q, h1, h2⟩ := prevE_mem h
      exact ⟨q, by omega, h2⟩
theorem psds_length {d m : Nat} {D : Oper} : ∀ (r : Nat) (ss : List NV), (psds d m D r ss).length = ss.length
  | _, [] => rfl
  | r, s :: ss => by simp [psds, psds_length (r + 1) ss]
theorem psds_get {d m : Nat} {D : Oper} : ∀ (r : Nat) (ss : List NV) (k : Nat), (psds d m D r ss)[k]? = (ss[k]?).map (psd d m D (r + k))
  | _, [], k => by simp [psds]
  | r, s :: ss, 0 => by simp [psds]
  | r, s :: ss, k + 1 => by
    unfold psds
    rw [List.getElem?_cons_succ, List.getElem?_cons_succ, psds_get (r + 1) ss k, show r + 1 + k = r + (k + 1) by omega]

section
variable {P : Program} {N : Nat} {l : List Oper} {d : Nat} {ss : List NV} {D : Oper} {K : List Nat} {T : Tr} {F : Nat → Option Ins}

theorem insH_length (hd : d < l.length) : (insH d ss D l).length = l.length + ss.length := by
  simp [insH, psds_length]; omega
theorem insH_mid (hd : d < l.length) {r : Nat} (hr : r < ss.length) : (insH d ss D l)[d + r]? = (ss[r]?).map (psd d ss.length D r) := by
  unfold insH
  have e1 : (List.map (shO d ss.length []) (List.take d l)).length = d := by simp; omega
  rw [List.getElem?_append_right (by omega), e1, Nat.add_sub_cancel_left, List.getElem?_append_left (by rw [psds_length]; exact hr), psds_get]
  rw [Nat.zero_add]
theorem insH_real (hD : l[d]? = some D) {j : Nat} {o : Oper} (ho : l[j]? = some o) : (insH d ss D l)[phM d ss.length j]? = some (shO d ss.length (if j = d then prevE d ss.length else []) o) := by
  have hd := (List.getElem?_eq_some_iff.1 hD).1
  unfold insH
  have e1 : (List.map (shO d ss.length []) (List.take d l)).length = d := by simp; omega
  rcases Nat.lt_trichotomy j d with h | h | h
  · rw [ph_lt h, if_neg (by omega), List.getElem?_append_left (by omega), List.getElem?_map, List.getElem?_take_of_lt h, ho]; rfl
  · subst h
    rw [hD] at ho; cases ho
    rw [ph_ge (Nat.le_refl _), if_pos rfl, List.getElem?_append_right (by omega), e1, Nat.add_sub_cancel_left, List.getElem?_append_right (by rw [psds_length]; exact Nat.le_refl _), psds_length, Nat.sub_self]; rfl
  · rw [ph_ge (by omega), if_neg (by omega), List.getElem?_append_right (by omega), e1, List.getElem?_append_right (by rw [psds_length]; omega), psds_length, show j + ss.length - d - ss.length = (j - (d + 1)) + 1 by omega,
      List.getElem?_cons_succ, List.getElem?_map, List.getElem?_drop, show d + 1 + (j - (d + 1)) = j by omega, ho]; rfl
theorem insH_back (hD : l[d]? = some D) {j : Nat} {o' : Oper} (ho : (insH d ss D l)[phM d ss.length j]? = some o') : ∃ o, l[j]? = some o ∧ o' = shO d ss.length (if j = d then prevE d ss.length else []) o := by
  have hd := (List.getElem?_eq_some_iff.1 hD).1
  have hlt := (List.getElem?_eq_some_iff.1 ho).1
  rw [insH_length hd] at hlt
  have hj : j < l.length := by
    rcases Nat.lt_or_ge j d with h | h
    · omega
    · rw [ph_ge h] at hlt; omega
  have h1 := insH_real (ss := ss) hD (List.getElem?_eq_getElem hj)
  rw [h1] at ho
  cases ho
  exact ⟨_, List.getElem?_eq_getElem hj, rfl⟩

theorem binds_ground {e e' : Edge} (h : e'.ground = e.ground) : Region.binds .any e' = Region.binds .any e := by
  unfold Region.binds; rw [h]

def SR (d m : Nat) (S : Nat → Prop) (r : Nat) : Nat → Prop := fun k' => (∃ k, k' = phM d m k ∧ S k) ∨ (d ≤ k' ∧ k' < d + r)
theorem SR_real {m : Nat} {S : Nat → Prop} {r j : Nat} (hr : r ≤ m) : SR d m S r (phM d m j) ↔ S j := by
  constructor
  · rintro (⟨k, h1, h2⟩ | ⟨h1, h2⟩)
    · rw [ph_inj h1]; exact h2
    · rcases ph_out (d := d) (m := m) (j := j) with h | h <;> omega
  · exact fun h => .inl ⟨j, rfl, h⟩
theorem SR_mid {m : Nat} {S : Nat → Prop} {r q : Nat} (hq : q < m) : SR d m S r (d + q) ↔ q < r := by
  constructor
  · rintro (⟨k, h1, h2⟩ | ⟨h1, h2⟩)
    · rcases ph_out (d := d) (m := m) (j := k) with h | h <;> omega
    · omega
  · exact fun h => .inr ⟨by omega, by omega⟩
theorem SR_succ {m : Nat} {S : Nat → Prop} {r : Nat} : (fun k => SR d m S r k ∨ k = d + r) = SR d m S (r + 1) := by
  funext k
  apply propext
  unfold SR
  constructor
  · rintro ((h | ⟨h1, h2⟩) | rfl)
    · exact .inl h
    · exact .inr ⟨h1, by omega⟩
    · exact .inr ⟨by omega, by omega⟩
  · rintro (h | ⟨h1, h2⟩)
    · exact .inl (.inl h)
    · by_cases e : k = d + r
      · exact .inr e
      · exact .inl (.inr ⟨h1, by omega⟩)
theorem SR_put {m : Nat} {S : Nat → Prop} {r j : Nat} : (fun k => SR d m S r k ∨ k = phM d m j) = SR d m (fun k => S k ∨ k = j) r := by
  funext k
  apply propext
  unfold SR
  constructor
  · rintro ((⟨q, h1, h2⟩ | h) | rfl)
    · exact .inl ⟨q, h1, .inl h2⟩
    · exact .inr h
    · exact .inl ⟨j, rfl, .inr rfl⟩
  · rintro (⟨q, h1, h2 | rfl⟩ | h)
    · exact .inl (.inl ⟨q, h1, h2⟩)
    · exact .inr h1
    · exact .inl (.inr h)

theorem SR_closed (hD : l[d]? = some D) {S : Nat → Prop} (hS : ClosedS l S) {r : Nat} (hr : r ≤ ss.length) (hm : S d → r = ss.length) (hpre : 0 < r → ∀ e ∈ D.after, Region.binds .any e = true → S e.on) : ClosedS (insH d ss D l) (SR d ss.length S r) := by
  have hd := (List.getElem?_eq_some_iff.1 hD).1
  intro j' o' hj' hs e' he' hb
  rcases hs with ⟨k, rfl, hk⟩ | ⟨h1, h2⟩
  · obtain ⟨o, ho, rfl⟩ := insH_back hD hj'
    have he2 : e' ∈ o.after.toList.map (shE d ss.length) ++ (if k = d then prevE d ss.length else []) := by simpa [shO] using he'
    rcases List.mem_append.1 he2 with h | h
    · obtain ⟨e, he, rfl⟩ := List.mem_map.1 h
      exact (SR_real hr).2 (hS k o ho hk e (by simpa using he) (by rw [← hb]; exact binds_ground rfl))
    · by_cases e : k = d
      · rw [if_pos e] at h
        obtain ⟨q, q1, q2⟩ := prevE_mem h
        rw [q2]
        exact .inr ⟨by omega, by rw [hm (e ▸ hk)]; omega⟩
      · rw [if_neg e] at h; cases h
  · have hq : j' - d < ss.length := by omega
    have e1 := insH_mid (D := D) hd hq
    rw [show d + (j' - d) = j' by omega, hj'] at e1
    obtain ⟨s, hs1, rfl⟩ := Option.map_eq_some_iff.1 e1.symm
    have he2 : e' ∈ D.after.toList.map (shE d ss.length) ++ prevE d (j' - d) := by simpa [psd] using he'
    rcases List.mem_append.1 he2 with h | h
    · obtain ⟨e, he, rfl⟩ := List.mem_map.1 h
      exact (SR_real hr).2 (hpre (by omega) e (by simpa using he) (by rw [← hb]; exact binds_ground rfl))
    · obtain ⟨q, q1, q2⟩ := prevE_mem h
      rw [q2]
      exact .inr ⟨by omega, by omega⟩
theorem comes_mid (hD : l[d]? = some D) {S : Nat → Prop} (hc : Comes l S d D) {r : Nat} {s : NV} (hs : ss[r]? = some s) : Comes (insH d ss D l) (SR d ss.length S r) (d + r) (psd d ss.length D r s) := by
  have hd := (List.getElem?_eq_some_iff.1 hD).1
  have hr : r < ss.length := (List.getElem?_eq_some_iff.1 hs).1
  refine ⟨by rw [insH_mid hd hr, hs]; rfl, fun h => by have := (SR_mid hr).1 h; omega, fun e' he' hb => ?_⟩
  have he2 : e' ∈ D.after.toList.map (shE d ss.length) ++ prevE d r := by simpa [psd] using he'
  rcases List.mem_append.1 he2 with h | h
  · obtain ⟨e, he, rfl⟩ := List.mem_map.1 h
    exact (SR_real (by omega)).2 (hc.pre e (by simpa using he) (by rw [← hb]; exact binds_ground rfl))
  · obtain ⟨q, q1, q2⟩ := prevE_mem h
    rw [q2]
    exact .inr ⟨by omega, by omega⟩
theorem comes_real (hD : l[d]? = some D) {S : Nat → Prop} {j : Nat} {o : Oper} (hc : Comes l S j o) {r : Nat} (hr : r ≤ ss.length) (hm : j = d → r = ss.length) : Comes (insH d ss D l) (SR d ss.length S r) (phM d ss.length j) (shO d ss.length (if j = d then prevE d ss.length else []) o) := by
  refine ⟨insH_real hD hc.at_, fun h => hc.out ((SR_real hr).1 h), fun e' he' hb => ?_⟩
  have he2 : e' ∈ o.after.toList.map (shE d ss.length) ++ (if j = d then prevE d ss.length else []) := by simpa [shO] using he'
  rcases List.mem_append.1 he2 with h | h
  · obtain ⟨e, he, rfl⟩ := List.mem_map.1 h
    exact (SR_real hr).2 (hc.pre e (by simpa using he) (by rw [← hb]; exact binds_ground rfl))
  · by_cases e : j = d
    · rw [if_pos e] at h
      obtain ⟨q, q1, q2⟩ := prevE_mem h
      rw [q2]
      exact .inr ⟨by omega, by rw [hm e]; omega⟩
    · rw [if_neg e] at h; cases h

theorem wanted_sh (hD : l[d]? = some D) (x : List Edge) (o : Oper) (tmps : Array Value) : Region.wanted (shO d ss.length x o) (yielded (insH d ss D l).toArray tmps) = Region.wanted o (yielded l.toArray tmps) := by
  have hd := (List.getElem?_eq_some_iff.1 hD).1
  unfold Region.wanted
  simp only [shO]
  cases o.guard with
  | none => rfl
  | some g =>
    obtain ⟨g, b⟩ := g
    simp only [shG]
    have : yielded (insH d ss D l).toArray tmps (phM d ss.length g) = yielded l.toArray tmps g := by
      unfold yielded
      have e : ((insH d ss D l).toArray[phM d ss.length g]?).bind (·.dst) = (l.toArray[g]?).bind (·.dst) := by
        simp only [List.getElem?_toArray]
        cases hg : l[g]? with
        | some og => rw [insH_real hD hg]; rfl
        | none =>
          have hge : l.length ≤ g := by simpa using hg
          have : (insH d ss D l)[phM d ss.length g]? = none := by
            rw [List.getElem?_eq_none_iff, insH_length hd, ph_ge (by omega)]; omega
          rw [this]
      rw [e]
    rw [this]

structure NVok (P : Program) (l : List Oper) (D : Oper) (K : List Nat) (s : NV) : Prop where
  mem : 40000 + s.x ∈ K
  made : ∃ o, l[s.at_]? = some o ∧ o.op = .alloc s.t ∧ o.dst = some s.x
  edge : ∃ e ∈ D.after, Region.binds .any e = true ∧ e.on = s.at_
  zero : zeroB P s.t = some s.z
  one : s.z.cells.toList.all (·.oneCell') = true
  size : szB P s.t = some s.z.cells.size

theorem inv_mid (hT : IsRun P N (insH d ss D l) K T) (hF : InsFn P (insH d ss D l) K T F) (hO : Ordered P K (insH d ss D l)) (hD : l[d]? = some D) {c0 : Ctx} {S : Nat → Prop} (hS : ClosedS l S) (hc : Comes l S d D) {r : Nat} {s : NV} (hs : ss[r]? = some s) (hok : NVok P l D K s)
    {a : Act} {w : World} (hI : Inv P N (insH d ss D l) K T F c0 (SR d ss.length S r) a w) : Inv P N (insH d ss D l) K T F c0 (SR d ss.length S (r + 1)) a w := by
  have hr : r < ss.length := (List.getElem?_eq_some_iff.1 hs).1
  have hcl := SR_closed (ss := ss) hD hS (r := r) (by omega) (fun h => absurd h hc.out) (fun _ => hc.pre)
  have hcm := comes_mid hD hc hs
  have h := inv_step (Z := fun a' w' => Inv P N (insH d ss D l) K T F c0 (SR d ss.length S (r + 1)) a' w') (Q := fun _ _ _ => False) hT hF hO hcl hI hcm (fun a' w' h => by rw [SR_succ] at h; exact h)
  rw [if_pos (show Region.wanted (psd d ss.length D r s) _ = true from rfl)] at h
  have h1 := h.resolve_right fun ⟨_, _, _, hx⟩ => hx
  obtain ⟨c, m, L, D', _, _, _, hcw, _, _, _, hpd, _, hcp, _, _, _⟩ := hI
  obtain ⟨ao, hao, haop, hadst⟩ := hok.made
  have hreal := insH_real (ss := ss) hD hao
  have hal : alT K (shO d ss.length (if s.at_ = d then prevE d ss.length else []) ao) = some s.x := by
    unfold alT
    simp only [shO, haop, hadst]
    rw [flD_iff.2 hok.mem]; rfl
  have hab : abT K (psd d ss.length D r s) = some s.x := by
    unfold abT
    simp only [psd]
    rw [flD_iff.2 hok.mem]; rfl
  obtain ⟨e, he, hb, hon⟩ := hok.edge
  have hSa : SR d ss.length S r (phM d ss.length s.at_) := (SR_real (by omega)).2 (hon ▸ hc.pre e he hb)
  obtain ⟨i1, u1, a1, b1, t1, y1, hlt, e1, e2, e3, e4, _, _, _, e5, e6, e7⟩ := (hO.float _ hok.mem).ex
  obtain ⟨blk, hmem⟩ : ∃ b, (s.x, b) ∈ L := by
    rcases hcp _ _ s.x hreal hal hSa with hh | ⟨u, o', hu, hab', hsu⟩
    · exact hh
    · exfalso
      have hu1 : d + r = u1 := by
        rcases e7 (d + r) _ hcm.at_ (ab_op hab).2.2 with hh | hh
        · have := hcm.at_
          rw [hh, e1] at this
          cases this
          cases e3
        · exact hh
      rcases e7 u o' hu (ab_op hab').2.2 with rfl | rfl
      · rw [e1] at hu; cases hu; rw [(al_op e5).2.2.2.2] at hab'; cases hab'
      · exact hcm.out (hu1 ▸ hsu)
  have hp := hpd _ hmem
  obtain ⟨vals, t', r1, r2, r3, r4⟩ := hp.row
  have ht' : t' = s.t := by
    have q1 := r4 _ _ hreal hal
    rw [show (shO d ss.length (if s.at_ = d then prevE d ss.length else []) ao).op = ao.op from rfl, haop] at q1
    cases q1; rfl
  subst ht'
  simp only at r1
  have hv := r3 _ hok.zero
  subst hv
  rw [hcw] at r1
  have hsl : a.eval (.tmp s.x) = .pointer (some ⟨blk, 0, none⟩) := hp.slot
  have hone : ∀ v ∈ s.z.cells.toList, v.oneCell' = true := fun v hv => List.all_eq_true.1 hok.one v hv
  have hst := run_storeCells_at P blk 0 s.t s.z.cells.toList 0 s.z.cells w r1 (by simp) hone
  have hnew : (s.z.cells.toList.take 0 ++ s.z.cells.toList ++ s.z.cells.toList.drop (0 + s.z.cells.size)).toArray = s.z.cells := by
    rw [List.drop_eq_nil_of_le (by simp)]
    simp
  have hself : w.setRow blk s.z.cells = w := setRow_self w _ _ s.t (0, 0) r1
  have hrun : (execOp a.eval (psd d ss.length D r s)).run P w = .ok .skip w := by
    simp only [Nat.add_zero, Array.length_toList] at hst
    rw [hnew, hself] at hst
    simp [execOp, psd, hsl, show a.eval (.const s.z) = s.z from rfl, Instr.storeAt, Instr.sureAddr, storeVar, run_sizeOf hok.size, hst]
  unfold Oper.wp at h1
  rw [hrun] at h1
  exact h1
theorem inv_mids (hT : IsRun P N (insH d ss D l) K T) (hF : InsFn P (insH d ss D l) K T F) (hO : Ordered P K (insH d ss D l)) (hD : l[d]? = some D) {c0 : Ctx} {S : Nat → Prop} (hS : ClosedS l S) (hc : Comes l S d D) (hok : ∀ s ∈ ss, NVok P l D K s)
    {a : Act} {w : World} (hI : Inv P N (insH d ss D l) K T F c0 (SR d ss.length S 0) a w) : ∀ r, r ≤ ss.length → Inv P N (insH d ss D l) K T F c0 (SR d ss.length S r) a w
  | 0, _ => hI
  | r + 1, hr => by
    have hlt : r < ss.length := hr
    exact inv_mid hT hF hO hD hS hc (List.getElem?_eq_getElem hlt) (hok _ (List.getElem_mem hlt)) (inv_mids hT hF hO hD hS hc hok hI r (by omega))

theorem wpAny_of_ins (hT : IsRun P N (insH d ss D l) K T) (hF : InsFn P (insH d ss D l) K T F) (hO : Ordered P K (insH d ss D l)) (hD : l[d]? = some D) (hok : ∀ s ∈ ss, NVok P l D K s) {c0 : Ctx} {Q : Exit → Act → World → Prop}
    (hQ : ∀ a w, (∃ c, c.w = w ∧ Rel P c (T.H (insH d ss D l).length) ∧ Evo c0 c ∧ ER c N (T.E (insH d ss D l).length) a) → Q .normal a w) :
    ∀ (fuel : Nat) (listed : Array Bool) (a : Act) (w : World) (r : Nat), listed.size = l.length → Pure.left listed l.length ≤ fuel → ClosedS l (lst listed) → (lst listed d ∧ r = ss.length ∨ ¬ lst listed d ∧ r = 0) → Inv P N (insH d ss D l) K T F c0 (SR d ss.length (lst listed) r) a w → wpAny P .any l.toArray Q fuel listed a w := by
  have hd := (List.getElem?_eq_some_iff.1 hD).1
  have fin : ∀ (listed : Array Bool) (a : Act) (w : World) (r : Nat), listed.size = l.length → (lst listed d ∧ r = ss.length ∨ ¬ lst listed d ∧ r = 0) → Inv P N (insH d ss D l) K T F c0 (SR d ss.length (lst listed) r) a w → (∀ i, i < l.length → lst listed i) → Q .normal a w := by
    intro listed a w r hsz hr hI hall
    have hr' : r = ss.length := by rcases hr with ⟨_, h⟩ | ⟨h, _⟩; exact h; exact absurd (hall d hd) h
    subst hr'
    refine hQ a w (inv_end hT hF hO (fun i hi => ?_) (fun i hi => ?_) hI)
    · rw [insH_length hd]
      rcases hi with ⟨k, rfl, hk⟩ | ⟨h1, h2⟩
      · have := lst_lt hk
        rcases Nat.lt_or_ge k d with h | h
        · rw [ph_lt h]; omega
        · rw [ph_ge h]; omega
      · omega
    · rw [insH_length hd] at hi
      rcases ph_cover d ss.length i with h | ⟨j, rfl⟩
      · exact .inr h
      · refine .inl ⟨j, rfl, hall j ?_⟩
        rcases Nat.lt_or_ge j d with h | h
        · omega
        · rw [ph_ge h] at hi; omega
  intro fuel
  induction fuel with
  | zero =>
    intro listed a w r hsz hf hS hr hI
    have hall : ∀ i, i < l.length → lst listed i := by
      intro i hi
      refine Classical.byContradiction fun hn => ?_
      have hmem : i ∈ (List.range l.length).filter fun i => !listed.getD i false := by
        simp only [List.mem_filter, List.mem_range]
        exact ⟨hi, by simpa [lst] using hn⟩
      have h0 : (List.range l.length).filter (fun i => !listed.getD i false) = [] := List.eq_nil_of_length_eq_zero (by unfold Pure.left at hf; omega)
      rw [h0] at hmem
      cases hmem
    refine ⟨?_, fin listed a w r hsz hr hI hall⟩
    refine List.eq_nil_iff_forall_not_mem.2 fun i hi => ?_
    obtain ⟨o, hc⟩ := mem_ready' hsz hi
    exact hc.out (hall i (List.getElem?_eq_some_iff.1 hc.at_).1)
  | succ fuel ih =>
    intro listed a w r hsz hf hS hr hI
    have hback : ∀ (k : Nat) (y : Oper), l[k]? = some y → ∀ e ∈ y.after, Region.binds .any e = true → e.on < k := by
      intro k y hy e he hb
      have h1 := hO.back _ _ (insH_real (ss := ss) hD hy) (shE d ss.length e) (by simp only [shO]; rw [List.mem_toArray]; exact List.mem_append_left _ (List.mem_map.2 ⟨e, by simpa using he, rfl⟩)) (by rw [← hb]; exact binds_ground rfl)
      simp only [shE] at h1
      rcases Nat.lt_or_ge e.on d with q1 | q1 <;> rcases Nat.lt_or_ge k d with q2 | q2 <;> simp only [ph_lt, ph_ge, *] at h1 <;> omega
    have ready_all : Region.ready .any l.toArray listed = [] → ∀ i, i < l.length → lst listed i := by
      intro h0 i
      induction i using Nat.strongRecOn with
      | _ i ih =>
        intro hi
        refine Classical.byContradiction fun hn => ?_
        have hc : Comes l (lst listed) i l[i] := ⟨List.getElem?_eq_getElem hi, hn, fun e he hb => by
          have := hback i _ (List.getElem?_eq_getElem hi) e he hb
          exact ih e.on this (by omega)⟩
        have : i ∈ Region.ready .any l.toArray listed := by
          unfold Region.ready
          rw [List.mem_filter]
          refine ⟨by simpa using hi, ?_⟩
          simp only [Bool.and_eq_true]
          refine ⟨?_, ?_⟩
          · have hn := hc.out
            simp only [lst, Array.getD_eq_getD_getElem?] at hn ⊢
            rw [Array.getElem?_eq_getElem (by omega)] at hn ⊢
            simpa using hn
          · have e0 : (l.toArray)[i]? = some l[i] := by simp
            rw [e0]
            simp only [Option.map_some, Option.getD_some]
            refine Array.all_eq_true_iff_forall_mem.2 fun e he => ?_
            cases hb : Region.binds .any e with
            | false => simp
            | true => have := hc.pre e he hb
                      simp only [lst] at this
                      simp [this]
        rw [h0] at this
        cases this
    refine ⟨fun h0 => fin listed a w r hsz hr hI (ready_all h0), fun j hj => ?_⟩
    obtain ⟨o, hc⟩ := mem_ready' hsz hj
    have hlt := (List.getElem?_eq_some_iff.1 hc.at_).1
    have hop : (l.toArray)[j]? = some o := by simpa using hc.at_
    have hset : lst (listed.setIfInBounds j true) = fun k => lst listed k ∨ k = j := funext fun k => propext (lst_set (by omega))
    have hleft : Pure.left (listed.setIfInBounds j true) l.length ≤ fuel := by
      have := left_set (n := l.length) (by omega : j < listed.size) hlt hc.out
      omega
    have hcl' : ClosedS l (lst (listed.setIfInBounds j true)) := by
      rw [hset]
      intro k y hy hk e he hb
      rcases hk with hk | rfl
      · exact .inl (hS k y hy hk e he hb)
      · rw [hc.at_] at hy
        cases hy
        exact .inl (hc.pre e he hb)
    -- the place behind the stores
    obtain ⟨r', hr1, hr2, hr3, hI', hcl⟩ : ∃ r', r' ≤ ss.length ∧ (j = d → r' = ss.length) ∧ (lst (listed.setIfInBounds j true) d ∧ r' = ss.length ∨ ¬ lst (listed.setIfInBounds j true) d ∧ r' = 0) ∧ Inv P N (insH d ss D l) K T F c0 (SR d ss.length (lst listed) r') a w ∧ ClosedS (insH d ss D l) (SR d ss.length (lst listed) r') := by
      by_cases e : j = d
      · subst e
        have hD' : o = D := Option.some.inj (hc.at_.symm.trans hD)
        subst hD'
        have h0 : r = 0 := by rcases hr with ⟨h, _⟩ | ⟨_, h⟩; exact absurd h hc.out; exact h
        subst h0
        exact ⟨ss.length, Nat.le_refl _, fun _ => rfl, .inl ⟨by rw [hset]; exact .inr rfl, rfl⟩, inv_mids hT hF hO hD hS hc hok hI _ (Nat.le_refl _), SR_closed hD hS (Nat.le_refl _) (fun _ => rfl) (fun _ => hc.pre)⟩
      · have hdd : lst (listed.setIfInBounds j true) d ↔ lst listed d := by
          rw [hset]; exact ⟨fun h => h.elim id fun h => absurd h.symm e, .inl⟩
        rcases hr with ⟨h, rfl⟩ | ⟨h, rfl⟩
        · exact ⟨_, Nat.le_refl _, fun h => absurd h e, .inl ⟨hdd.2 h, rfl⟩, hI, SR_closed hD hS (Nat.le_refl _) (fun _ => rfl) (fun _ e he hb => hS d D hD h e he hb)⟩
        · exact ⟨0, Nat.zero_le _, fun h => absurd h e, .inr ⟨fun h' => h (hdd.1 h'), rfl⟩, hI, SR_closed hD hS (Nat.zero_le _) (fun h' => absurd h' h) (fun h' => absurd h' (by omega))⟩
    have hstep := inv_step (Q := Q) hT hF hO hcl hI' (comes_real hD hc hr1 hr2) (Z := wpAny P .any l.toArray Q fuel (listed.setIfInBounds j true)) (by
      intro a' w' hI2
      rw [SR_put, ← hset] at hI2
      exact ih _ a' w' r' (by simpa using hsz) hleft hcl' hr3 hI2)
    rw [wanted_sh hD] at hstep
    unfold wpOp
    rw [hop]
    exact hstep
end
end Go.Pure


/- A generic layer: regions that draw their order, with new variables to which nothing is stored there: the rule. -/
namespace Go.Pure
open Go

def storesTo (x : Tmp) : List Oper → Bool
  | [] => false
  | o :: r => match o.op with | .store _ (.tmp y) _ => bif Nat.beq x y then true else storesTo x r | _ => storesTo x r
def bareNV (fz : Nat → Option Value) (fs : Nat → Option Nat) (all : List Oper) : List Oper → Nat → Option (List NV)
  | [], _ => some []
  | o :: r, i => match bareNV fz fs all r (i + 1) with
    | none => none
    | some l => match o.op with
      | .alloc t => match o.dst with
        | some x => bif storesTo x all then some l else match fz t with
          | some z => match fs t with
            | some n => bif z.cells.toList.all (·.oneCell') && Nat.beq n z.cells.size then some (⟨i, t, x, z⟩ :: l) else none
            | none => none
          | none => none
        | none => some l
      | _ => some l
def hasE (i : Nat) : List Edge → Bool
  | [] => false
  | e :: r => bif Nat.beq e.on i && Region.binds .any e then true else hasE i r
def takerOf (i : Nat) : List Oper → Nat → Option (Nat × Oper)
  | [], _ => none
  | o :: r, k => bif hasE i o.after.toList then some (k, o) else takerOf i r (k + 1)
def insB (fz : Nat → Option Value) (fs : Nat → Option Nat) (l : List Oper) : Option (Nat × List NV × Oper) := match bareNV fz fs l l 0 with
  | some (s :: ss) => match takerOf s.at_ l 0 with
    | some (d, D) => bif (s :: ss).all (fun s => hasE s.at_ D.after.toList) then some (d, s :: ss, D) else none
    | none => none
  | _ => none
def memK (K : List Nat) : List NV → Bool
  | [] => true
  | s :: r => memB K (40000 + s.x) && memK K r

theorem hasE_ok {i : Nat} : ∀ {l : List Edge}, hasE i l = true → ∃ e ∈ l, Region.binds .any e = true ∧ e.on = i
  | [], h => by cases h
  | e :: r, h => by
    unfold hasE at h
    cases hb : (Nat.beq e.on i && Region.binds .any e) with
    | true =>
      rw [Bool.and_eq_true] at hb
      exact ⟨e, List.mem_cons_self, hb.2, Nat.eq_of_beq_eq_true hb.1⟩
    | false =>
      rw [hb, cond_false] at h
      obtain ⟨e', h1, h2⟩ := hasE_ok h
      exact ⟨e', List.mem_cons_of_mem _ h1, h2⟩
theorem takerOf_ok {i : Nat} {all : List Oper} {d : Nat} {D : Oper} : ∀ {l : List Oper} {j : Nat}, (∀ k, l[k]? = all[j + k]?) → takerOf i l j = some (d, D) → all[d]? = some D
  | [], _, _, h => by cases h
  | o :: r, j, hl, h => by
    unfold takerOf at h
    cases hb : hasE i o.after.toList with
    | true =>
      rw [hb, cond_true] at h
      cases h
      have := hl 0
      simpa using this.symm
    | false =>
      rw [hb, cond_false] at h
      exact takerOf_ok (fun k => by have := hl (k + 1); rw [List.getElem?_cons_succ] at this; rw [this, show j + (k + 1) = j + 1 + k by omega]) h
theorem bareNV_ok {fz : Nat → Option Value} {fs : Nat → Option Nat} {all : List Oper} : ∀ {l : List Oper} {i : Nat} {ss : List NV}, (∀ k, l[k]? = all[i + k]?) → bareNV fz fs all l i = some ss →
    ∀ s ∈ ss, (∃ o, all[s.at_]? = some o ∧ o.op = .alloc s.t ∧ o.dst = some s.x) ∧ fz s.t = some s.z ∧ s.z.cells.toList.all (·.oneCell') = true ∧ fs s.t = some s.z.cells.size
  | [], _, ss, _, h, s, hs => by
    unfold bareNV at h
    cases h; cases hs
  | o :: r, i, ss, hl, h, s, hs => by
    have hr : ∀ k, r[k]? = all[i + 1 + k]? := fun k => by have := hl (k + 1); rw [List.getElem?_cons_succ] at this; rw [this, show i + (k + 1) = i + 1 + k by omega]
    have h0 : all[i]? = some o := by have := hl 0; simpa using this.symm
    unfold bareNV at h
    split at h
    · cases h
    · rename_i l hrec
      have ih := bareNV_ok hr hrec
      split at h
      · rename_i t hop
        split at h
        · rename_i x hx
          cases hb : storesTo x all with
          | true => rw [hb, cond_true] at h; cases h; exact ih s hs
          | false =>
            rw [hb, cond_false] at h
            split at h
            · rename_i z hz
              split at h
              · rename_i n hn
                cases hc : (z.cells.toList.all (·.oneCell') && Nat.beq n z.cells.size) with
                | false => rw [hc] at h; cases h
                | true =>
                  rw [hc, cond_true] at h
                  cases h
                  rw [Bool.and_eq_true] at hc
                  rcases List.mem_cons.1 hs with rfl | hs
                  · exact ⟨⟨o, h0, hop, hx⟩, hz, hc.1, by rw [hn, Nat.eq_of_beq_eq_true hc.2]⟩
                  · exact ih s hs
              · cases h
            · cases h
        · cases h; exact ih s hs
      · cases h; exact ih s hs
theorem memK_ok {K : List Nat} : ∀ {ss : List NV}, memK K ss = true → ∀ s ∈ ss, 40000 + s.x ∈ K
  | [], _, s, h => by cases h
  | a :: r, h, s, hs => by
    unfold memK at h
    rw [Bool.and_eq_true] at h
    rcases List.mem_cons.1 hs with rfl | hs
    · exact memB_iff.1 h.1
    · exact memK_ok h.2 s hs

def nrmE : List Edge → Option (List Edge)
  | [] => some []
  | e :: r => match litO e.on with
    | some n => match nrmE r with | some r' => some (⟨n, e.ground⟩ :: r') | none => none
    | none => none
def nrmG : Option (Nat × Bool) → Option (Option (Nat × Bool))
  | none => some none
  | some (g, b) => match litO g with | some n => some (some (n, b)) | none => none
def nrmL : List Oper → Option (List Oper)
  | [] => some []
  | ⟨d, op, ty, pos, aft, gg⟩ :: r => match nrmE aft.toList with
    | some a => match nrmG gg with
      | some g => match nrmL r with | some r' => some (⟨d, op, ty, pos, a.toArray, g⟩ :: r') | none => none
      | none => none
    | none => none
theorem nrmE_eq : ∀ l : List Edge, nrmE l = some l
  | [] => rfl
  | e :: r => by simp [nrmE, litO_eq, nrmE_eq r]
theorem nrmG_eq (g : Option (Nat × Bool)) : nrmG g = some g := by
  cases g with
  | none => rfl
  | some p => obtain ⟨g, b⟩ := p; simp [nrmG, litO_eq]
theorem nrmL_eq : ∀ l : List Oper, nrmL l = some l
  | [] => rfl
  | ⟨d, op, ty, pos, aft, gg⟩ :: r => by simp [nrmL, nrmE_eq, nrmG_eq, nrmL_eq r]

section
variable {P : Program} {N : Nat}
theorem insB_ok {fz : Nat → Option Value} {fs : Nat → Option Nat} (hz : ∀ t z, fz t = some z → zeroB P t = some z) (hs : ∀ t n, fs t = some n → szB P t = some n) {K : List Nat} {l : List Oper} {d : Nat} {ss : List NV} {D : Oper} (h : insB fz fs l = some (d, ss, D)) (hk : memK K ss = true) :
    l[d]? = some D ∧ ∀ s ∈ ss, NVok P l D K s := by
  unfold insB at h
  split at h
  · rename_i s0 ss0 hb
    split at h
    · rename_i d0 D0 ht
      cases hc : ((s0 :: ss0).all fun s => hasE s.at_ D0.after.toList) with
      | false => rw [hc] at h; cases h
      | true =>
        rw [hc, cond_true] at h
        cases h
        refine ⟨takerOf_ok (fun k => by rw [Nat.zero_add]) ht, fun s hs' => ?_⟩
        obtain ⟨h1, h2, h3, h4⟩ := bareNV_ok (fun k => by rw [Nat.zero_add]) hb s hs'
        obtain ⟨e, e1, e2, e3⟩ := hasE_ok (List.all_eq_true.1 hc s hs')
        exact ⟨memK_ok hk s hs', h1, ⟨e, by simpa using e1, e2, e3⟩, hz _ _ h2, h3, hs _ _ h4⟩
    · cases h
  · cases h

theorem PW_draw_ins {id : Nat} {l : List Oper} {Q : Exit → Env → PH → Prop} {env : Env} {H : PH} {d : Nat} {ss : List NV} {D : Oper} (K : List Nat) (hD : l[d]? = some D) (hok : ∀ s ∈ ss, NVok P l D K s)
    (hm : P.follows .mixedOrders = true) (hd : drawB P K (insH d ss D l) = true) (h : POpsD P N (insH d ss D l).toArray K (fun env H => Q .normal env H) (insH d ss D l) env H) :
    PW P N (.region id l.toArray true) Q env H := by
  obtain ⟨T, e1, e2, e3, e4⟩ := run_of (insH d ss D l) 0 env H (by simp) h
  have hT : IsRun P N (insH d ss D l) K T := ⟨fun i o ho => (e4 i o (Nat.zero_le _) ho).1, fun i o ho => (e4 i o (Nat.zero_le _) ho).2.1, fun i o ho => (e4 i o (Nat.zero_le _) ho).2.2⟩
  have hO := ordered_of hd
  obtain ⟨F, hF⟩ := insFn_ex P (insH d ss D l) K T
  intro c a hr he
  refine wp_region_any hm ?_
  have hg := hr.grow (Ext.drew c.w)
  have none : ∀ i, ¬ lst (Array.replicate l.toArray.size false) i := by
    intro i h
    simp only [lst, Array.getD_eq_getD_getElem?] at h
    by_cases hi : i < l.length <;> simp [hi] at h
  have none' : ∀ i, ¬ SR d ss.length (lst (Array.replicate l.toArray.size false)) 0 i := by
    rintro i (⟨k, _, hk⟩ | ⟨h1, h2⟩)
    · exact none k hk
    · omega
  refine wpAny_of_ins (c0 := c) hT hF hO hD hok ?_ _ _ a _ 0 (by simp) ?_ (fun j o _ hj => absurd hj (none j)) (.inr ⟨none d, rfl⟩) ?_
  · rintro a' w' ⟨c', rfl, hr', hE, he'⟩
    simp only [Nat.zero_add] at e3
    exact ⟨c', _, _, e3, rfl, hr', hE, he'⟩
  · unfold Pure.left
    refine Nat.le_trans (List.length_filter_le _ _) (by simp)
  · refine ⟨⟨c.σ, c.τ, c.μ, c.hid, c.w.drew⟩, 0, [], [], Nat.zero_le _, fun j o hj _ _ => ⟨fun h => absurd h (none' j), fun h => by omega⟩, ⟨fun j o _ _ h => by omega, List.nodup_nil, fun j => ⟨fun h => (by cases h), fun h => absurd h.2.1 (none' j)⟩⟩, rfl, by rw [List.filterMap_nil, addAll_nil]; exact e2 ▸ hg.1, (hidL_nil _).symm, hg.2, by simp, by simp, fun j o d _ _ hj => absurd hj (none' j), he.defers, he.size, fun t => .inr ⟨fun i o _ hs => absurd hs (none' i), ?_⟩⟩
    rw [e1]
    exact (he.slot t).mono hg.2
theorem PW_ins_all {id : Nat} {l l' : List Oper} {Q : Exit → Env → PH → Prop} {env : Env} {H : PH} {fz : Nat → Option Value} {fs : Nat → Option Nat} (hz : ∀ t z, fz t = some z → zeroB P t = some z) (hs : ∀ t n, fs t = some n → szB P t = some n) {K0 K : List Nat} {d : Nat} {ss : List NV} {D : Oper} (calls : Bool)
    (hb : insB fz fs l = some (d, ss, D)) (hl : nrmL (insH d ss D l) = some l') (_h0 : upTo H.bx lits = some K0) (_ha : autoK l' env (isNil H.mu) calls true K0 = some K) (hk : memK K ss = true) (hm : P.follows .mixedOrders = true)
    (h : POpsD P N l'.toArray K (fun env H => Q .normal env H) l' env H) (hd : drawB P K l' = true := by decide +kernel) : PW P N (.region id l.toArray true) Q env H := by
  rw [nrmL_eq] at hl
  cases hl
  obtain ⟨h1, h2⟩ := insB_ok hz hs hb hk
  exact PW_draw_ins K h1 h2 hm hd h
end
end Go.Pure

