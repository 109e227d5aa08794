/- A generic layer: values without memory, and code over them. -/
import Derived.Test.YtdicineiaifahaaGreatDoorPureC
import Derived.Lib.LaidIn
import Derived.Lib.UnsafeStr
/- A generic layer: interface values (made, called, held against nil and against each other); going over a text rune by rune. -/
namespace Go.Pure
open Go

section
variable {P : Program} {o : Oper} {ρ : Operand → PV} {H H' : PH}

/-! Interface values, held against each other -/
def NilI (p : PV) (r : Bool) : Prop := (p = .g (.raw .nilIface) ∧ r = true) ∨ (r = false ∧ ((∃ t q, p = .ifc t q) ∨ ∃ g off, p = .kv g off ∧ ∀ β, gok β → ∃ t u, lkG (gfacts β) g off = some (.iface t u)))
theorem NilI.nil : NilI (.g (.raw .nilIface)) true := .inl ⟨rfl, rfl⟩
theorem NilI.ifc (t : TypeId) (q : PV) : NilI (.ifc t q) false := .inr ⟨rfl, .inl ⟨t, q, rfl⟩⟩
theorem NilI.kv {g off : Nat} (h : ∀ β, gok β → ∃ t u, lkG (gfacts β) g off = some (.iface t u)) : NilI (.kv g off) false := .inr ⟨rfl, .inr ⟨g, off, rfl, h⟩⟩
theorem kv_val {c : Ctx} (hg : GL c) {g off : Nat} {v : Value} (h : RV c (.kv g off) v) : ∃ β, gok β ∧ ∀ u, lkG (gfacts β) g off = some u → v = u := by
  obtain ⟨⟨β, hk, gl⟩, _⟩ := hg
  refine ⟨β, hk, fun u hu => ?_⟩
  obtain ⟨vs, hm, hvs⟩ := lkG_mem hu
  have hc := (gl _ hm off u hvs).1
  cases h with
  | kv _ _ _ h hs h1 => rw [hc] at h; cases h; rfl
theorem NilI.ok {c : Ctx} {p : PV} {v : Value} {r : Bool} (hg : GL c) (h : RV c p v) (hr : NilI p r) : (r = true ∧ v = .nilIface) ∨ (r = false ∧ ∃ t u, v = .iface t u) := by
  rcases hr with ⟨rfl, rfl⟩ | ⟨rfl, ⟨t, q, rfl⟩ | ⟨g, off, rfl, hf⟩⟩
  · exact .inl ⟨rfl, RV_raw h⟩
  · cases h with
    | ifc t p v h => exact .inr ⟨rfl, _, _, rfl⟩
  · obtain ⟨β, hk, hb⟩ := kv_val hg h
    obtain ⟨t, u, hu⟩ := hf β hk
    exact .inr ⟨rfl, t, u, hb _ hu⟩
/-! Going over a text -/
end
end Go.Pure


/- A generic layer: of what a function leaves behind some boxes and arrays are kept, and numbered anew. -/
namespace Go.Pure
open Go

theorem Rel.sel {P : Program} {c : Ctx} {H H0 : PH} (hr : Rel P c H) {I J L : List Nat} (hI : I.Nodup) (hJ : J.Nodup) (hL : L.Nodup) (hIl : H0.bx.length = I.length)
    (hI' : ∀ (j i : Nat), I[j]? = some i → ∃ cs, H.bx[i]? = some cs ∧ H0.bx[j]? = some (renL (posOf I) (posOf J) (posOf L) cs))
    (hJl : H0.tk.length = J.length) (hJ' : ∀ (j i : Nat), J[j]? = some i → ∃ x, H.tk[i]? = some x ∧ H0.tk[j]? = some x)
    (hLl : H0.mu.length = L.length) (hL' : ∀ (j i : Nat), L[j]? = some i → ∃ x, H.mu[i]? = some x ∧ H0.mu[j]? = some x) :
    ∃ c0 : Ctx, c0.w = c.w ∧ c0.hid = c.hid ∧ Rel P c0 H0 ∧ (∀ p v, RV c p v → RV c0 (ren (posOf I) (posOf J) (posOf L) p) v) ∧ (∀ b p, c.stab b p → c0.stab b p) ∧
      c0.σ.length = I.length ∧ (∀ (j i : Nat), I[j]? = some i → c0.σ[j]? = c.σ[i]?) ∧ (∀ (j i : Nat), J[j]? = some i → c0.τ[j]? = c.τ[i]?) ∧ (∀ (j i : Nat), L[j]? = some i → c0.μ[j]? = c.μ[i]?) ∧ (∀ t ∈ c0.τ, t ∈ c.τ) ∧ (∀ t ∈ c0.μ, t ∈ c.μ) ∧ ∀ b ∈ c0.σ, b ∈ c.σ := by
  have hIb : ∀ i ∈ I, i < c.σ.length := fun i hi => by
    obtain ⟨j, hj⟩ := List.getElem?_of_mem hi
    obtain ⟨cs, h1, _⟩ := hI' j i hj
    rw [hr.len]; exact (List.getElem?_eq_some_iff.1 h1).1
  have htl : c.τ.length = H.tk.length := by rw [← hr.tk]; simp
  have hJb : ∀ i ∈ J, i < c.τ.length := fun i hi => by
    obtain ⟨j, hj⟩ := List.getElem?_of_mem hi
    obtain ⟨x, h1, _⟩ := hJ' j i hj
    rw [htl]; exact (List.getElem?_eq_some_iff.1 h1).1
  have hml : c.μ.length = H.mu.length := hr.mlen
  have hLb : ∀ i ∈ L, i < c.μ.length := fun i hi => by
    obtain ⟨j, hj⟩ := List.getElem?_of_mem hi
    obtain ⟨x, h1, _⟩ := hL' j i hj
    rw [hml]; exact (List.getElem?_eq_some_iff.1 h1).1
  generalize hμ0 : L.map (c.μ[·]!) = μ0
  have gμ : ∀ (j i : Nat), L[j]? = some i → μ0[j]? = c.μ[i]? := fun j i hj => hμ0 ▸ getElem_of_list hLb j i hj
  have lμ : μ0.length = L.length := by rw [← hμ0]; simp
  have mμ : ∀ t ∈ μ0, t ∈ c.μ := fun b hb => by
    obtain ⟨j, hj⟩ := List.getElem?_of_mem hb
    have hlt : j < L.length := by rw [← lμ]; exact (List.getElem?_eq_some_iff.1 hj).1
    rw [gμ j L[j] (List.getElem?_eq_getElem hlt)] at hj
    exact List.mem_of_getElem? hj
  have minj : ∀ t ∈ c.μ, ∀ t' ∈ c.μ, t.live = true → t'.live = true → t.g = t'.g → t = t' := by
    intro t ht t' ht' lv lv' e
    obtain ⟨i, hi⟩ := List.getElem?_of_mem ht
    obtain ⟨j, hj⟩ := List.getElem?_of_mem ht'
    have hij : i = j := hr.md i j t t' hi hj lv lv' e
    subst hij
    rw [hi] at hj
    exact Option.some.inj hj
  generalize hσ0 : I.map (c.σ[·]!) = σ0
  generalize hτ0 : J.map (c.τ[·]!) = τ0
  have gσ : ∀ (j i : Nat), I[j]? = some i → σ0[j]? = c.σ[i]? := fun j i hj => hσ0 ▸ getElem_of_list hIb j i hj
  have gτ : ∀ (j i : Nat), J[j]? = some i → τ0[j]? = c.τ[i]? := fun j i hj => hτ0 ▸ getElem_of_list hJb j i hj
  have lσ : σ0.length = I.length := by rw [← hσ0]; simp
  have lτ : τ0.length = J.length := by rw [← hτ0]; simp
  have mσ : ∀ b ∈ σ0, b ∈ c.σ := fun b hb => by
    obtain ⟨j, hj⟩ := List.getElem?_of_mem hb
    have hlt : j < I.length := by rw [← lσ]; exact (List.getElem?_eq_some_iff.1 hj).1
    rw [gσ j I[j] (List.getElem?_eq_getElem hlt)] at hj
    exact List.mem_of_getElem? hj
  have mτ : ∀ t ∈ τ0, t ∈ c.τ := fun b hb => by
    obtain ⟨j, hj⟩ := List.getElem?_of_mem hb
    have hlt : j < J.length := by rw [← lτ]; exact (List.getElem?_eq_some_iff.1 hj).1
    rw [gτ j J[j] (List.getElem?_eq_getElem hlt)] at hj
    exact List.mem_of_getElem? hj
  have tinj : ∀ t ∈ c.τ, ∀ t' ∈ c.τ, t.live = true → t'.live = true → t.g = t'.g → t = t' := by
    intro t ht t' ht' lv lv' e
    obtain ⟨i, hi⟩ := List.getElem?_of_mem ht
    obtain ⟨j, hj⟩ := List.getElem?_of_mem ht'
    have hij : i = j := hr.td i j t t' hi hj lv lv' e
    subst hij
    rw [hi] at hj
    exact Option.some.inj hj
  generalize hc0 : (⟨σ0, τ0, μ0, c.hid, c.w⟩ : Ctx) = c0
  have s0 : c0.σ = σ0 := by rw [← hc0]
  have t0 : c0.τ = τ0 := by rw [← hc0]
  have m0 : c0.μ = μ0 := by rw [← hc0]
  have w0 : c0.w = c.w := by rw [← hc0]
  have h0 : c0.hid = c.hid := by rw [← hc0]
  have st0 : ∀ b p, c.stab b p → c0.stab b p := by
    rintro b p ⟨q1, q2, q3, q4⟩
    exact ⟨by rw [h0]; exact q1, fun hb => q2 (mσ b (s0 ▸ hb)), fun t ht lv => q3 t (mτ t (t0 ▸ ht)) lv, fun t ht lv => q4 t (mμ t (m0 ▸ ht)) lv⟩
  have rv0 : ∀ p v, RV c p v → RV c0 (ren (posOf I) (posOf J) (posOf L) p) v := fun p v h => RV_ren w0 st0
    (fun b b' blk e hb => by rw [s0, gσ b' b (posOf_some e)]; exact hb) (fun i i' t e ht => by rw [t0, gτ i' i (posOf_some e)]; exact ht) (fun i i' t e ht => by rw [m0, gμ i' i (posOf_some e)]; exact ht) h
  have mok0 : ∀ t o, MOk P c t o → MOk P c0 t o := by
    intro t o h
    have hg : ∀ g v, RG c.w c.stab g v → RG c0.w c0.stab g v := fun g v h => h.mono fun a u _ hs hc => ⟨by rw [w0]; exact hc, st0 _ _ hs⟩
    cases o with
    | gone n => exact h
    | arr n e es =>
      obtain ⟨a1, a2, a3, a4⟩ := h
      refine ⟨a1, a2, a3, a4.imp id ?_⟩
      rintro ⟨lv, cur, b1, b2, b3, b4, b5, b6⟩
      exact ⟨lv, cur, by rw [w0]; exact b1, b2, b3, b4, b5, fun i x j g v hx hg' hv => ⟨hg _ _ (b6 i x j g v hx hg' hv).1, (b6 i x j g v hx hg' hv).2⟩⟩
    | map es =>
      obtain ⟨a1, lv, ents, es', hp, b1, b2, b3⟩ := h
      exact ⟨a1, lv, ents, es', hp, by rw [w0]; exact b1, b2, fun i k v n hk hn => ⟨hg _ _ (b3 i k v n hk hn).1, hg _ _ (b3 i k v n hk hn).2.1, (b3 i k v n hk hn).2.2⟩⟩
    | iter n s pos => exact ⟨h.1, h.2.1, by rw [w0]; exact h.2.2⟩
  have rel0 : Rel P c0 H0 := by
    refine ⟨by rw [s0, lσ, hIl], ?_, ?_, ?_, ?_, ?_, ?_, ?_, ?_, ?_, fun t ht => hr.dead t (mτ t (t0 ▸ ht)), by rw [m0, lμ, hLl], ?_, fun t ht lv => by rw [w0]; exact hr.mlt t (mμ t (m0 ▸ ht)) lv, ?_, fun t ht lv hb => hr.ms t (mμ t (m0 ▸ ht)) lv (mσ _ (s0 ▸ hb)), fun t ht lv t' ht' lv' => hr.mt t (mμ t (m0 ▸ ht)) lv t' (mτ t' (t0 ▸ ht')) lv', ?_, hr.gl.of_stab w0 st0⟩
    · intro j b cs hb hcs
      rw [s0] at hb
      have hlt : j < I.length := by rw [← lσ]; exact (List.getElem?_eq_some_iff.1 hb).1
      have hj := List.getElem?_eq_getElem hlt
      rw [gσ j _ hj] at hb
      obtain ⟨cs', k1, k2⟩ := hI' j _ hj
      rw [k2] at hcs
      cases hcs
      obtain ⟨vals, T, e1, e2, e3⟩ := hr.bx _ b cs' hb k1
      rw [w0]
      refine ⟨vals, T, e1, by rw [renL_eq]; simpa using e2, fun k p u hk hu => ?_⟩
      rw [renL_eq] at hk
      simp only [List.getElem?_map, Option.map_eq_some_iff] at hk
      obtain ⟨q, hq, rfl⟩ := hk
      exact ⟨rv0 _ _ (e3 k q u hq hu).1, (e3 k q u hq hu).2⟩
    · rw [t0]
      refine List.ext_getElem? fun j => ?_
      by_cases hlt : j < J.length
      · have hj := List.getElem?_eq_getElem hlt
        obtain ⟨x, k1, k2⟩ := hJ' j _ hj
        rw [k2, List.getElem?_map, gτ j _ hj, ← List.getElem?_map, hr.tk]
        exact k1
      · rw [List.getElem?_eq_none (by simp [lτ]; omega), List.getElem?_eq_none (by omega)]
    · intro t ht lv
      rw [w0]
      exact hr.tb t (mτ t (t0 ▸ ht)) lv
    · rw [s0, ← hσ0]
      refine List.pairwise_map.2 (List.Pairwise.imp_of_mem ?_ hI)
      intro i i' hi hi' hne e
      have l1 := hIb i hi
      have l2 := hIb i' hi'
      simp only [getElem!_pos, l1, l2] at e
      exact hne (nodup_at hr.nd l1 l2 e)
    · intro i j t t' hi hj lv lv' e
      rw [t0] at hi hj
      have li : i < J.length := by rw [← lτ]; exact (List.getElem?_eq_some_iff.1 hi).1
      have lj : j < J.length := by rw [← lτ]; exact (List.getElem?_eq_some_iff.1 hj).1
      rw [gτ i _ (List.getElem?_eq_getElem li)] at hi
      rw [gτ j _ (List.getElem?_eq_getElem lj)] at hj
      exact nodup_at hJ li lj (hr.td _ _ t t' hi hj lv lv' e)
    · intro t ht lv hb
      exact hr.st t (mτ t (t0 ▸ ht)) lv (mσ _ (s0 ▸ hb))
    · intro b p h
      rw [w0]
      rw [h0] at h
      exact hr.hidlt b p h
    · intro t ht lv p h
      rw [h0] at h
      exact hr.thid t (mτ t (t0 ▸ ht)) lv p h
    · intro b hb
      rw [w0]
      exact hr.shid b (mσ b (s0 ▸ hb))
    · intro j t o hj ho
      rw [m0] at hj
      have hlt : j < L.length := by rw [← lμ]; exact (List.getElem?_eq_some_iff.1 hj).1
      have hj' := List.getElem?_eq_getElem hlt
      rw [gμ j _ hj'] at hj
      obtain ⟨x, k1, k2⟩ := hL' j _ hj'
      rw [k2] at ho
      cases ho
      exact mok0 t o (hr.mu _ t o hj k1)
    · intro i j t t' hi hj lv lv' e
      rw [m0] at hi hj
      have li : i < L.length := by rw [← lμ]; exact (List.getElem?_eq_some_iff.1 hi).1
      have lj : j < L.length := by rw [← lμ]; exact (List.getElem?_eq_some_iff.1 hj).1
      rw [gμ i _ (List.getElem?_eq_getElem li)] at hi
      rw [gμ j _ (List.getElem?_eq_getElem lj)] at hj
      exact nodup_at hL li lj (hr.md _ _ t t' hi hj lv lv' e)
    · intro t ht lv p h
      rw [h0] at h
      exact hr.mhid t (mμ t (m0 ▸ ht)) lv p h

  exact ⟨c0, w0, h0, rel0, rv0, st0, by rw [s0, lσ], fun j i h => by rw [s0]; exact gσ j i h, fun j i h => by rw [t0]; exact gτ j i h, fun j i h => by rw [m0]; exact gμ j i h, fun t ht => mτ t (t0 ▸ ht), fun t ht => mμ t (m0 ▸ ht), fun b hb => mσ b (s0 ▸ hb)⟩

theorem PC.sel {P : Program} {f : FuncId} {args : List PV} {H H1 H2 : PH} {v v' : PV} (hp : PC P f args H v H1) (I J L : List Nat) (hn : (nodupB I && nodupB J && nodupB L) = true)
    (i0 : I.take H.bx.length = List.range H.bx.length) (j0 : J.take H.tk.length = List.range H.tk.length) (l0 : L.take H.mu.length = List.range H.mu.length)
    (hb : pickB I J L H1.bx I = some H2.bx) (ht : pickT H1.tk J = some H2.tk) (hm : pickM H1.mu L = some H2.mu) (hv : deepV (ren (posOf I) (posOf J) (posOf L) v) = some v') : PC P f args H v' H2 := by
  rw [deepV_eq] at hv
  cases hv
  simp only [Bool.and_eq_true] at hn
  obtain ⟨b1, b2⟩ := pickB_spec hb
  obtain ⟨t1, t2⟩ := pickT_spec ht
  obtain ⟨m1, m2⟩ := pickM_spec hm
  have at0 : ∀ {X : List Nat} {n : Nat}, X.take n = List.range n → ∀ i, i < n → X[i]? = some i := by
    intro X n h i hi
    have : (X.take n)[i]? = some i := by rw [h]; simp [hi]
    rwa [List.getElem?_take, if_pos hi] at this
  intro c vs hr ha
  refine (hp c vs hr ha).mono fun e w' ⟨rv, c1, he, hw1, hr1, hE1, hv1⟩ => ?_
  obtain ⟨c0, w0, h0, r0, rv0, st0, ls, gs, gt, gm, mt, mm, ms⟩ := hr1.sel (nodupB_spec hn.1.1) (nodupB_spec hn.1.2) (nodupB_spec hn.2) b1 b2 t1 t2 m1 m2
  have htl : c.τ.length = H.tk.length := by rw [← hr.tk]; simp
  obtain ⟨n, hsn, hnb⟩ := hE1.sig
  refine ⟨rv, c0, he, w0.trans hw1, r0, ⟨by rw [w0]; exact hE1.os, by rw [w0]; exact hE1.tape, by rw [w0]; exact hE1.output, by rw [w0]; exact hE1.size, h0.trans hE1.hid, ⟨c0.σ.drop c.σ.length, ?_, ?_⟩, ?_, ?_, ?_, ?_, ?_, ?_⟩, rv0 _ _ hv1⟩
  · refine List.ext_getElem? fun i => ?_
    by_cases hi : i < c.σ.length
    · rw [List.getElem?_append_left hi, gs i i (at0 i0 i (by rw [← hr.len]; exact hi)), hsn, List.getElem?_append_left hi]
    · rw [List.getElem?_append_right (by omega), List.getElem?_drop]
      congr 1
      omega
  · intro b hb
    obtain ⟨k, hk⟩ := List.getElem?_of_mem hb
    rw [List.getElem?_drop] at hk
    have hlt : c.σ.length + k < I.length := by rw [← ls]; exact (List.getElem?_eq_some_iff.1 hk).1
    rw [gs _ _ (List.getElem?_eq_getElem hlt)] at hk
    have hge : ¬ I[c.σ.length + k] < c.σ.length := by
      intro hlt2
      have e1 := at0 i0 _ (by rw [← hr.len]; exact hlt2)
      have hnd := nodupB_spec hn.1.1
      have hb1 : I[c.σ.length + k] < I.length := (List.getElem?_eq_some_iff.1 e1).1
      have e2 : I[I[c.σ.length + k]] = I[c.σ.length + k] := (List.getElem?_eq_some_iff.1 e1).2
      have := nodup_at hnd hb1 hlt e2
      omega
    rw [hsn, List.getElem?_append_right (by omega)] at hk
    exact hnb b (List.mem_of_getElem? hk)
  · intro id t hid
    obtain ⟨t', h1, h2⟩ := hE1.tok id t hid
    exact ⟨t', (gt id id (at0 j0 id (by rw [← htl]; exact (List.getElem?_eq_some_iff.1 hid).1))).trans h1, h2⟩
  · intro id t hid
    obtain ⟨t', h1, h2⟩ := hE1.mu id t hid
    exact ⟨t', (gm id id (at0 l0 id (by rw [← hr.mlen]; exact (List.getElem?_eq_some_iff.1 hid).1))).trans h1, h2⟩
  · intro t ht lv
    exact hE1.munew t (mm t ht) lv
  · intro t ht lv
    exact hE1.toknew t (mt t ht) lv
  · intro a v hsp hst hc
    obtain ⟨k1, k2⟩ := hE1.keep a v hsp hst hc
    exact ⟨by rw [w0]; exact k1, st0 _ _ k2⟩
  · intro b hb h1 h2 h3
    rw [w0]
    exact hE1.frame b hb h1 h2 h3

theorem PC.frz {P : Program} {f : FuncId} {args : List PV} {H H1 : PH} {v : PV} (hp : PC P f args H v H1) (id : Nat) {n : Nat} {e : TypeId} {es : List GV} (hm : H1.mu[id]? = some (.arr n e es)) :
    PC P f args H (Go.Pure.frz id n es v) ⟨frzB id n es H1.bx, H1.tk, H1.mu.set id (.gone (n + 1))⟩ := fun c vs hr ha => (hp c vs hr ha).mono fun e w' ⟨rv, c1, he, hw1, hr1, hE1, hv1⟩ => by
  obtain ⟨c2, w2, r2, E2, rv2⟩ := hr1.freeze hm
  exact ⟨rv, c2, he, w2.trans hw1, r2, hE1.trans E2, rv2 _ _ hv1⟩
theorem PC.as {P : Program} {f : FuncId} {args : List PV} {H H1 : PH} {v v' : PV} (hp : PC P f args H v H1) (e : v = v') : PC P f args H v' H1 := e ▸ hp
theorem PC.out {P : Program} {f : FuncId} {args : List PV} {n e off len cap : Nat} {es es' : List GV} (hp : PC P f args ⟨[], [], []⟩ (.vw 0 n off len cap) ⟨[], [], [.arr n e es]⟩) (he : (es.drop off).take len = es') : PC P f args ⟨[], [], []⟩ (.g (.sl es')) ⟨[], [], []⟩ := by
  have h := (hp.frz 0 rfl).sel (H2 := ⟨[], [], []⟩) (v' := .g (.sl es')) [] [] [] rfl rfl rfl rfl rfl rfl rfl (by simp [Go.Pure.frz, ren, deepV, he])
  exact h
end Go.Pure


/- A generic layer: a contract of the library's shelf (plain values in, plain values out, nothing written) as a contract of this layer. -/
namespace Go.Pure
open Go Go.RowKit

end Go.Pure


/- A generic layer: texts put together; arrays of bytes that become texts without a copy (strings.Builder's String). -/
namespace Go.Pure
open Go Go.RowKit

section
variable {P : Program} {o : Oper} {ρ : Operand → PV} {H : PH}
end

section
variable {P : Program} {N : Nat} {Q : Exit → Env → PH → Prop} {env : Env} {H : PH}
end
end Go.Pure


/- A generic layer: contracts that don't tell all (a capacity that the machine chooses). -/
namespace Go.Pure
open Go

section
variable {P : Program}
variable {N : Nat} {Q : Exit → Env → PH → Prop} {env : Env} {H : PH}
theorem PCx.mono {f : FuncId} {args : List PV} {R R' : PV → PH → Prop} (h : PCx P f args H R) (hR : ∀ a b, R a b → R' a b) : PCx P f args H R' :=
  fun c vs hr ha => (h c vs hr ha).mono fun _ _ ⟨a, b, rv, c', hab, h1⟩ => ⟨a, b, rv, c', hR a b hab, h1⟩
end
end Go.Pure


/- A generic layer: nil grown by noughts (append of a make), to whatever capacity the machine chooses. -/
namespace Go.Pure
open Go

section
variable {P : Program} {o : Oper} {ρ : Operand → PV} {H : PH}
end
end Go.Pure


/- Copied into nil: nothing. -/
namespace Go.Pure
open Go
section
variable {P : Program} {o : Oper} {ρ : Operand → PV} {H : PH}
end
end Go.Pure


/- Appended to nil, told as a plain slice. -/
namespace Go.Pure
open Go
section
variable {P : Program} {o : Oper} {ρ : Operand → PV} {H : PH}
theorem PO_append_nilg {x y : Operand} {t e : TypeId} {xs : List GV} {size bytes : Nat} {z : Value} (ho : o.op = .call { callee := .builtin .append, args := ⟨[x, y]⟩, argTypes := ⟨[t, t]⟩ })
    (ht : P.underlying t = some (.slice e)) (hs : szB P e = some size) (hby : bytesB P e = some bytes) (hz : zeroB P e = some z) (hzs : Nat.beq z.cells.size size = true) (hx : ρ x = .nils) (hy : elems (ρ y) = some xs) (hH : refsOkB H.bx.length H.tk.length H.mu.length H.bx = true)
    (hxs : ∀ x ∈ xs, x.cells.length = size) (hfit : xs.length * bytes ≤ 140737488355328) (hmax : xs.length ≤ maxLen) : PO P o ρ H (.g (.sl xs)) H := by
  intro c ρr hr hxx
  haveI : DecidableEq Operand := fun a b => Classical.propDecidable (a = b)
  have htl : c.τ.length = H.tk.length := by have := congrArg List.length hr.tk; simpa using this
  obtain ⟨r2, e2⟩ := hr.addDead (e := e) hs
  have q := PO_append (o := o) (ρ := fun q => if q = x then .own [] H.tk.length else ρ q) (H := ⟨H.bx, H.tk ++ [(e, 0)], H.mu⟩) (es := []) (xs := xs) (id := H.tk.length) (n := 0) ho ht hs hby hz hzs (if_pos rfl) (by
      by_cases hq : y = x
      · subst hq
        rw [hx] at hy
        have h0 : xs = [] := by simpa [elems] using hy.symm
        subst h0
        simp [elems]
      · simp only [if_neg hq]; exact hy) (by simp) rfl hxs (by simpa using hfit) (by simpa using hmax) _ ρr r2 (by
      intro q hq
      by_cases hqx : q = x
      · subst hqx
        simp only [if_true]
        have h1 := hxx q hq
        rw [hx] at h1
        generalize ρr q = v at h1
        cases h1
        exact .own [] H.tk.length _ ⟨false, 0, e, size, 0, 0⟩ .nil (by rw [← htl]; simp) (by simp) (Nat.le_refl _) (fun _ => .inr ⟨rfl, rfl⟩)
      · simp only [if_neg hqx]; exact (hxx q hq).mono e2)
  unfold OpGoes at q ⊢
  have key : ∀ (rv : Value) (w' : World), (∃ c', c'.w = w' ∧ Rel P c' ⟨H.bx, (H.tk ++ [(e, 0)]).set H.tk.length (e, 0 + xs.length), H.mu⟩ ∧ Evo ⟨c.σ, c.τ ++ [⟨false, 0, e, size, 0, 0⟩], c.μ, c.hid, c.w⟩ c' ∧ RV c' (.own ([] ++ xs) H.tk.length) rv) → ∃ c', c'.w = w' ∧ Rel P c' H ∧ Evo c c' ∧ RV c' (.g (.sl xs)) rv := by
    rintro rv w' ⟨c', rfl, hr', hE', hv⟩
    have hE := e2.trans hE'
    have hset : (H.tk ++ [(e, 0)]).set H.tk.length (e, 0 + xs.length) = H.tk ++ [(e, 0 + xs.length)] := by simp
    rw [hset] at hr'
    refine ⟨c'.cut H.bx.length H.tk.length H.mu.length, rfl, hr'.cut ⟨[], by simp⟩ ⟨_, rfl⟩ ⟨[], by simp⟩ (refsOkB_spec hH), hE.cut ?_ ?_ ?_, (pack_ok hv).cut (.g _)⟩
    · rw [hr.len]; exact Nat.le_refl _
    · rw [htl]; exact Nat.le_refl _
    · rw [hr.mlen]; exact Nat.le_refl _
  have hop : (execOp ρr o).run P c.w = ((Builtin.append_ #[t, t] o.type #[ρr x, ρr y]).run P c.w).andThen fun r w => .ok (.value r) w := by
    simp [execOp, ho, resolve, invoke, builtin]
  have hop2 : (execOp ρr o).run P (⟨c.σ, c.τ ++ [⟨false, 0, e, size, 0, 0⟩], c.μ, c.hid, c.w⟩ : Ctx).w = ((Builtin.append_ #[t, t] o.type #[ρr x, ρr y]).run P c.w).andThen fun r w => .ok (.value r) w := hop
  rw [hop2] at q
  rw [hop]
  revert q
  cases (Builtin.append_ #[t, t] o.type #[ρr x, ρr y]).run P c.w with
  | ok rv w' => exact key rv w'
  | _ => exact fun h => h
end
end Go.Pure

