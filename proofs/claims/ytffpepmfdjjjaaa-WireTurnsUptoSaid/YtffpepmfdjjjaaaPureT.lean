/- A generic layer: a contract over some boxes and arrays is one over more of them: the theorem. -/
import Derived.Test.YtffpepmfdjjjaaaPureS
namespace Go.Pure
open Go

/-- What a call leaves of the state around it. -/
def back (I J L : List Nat) (H H1 : PH) : PH :=
  ⟨setAll H.bx I ((H1.bx.take I.length).map (renL (backOf I H.bx.length) (backOf J H.tk.length) (backOf L H.mu.length))) ++ (H1.bx.drop I.length).map (renL (backOf I H.bx.length) (backOf J H.tk.length) (backOf L H.mu.length)),
   setAll H.tk J (H1.tk.take J.length) ++ H1.tk.drop J.length, setAll H.mu L (H1.mu.take L.length) ++ H1.mu.drop L.length⟩

theorem getElem_of_list {α : Type} [Inhabited α] {l : List α} {I : List Nat} (h : ∀ i ∈ I, i < l.length) (j i : Nat) (hj : I[j]? = some i) : (I.map (l[·]!))[j]? = l[i]? := by
  have hi := h i (List.mem_of_getElem? hj)
  simp [hj, hi]

theorem nodup_of_map {α β : Type} (f : α → β) {l : List α} (h : (l.map f).Nodup) : l.Nodup :=
  (List.pairwise_map.1 h).imp fun hne e => hne (by rw [e])
theorem nodup_at {α : Type} {l : List α} (h : l.Nodup) {i j : Nat} (hi : i < l.length) (hj : j < l.length) (e : l[i] = l[j]) : i = j :=
  (List.getElem?_inj hi h).1 (by rw [List.getElem?_eq_getElem hi, List.getElem?_eq_getElem hj, e])
theorem nodup_mk {α : Type} {l : List α} (h : ∀ i j, i < j → j < l.length → l[i]? = l[j]? → False) : l.Nodup :=
  List.pairwise_iff_getElem.2 fun i j hi hj hij e => h i j hij hj (by rw [List.getElem?_eq_getElem hi, List.getElem?_eq_getElem hj, e])

instance : Inhabited Tok := ⟨⟨false, 0, 0, 0, 0, 0⟩⟩
instance : Inhabited MTok := ⟨⟨false, 0, 0, 0, 0, 0⟩⟩

theorem PC_frame {P : Program} {f : FuncId} {args : List PV} {H0 H1 : PH} {v : PV} (hp : PC P f args H0 v H1) {H : PH} {I J L : List Nat} {args' : List PV} (hI : I.Nodup) (hJ : J.Nodup) (hL : L.Nodup) (hIl : H0.bx.length = I.length)
    (hI' : ∀ (j i : Nat), I[j]? = some i → ∃ cs, H.bx[i]? = some cs ∧ H0.bx[j]? = some (renL (posOf I) (posOf J) (posOf L) cs))
    (hJl : H0.tk.length = J.length) (hJ' : ∀ (j i : Nat), J[j]? = some i → ∃ x, H.tk[i]? = some x ∧ H0.tk[j]? = some x)
    (hLl : H0.mu.length = L.length) (hL' : ∀ (j i : Nat), L[j]? = some i → ∃ x, H.mu[i]? = some x ∧ H0.mu[j]? = some x) (ha : renL (posOf I) (posOf J) (posOf L) args' = args) :
    PC P f args' H (ren (backOf I H.bx.length) (backOf J H.tk.length) (backOf L H.mu.length) v) (back I J L H H1) := by
  intro c vs hr hargs
  have hIb : ∀ i ∈ I, i < c.σ.length := fun i hi => by
    obtain ⟨j, hj⟩ := List.getElem?_of_mem hi
    obtain ⟨cs, h1, _⟩ := hI' j i hj
    rw [hr.len]; exact (List.getElem?_eq_some_iff.1 h1).1
  have htl : c.τ.length = H.tk.length := by rw [← hr.tk]; simp
  have hJb : ∀ i ∈ J, i < c.τ.length := fun i hi => by
    obtain ⟨j, hj⟩ := List.getElem?_of_mem hi
    obtain ⟨x, h1, _⟩ := hJ' j i hj
    rw [htl]; exact (List.getElem?_eq_some_iff.1 h1).1
  have hml : c.μ.length = H.mu.length := hr.mlen
  have hLb : ∀ i ∈ L, i < c.μ.length := fun i hi => by
    obtain ⟨j, hj⟩ := List.getElem?_of_mem hi
    obtain ⟨x, h1, _⟩ := hL' j i hj
    rw [hml]; exact (List.getElem?_eq_some_iff.1 h1).1
  generalize hμ0 : L.map (c.μ[·]!) = μ0
  have gμ : ∀ (j i : Nat), L[j]? = some i → μ0[j]? = c.μ[i]? := fun j i hj => hμ0 ▸ getElem_of_list hLb j i hj
  have lμ : μ0.length = L.length := by rw [← hμ0]; simp
  have mμ : ∀ t ∈ μ0, t ∈ c.μ := fun b hb => by
    obtain ⟨j, hj⟩ := List.getElem?_of_mem hb
    have hlt : j < L.length := by rw [← lμ]; exact (List.getElem?_eq_some_iff.1 hj).1
    rw [gμ j L[j] (List.getElem?_eq_getElem hlt)] at hj
    exact List.mem_of_getElem? hj
  have minj : ∀ t ∈ c.μ, ∀ t' ∈ c.μ, t.live = true → t'.live = true → t.g = t'.g → t = t' := by
    intro t ht t' ht' lv lv' e
    obtain ⟨i, hi⟩ := List.getElem?_of_mem ht
    obtain ⟨j, hj⟩ := List.getElem?_of_mem ht'
    have hij : i = j := hr.md i j t t' hi hj lv lv' e
    subst hij
    rw [hi] at hj
    exact Option.some.inj hj
  generalize hσ0 : I.map (c.σ[·]!) = σ0
  generalize hτ0 : J.map (c.τ[·]!) = τ0
  have gσ : ∀ (j i : Nat), I[j]? = some i → σ0[j]? = c.σ[i]? := fun j i hj => hσ0 ▸ getElem_of_list hIb j i hj
  have gτ : ∀ (j i : Nat), J[j]? = some i → τ0[j]? = c.τ[i]? := fun j i hj => hτ0 ▸ getElem_of_list hJb j i hj
  have lσ : σ0.length = I.length := by rw [← hσ0]; simp
  have lτ : τ0.length = J.length := by rw [← hτ0]; simp
  have mσ : ∀ b ∈ σ0, b ∈ c.σ := fun b hb => by
    obtain ⟨j, hj⟩ := List.getElem?_of_mem hb
    have hlt : j < I.length := by rw [← lσ]; exact (List.getElem?_eq_some_iff.1 hj).1
    rw [gσ j I[j] (List.getElem?_eq_getElem hlt)] at hj
    exact List.mem_of_getElem? hj
  have mτ : ∀ t ∈ τ0, t ∈ c.τ := fun b hb => by
    obtain ⟨j, hj⟩ := List.getElem?_of_mem hb
    have hlt : j < J.length := by rw [← lτ]; exact (List.getElem?_eq_some_iff.1 hj).1
    rw [gτ j J[j] (List.getElem?_eq_getElem hlt)] at hj
    exact List.mem_of_getElem? hj
  have tinj : ∀ t ∈ c.τ, ∀ t' ∈ c.τ, t.live = true → t'.live = true → t.g = t'.g → t = t' := by
    intro t ht t' ht' lv lv' e
    obtain ⟨i, hi⟩ := List.getElem?_of_mem ht
    obtain ⟨j, hj⟩ := List.getElem?_of_mem ht'
    have hij : i = j := hr.td i j t t' hi hj lv lv' e
    subst hij
    rw [hi] at hj
    exact Option.some.inj hj
  -- the callee's context
  generalize hc0 : (⟨σ0, τ0, μ0, fun b p => c.hid b p ∨ (b ∈ c.σ ∧ b ∉ σ0) ∨ (∃ t ∈ c.τ, t ∉ τ0 ∧ t.live = true ∧ t.g = b ∧ ¬ p < t.hw * t.size) ∨ ∃ t ∈ c.μ, t ∉ μ0 ∧ t.live = true ∧ t.g = b, c.w⟩ : Ctx) = c0
  have s0 : c0.σ = σ0 := by rw [← hc0]
  have t0 : c0.τ = τ0 := by rw [← hc0]
  have m0 : c0.μ = μ0 := by rw [← hc0]
  have w0 : c0.w = c.w := by rw [← hc0]
  have h0 : ∀ b p, c0.hid b p ↔ (c.hid b p ∨ (b ∈ c.σ ∧ b ∉ σ0) ∨ (∃ t ∈ c.τ, t ∉ τ0 ∧ t.live = true ∧ t.g = b ∧ ¬ p < t.hw * t.size) ∨ ∃ t ∈ c.μ, t ∉ μ0 ∧ t.live = true ∧ t.g = b) := fun b p => by rw [← hc0]
  have st0 : ∀ b p, c.stab b p → c0.stab b p := by
    rintro b p ⟨q1, q2, q3, q4⟩
    refine ⟨?_, fun hb => q2 (mσ b (s0 ▸ hb)), fun t ht lv => q3 t (mτ t (t0 ▸ ht)) lv, fun t ht lv => q4 t (mμ t (m0 ▸ ht)) lv⟩
    rw [h0]
    rintro (h | ⟨h, _⟩ | ⟨t, ht, _, lv, e, hn⟩ | ⟨t, ht, _, lv, e⟩)
    · exact q1 h
    · exact q2 h
    · exact hn (q3 t ht lv e)
    · exact q4 t ht lv e
  have rv0 : ∀ p v, RV c p v → RV c0 (ren (posOf I) (posOf J) (posOf L) p) v := fun p v h => RV_ren w0 st0
    (fun b b' blk e hb => by rw [s0, gσ b' b (posOf_some e)]; exact hb) (fun i i' t e ht => by rw [t0, gτ i' i (posOf_some e)]; exact ht) (fun i i' t e ht => by rw [m0, gμ i' i (posOf_some e)]; exact ht) h
  have mok0 : ∀ t o, MOk P c t o → MOk P c0 t o := by
    intro t o h
    have hg : ∀ g v, RG c.w c.stab g v → RG c0.w c0.stab g v := fun g v h => h.mono fun a u _ hs hc => ⟨by rw [w0]; exact hc, st0 _ _ hs⟩
    cases o with
    | gone n => exact h
    | arr n e es =>
      obtain ⟨a1, a2, a3, a4⟩ := h
      refine ⟨a1, a2, a3, a4.imp id ?_⟩
      rintro ⟨lv, cur, b1, b2, b3, b4, b5, b6⟩
      exact ⟨lv, cur, by rw [w0]; exact b1, b2, b3, b4, b5, fun i x j g v hx hg' hv => ⟨hg _ _ (b6 i x j g v hx hg' hv).1, (b6 i x j g v hx hg' hv).2⟩⟩
    | map es =>
      obtain ⟨a1, lv, ents, b1, b2, b3⟩ := h
      exact ⟨a1, lv, ents, by rw [w0]; exact b1, b2, fun i k v n hk hn => ⟨hg _ _ (b3 i k v n hk hn).1, hg _ _ (b3 i k v n hk hn).2.1, (b3 i k v n hk hn).2.2⟩⟩
  have rel0 : Rel P c0 H0 := by
    refine ⟨by rw [s0, lσ, hIl], ?_, ?_, ?_, ?_, ?_, ?_, ?_, ?_, ?_, fun t ht => hr.dead t (mτ t (t0 ▸ ht)), by rw [m0, lμ, hLl], ?_, fun t ht lv => by rw [w0]; exact hr.mlt t (mμ t (m0 ▸ ht)) lv, ?_, fun t ht lv hb => hr.ms t (mμ t (m0 ▸ ht)) lv (mσ _ (s0 ▸ hb)), fun t ht lv t' ht' lv' => hr.mt t (mμ t (m0 ▸ ht)) lv t' (mτ t' (t0 ▸ ht')) lv', ?_⟩
    · intro j b cs hb hcs
      rw [s0] at hb
      have hlt : j < I.length := by rw [← lσ]; exact (List.getElem?_eq_some_iff.1 hb).1
      have hj := List.getElem?_eq_getElem hlt
      rw [gσ j _ hj] at hb
      obtain ⟨cs', k1, k2⟩ := hI' j _ hj
      rw [k2] at hcs
      cases hcs
      obtain ⟨vals, T, e1, e2, e3⟩ := hr.bx _ b cs' hb k1
      rw [w0]
      refine ⟨vals, T, e1, by rw [renL_eq]; simpa using e2, fun k p u hk hu => ?_⟩
      rw [renL_eq] at hk
      simp only [List.getElem?_map, Option.map_eq_some_iff] at hk
      obtain ⟨q, hq, rfl⟩ := hk
      exact ⟨rv0 _ _ (e3 k q u hq hu).1, (e3 k q u hq hu).2⟩
    · rw [t0]
      refine List.ext_getElem? fun j => ?_
      by_cases hlt : j < J.length
      · have hj := List.getElem?_eq_getElem hlt
        obtain ⟨x, k1, k2⟩ := hJ' j _ hj
        rw [k2, List.getElem?_map, gτ j _ hj, ← List.getElem?_map, hr.tk]
        exact k1
      · rw [List.getElem?_eq_none (by simp [lτ]; omega), List.getElem?_eq_none (by omega)]
    · intro t ht lv
      rw [w0]
      exact hr.tb t (mτ t (t0 ▸ ht)) lv
    · rw [s0, ← hσ0]
      refine List.pairwise_map.2 (List.Pairwise.imp_of_mem ?_ hI)
      intro i i' hi hi' hne e
      have l1 := hIb i hi
      have l2 := hIb i' hi'
      simp only [getElem!_pos, l1, l2] at e
      exact hne (nodup_at hr.nd l1 l2 e)
    · intro i j t t' hi hj lv lv' e
      rw [t0] at hi hj
      have li : i < J.length := by rw [← lτ]; exact (List.getElem?_eq_some_iff.1 hi).1
      have lj : j < J.length := by rw [← lτ]; exact (List.getElem?_eq_some_iff.1 hj).1
      rw [gτ i _ (List.getElem?_eq_getElem li)] at hi
      rw [gτ j _ (List.getElem?_eq_getElem lj)] at hj
      exact nodup_at hJ li lj (hr.td _ _ t t' hi hj lv lv' e)
    · intro t ht lv hb
      exact hr.st t (mτ t (t0 ▸ ht)) lv (mσ _ (s0 ▸ hb))
    · intro b p h
      rw [w0]
      rcases (h0 b p).1 h with h | ⟨h, _⟩ | ⟨t, ht, _, lv, e, _⟩ | ⟨t, ht, _, lv, e⟩
      · exact hr.hidlt b p h
      · exact hr.shid b h
      · exact e ▸ hr.tlt ht lv
      · exact e ▸ hr.mlt t ht lv
    · intro t ht lv p h
      have ht' := mτ t (t0 ▸ ht)
      rcases (h0 _ p).1 h with h | ⟨h, _⟩ | ⟨t', ht1, ht2, lv', e, _⟩ | ⟨t', ht1, ht2, lv', e⟩
      · exact hr.thid t ht' lv p h
      · exact hr.st t ht' lv h
      · exact ht2 (tinj t' ht1 t ht' lv' lv e ▸ (t0 ▸ ht))
      · exact hr.mt t' ht1 lv' t ht' lv e
    · intro b hb
      rw [w0]
      exact hr.shid b (mσ b (s0 ▸ hb))
    · intro j t o hj ho
      rw [m0] at hj
      have hlt : j < L.length := by rw [← lμ]; exact (List.getElem?_eq_some_iff.1 hj).1
      have hj' := List.getElem?_eq_getElem hlt
      rw [gμ j _ hj'] at hj
      obtain ⟨x, k1, k2⟩ := hL' j _ hj'
      rw [k2] at ho
      cases ho
      exact mok0 t o (hr.mu _ t o hj k1)
    · intro i j t t' hi hj lv lv' e
      rw [m0] at hi hj
      have li : i < L.length := by rw [← lμ]; exact (List.getElem?_eq_some_iff.1 hi).1
      have lj : j < L.length := by rw [← lμ]; exact (List.getElem?_eq_some_iff.1 hj).1
      rw [gμ i _ (List.getElem?_eq_getElem li)] at hi
      rw [gμ j _ (List.getElem?_eq_getElem lj)] at hj
      exact nodup_at hL li lj (hr.md _ _ t t' hi hj lv lv' e)
    · intro t ht lv p h
      have ht' := mμ t (m0 ▸ ht)
      rcases (h0 _ p).1 h with h | ⟨h, _⟩ | ⟨t', ht1, ht2, lv', e, _⟩ | ⟨t', ht1, ht2, lv', e⟩
      · exact hr.mhid t ht' lv p h
      · exact hr.ms t ht' lv h
      · exact hr.mt t ht' lv t' ht1 lv' e.symm
      · exact ht2 (minj t' ht1 t ht' lv' lv e ▸ (m0 ▸ ht))
  have args0 : RVs c0 args vs := by
    rw [← ha, renL_eq]
    refine ⟨by simpa using hargs.1, fun i p u hp' hu => ?_⟩
    simp only [List.getElem?_map, Option.map_eq_some_iff] at hp'
    obtain ⟨q, hq, rfl⟩ := hp'
    exact rv0 q u (hargs.2 i q u hq hu)
  have hcall := hp c0 vs rel0 args0
  rw [w0] at hcall
  refine hcall.mono fun e w' ⟨rv, c1, he, hw1, hr1, hE1, hv1⟩ => ?_
  subst he; subst hw1
  -- the caller's context behind the call
  obtain ⟨n, hn, hnlt⟩ := hE1.sig
  rw [s0] at hn
  rw [w0] at hnlt
  have hdrop : c1.σ.drop I.length = n := by rw [hn, ← lσ]; simp
  have hlt1 : J.length ≤ c1.τ.length := by
    by_cases hz : J.length = 0
    · omega
    · have hj : J.length - 1 < τ0.length := by omega
      obtain ⟨t', ht', _⟩ := hE1.tok (J.length - 1) τ0[J.length - 1] (by rw [t0]; exact List.getElem?_eq_getElem hj)
      have := (List.getElem?_eq_some_iff.1 ht').1
      omega
  generalize hτ' : setAll c.τ J (c1.τ.take J.length) ++ c1.τ.drop J.length = τ'
  have memτ' : ∀ t ∈ τ', t ∈ c1.τ ∨ (t ∈ c.τ ∧ (t.live = true → t ∉ τ0)) := by
    intro t ht
    rw [← hτ', List.mem_append] at ht
    rcases ht with ht | ht
    · obtain ⟨k, hk⟩ := List.getElem?_of_mem ht
      by_cases hkJ : k ∈ J
      · obtain ⟨j, hj⟩ := List.getElem?_of_mem hkJ
        have hjl : j < J.length := (List.getElem?_eq_some_iff.1 hj).1
        have hj1 : j < c1.τ.length := by omega
        have : (c1.τ.take J.length)[j]? = some c1.τ[j] := by rw [List.getElem?_take, if_pos hjl]; exact List.getElem?_eq_getElem hj1
        rw [setAll_at c.τ J _ hJ hJb j k _ hj this] at hk
        cases hk
        exact .inl (List.getElem_mem hj1)
      · rw [setAll_other _ _ _ _ hkJ] at hk
        refine .inr ⟨List.mem_of_getElem? hk, fun lv hm => hkJ ?_⟩
        obtain ⟨j, hj⟩ := List.getElem?_of_mem hm
        have hjl : j < J.length := by rw [← lτ]; exact (List.getElem?_eq_some_iff.1 hj).1
        have hj' := List.getElem?_eq_getElem hjl
        rw [gτ j _ hj'] at hj
        have := hr.td _ _ t t hk hj lv lv rfl
        rw [this]
        exact List.getElem_mem hjl
    · exact .inl (List.mem_of_mem_drop ht)
  have hltm : L.length ≤ c1.μ.length := by
    by_cases hz : L.length = 0
    · omega
    · have hj : L.length - 1 < μ0.length := by omega
      obtain ⟨t', ht', _⟩ := hE1.mu (L.length - 1) μ0[L.length - 1] (by rw [m0]; exact List.getElem?_eq_getElem hj)
      have := (List.getElem?_eq_some_iff.1 ht').1
      omega
  generalize hμ' : setAll c.μ L (c1.μ.take L.length) ++ c1.μ.drop L.length = μ'
  have memμ' : ∀ t ∈ μ', t ∈ c1.μ ∨ (t ∈ c.μ ∧ (t.live = true → t ∉ μ0)) := by
    intro t ht
    rw [← hμ', List.mem_append] at ht
    rcases ht with ht | ht
    · obtain ⟨k, hk⟩ := List.getElem?_of_mem ht
      by_cases hkJ : k ∈ L
      · obtain ⟨j, hj⟩ := List.getElem?_of_mem hkJ
        have hjl : j < L.length := (List.getElem?_eq_some_iff.1 hj).1
        have hj1 : j < c1.μ.length := by omega
        have : (c1.μ.take L.length)[j]? = some c1.μ[j] := by rw [List.getElem?_take, if_pos hjl]; exact List.getElem?_eq_getElem hj1
        rw [setAll_at c.μ L _ hL hLb j k _ hj this] at hk
        cases hk
        exact .inl (List.getElem_mem hj1)
      · rw [setAll_other _ _ _ _ hkJ] at hk
        refine .inr ⟨List.mem_of_getElem? hk, fun lv hm => hkJ ?_⟩
        obtain ⟨j, hj⟩ := List.getElem?_of_mem hm
        have hjl : j < L.length := by rw [← lμ]; exact (List.getElem?_eq_some_iff.1 hj).1
        have hj' := List.getElem?_eq_getElem hjl
        rw [gμ j _ hj'] at hj
        have := hr.md _ _ t t hk hj lv lv rfl
        rw [this]
        exact List.getElem_mem hjl
    · exact .inl (List.mem_of_mem_drop ht)
  have hhid : c1.hid = c0.hid := hE1.hid
  have st1 : ∀ b p, c1.stab b p → Ctx.stab ⟨c.σ ++ n, τ', μ', c.hid, c1.w⟩ b p := by
    rintro b p ⟨q1, q2, q3, q4⟩
    rw [hhid, h0] at q1
    rw [hn] at q2
    refine ⟨fun h => q1 (.inl h), fun hb => ?_, fun t ht lv e => ?_, fun t ht lv e => ?_⟩
    · rcases List.mem_append.1 hb with hb | hb
      · by_cases h2 : b ∈ σ0
        · exact q2 (List.mem_append_left _ h2)
        · exact q1 (.inr (.inl ⟨hb, h2⟩))
      · exact q2 (List.mem_append_right _ hb)
    · rcases memτ' t ht with ht | ⟨h1, h2⟩
      · exact q3 t ht lv e
      · exact Classical.byContradiction fun hlt => q1 (.inr (.inr (.inl ⟨t, h1, h2 lv, lv, e, hlt⟩)))
    · rcases memμ' t ht with ht | ⟨h1, h2⟩
      · exact q4 t ht lv e
      · exact q1 (.inr (.inr (.inr ⟨t, h1, h2 lv, lv, e⟩)))
  have hframe : ∀ b, b < c.w.heap.size → b ∉ σ0 → (∀ t ∈ τ0, t.live = true → t.g ≠ b) → (∀ t ∈ μ0, t.live = true → t.g ≠ b) → c1.w.heap[b]? = c.w.heap[b]? := fun b h1 h2 h3 h4 => by
    have := hE1.frame b (by rw [w0]; exact h1) (by rw [s0]; exact h2) (by rw [t0]; exact h3) (by rw [m0]; exact h4)
    rwa [w0] at this
  have hEvo : Evo c ⟨c.σ ++ n, τ', μ', c.hid, c1.w⟩ := by
    refine ⟨by rw [← w0]; exact hE1.os, by rw [← w0]; exact hE1.tape, by rw [← w0]; exact hE1.output, by rw [← w0]; exact hE1.size, rfl, ⟨n, rfl, hnlt⟩, ?_, ?_, ?_, ?_, ?_, ?_⟩
    · intro id t ht
      by_cases hm : id ∈ J
      · obtain ⟨j, hj⟩ := List.getElem?_of_mem hm
        have hjl : j < J.length := (List.getElem?_eq_some_iff.1 hj).1
        obtain ⟨t', e1, e2, e3, e4⟩ := hE1.tok j t (by rw [t0, gτ j id hj]; exact ht)
        refine ⟨t', ?_, e2, e3, e4⟩
        show τ'[id]? = some t'
        rw [← hτ', List.getElem?_append_left (by rw [setAll_length]; exact (List.getElem?_eq_some_iff.1 ht).1)]
        exact setAll_at c.τ J _ hJ hJb j id t' hj (by rw [List.getElem?_take, if_pos hjl]; exact e1)
      · refine ⟨t, ?_, rfl, rfl, .inl rfl⟩
        show τ'[id]? = some t
        rw [← hτ', List.getElem?_append_left (by rw [setAll_length]; exact (List.getElem?_eq_some_iff.1 ht).1), setAll_other _ _ _ _ hm]
        exact ht
    · intro id t ht
      by_cases hm : id ∈ L
      · obtain ⟨j, hj⟩ := List.getElem?_of_mem hm
        have hjl : j < L.length := (List.getElem?_eq_some_iff.1 hj).1
        obtain ⟨t', e1, e2, e3⟩ := hE1.mu j t (by rw [m0, gμ j id hj]; exact ht)
        refine ⟨t', ?_, e2, e3⟩
        show μ'[id]? = some t'
        rw [← hμ', List.getElem?_append_left (by rw [setAll_length]; exact (List.getElem?_eq_some_iff.1 ht).1)]
        exact setAll_at c.μ L _ hL hLb j id t' hj (by rw [List.getElem?_take, if_pos hjl]; exact e1)
      · refine ⟨t, ?_, rfl, .inl rfl⟩
        show μ'[id]? = some t
        rw [← hμ', List.getElem?_append_left (by rw [setAll_length]; exact (List.getElem?_eq_some_iff.1 ht).1), setAll_other _ _ _ _ hm]
        exact ht
    · intro t ht lv
      rcases memμ' t ht with ht | ⟨ht, _⟩
      · rcases hE1.munew t ht lv with ⟨t1, h1, lv1, e⟩ | h1
        · exact .inl ⟨t1, mμ t1 (m0 ▸ h1), lv1, e⟩
        · rw [w0] at h1; exact .inr h1
      · exact .inl ⟨t, ht, lv, rfl⟩
    · intro t ht lv
      rcases memτ' t ht with ht | ⟨ht, _⟩
      · rcases hE1.toknew t ht lv with ⟨t1, h1, lv1, e⟩ | h1
        · exact .inl ⟨t1, mτ t1 (t0 ▸ h1), lv1, e⟩
        · rw [w0] at h1; exact .inr h1
      · exact .inl ⟨t, ht, lv, rfl⟩
    · intro a u hspot hs hcell
      obtain ⟨k1, k2⟩ := hE1.keep a u hspot (st0 _ _ hs) (by rw [w0]; exact hcell)
      exact ⟨k1, st1 _ _ k2⟩
    · intro b h1 h2 h3 h4
      exact hframe b h1 (fun hm => h2 (mσ b hm)) (fun t ht lv => h3 t (mτ t ht) lv) (fun t ht lv => h4 t (mμ t ht) lv)
  have rv1 : ∀ p u, RV c1 p u → RV ⟨c.σ ++ n, τ', μ', c.hid, c1.w⟩ (ren (backOf I H.bx.length) (backOf J H.tk.length) (backOf L H.mu.length) p) u := by
    intro p u h
    refine RV_ren (c := c1) (c1 := ⟨c.σ ++ n, τ', μ', c.hid, c1.w⟩) rfl st1 (fun b b' blk e hb => ?_) (fun i i' t e ht => ?_) (fun i i' t e ht => ?_) h
    · show (c.σ ++ n)[b']? = some blk
      rw [hn] at hb
      unfold backOf at e
      split at e
      · rename_i x hx
        cases e
        rw [List.getElem?_append_left (by rw [lσ]; exact (List.getElem?_eq_some_iff.1 hx).1), gσ b _ hx] at hb
        rw [List.getElem?_append_left (hIb _ (List.mem_of_getElem? hx))]
        exact hb
      · rename_i hx
        cases e
        have hge : I.length ≤ b := List.getElem?_eq_none_iff.1 hx
        rw [List.getElem?_append_right (by rw [lσ]; exact hge), lσ] at hb
        rw [List.getElem?_append_right (by rw [hr.len]; omega), hr.len, show H.bx.length + (b - I.length) - H.bx.length = b - I.length by omega]
        exact hb
    · show τ'[i']? = some t
      rw [← hτ']
      unfold backOf at e
      split at e
      · rename_i x hx
        cases e
        have hil : i < J.length := (List.getElem?_eq_some_iff.1 hx).1
        rw [List.getElem?_append_left (by rw [setAll_length]; exact hJb _ (List.mem_of_getElem? hx))]
        exact setAll_at c.τ J _ hJ hJb i _ t hx (by rw [List.getElem?_take, if_pos hil]; exact ht)
      · rename_i hx
        cases e
        have hge : J.length ≤ i := List.getElem?_eq_none_iff.1 hx
        rw [List.getElem?_append_right (by rw [setAll_length, htl]; omega), setAll_length, htl, List.getElem?_drop, show J.length + (H.tk.length + (i - J.length) - H.tk.length) = i by omega]
        exact ht
    · show μ'[i']? = some t
      rw [← hμ']
      unfold backOf at e
      split at e
      · rename_i x hx
        cases e
        have hil : i < L.length := (List.getElem?_eq_some_iff.1 hx).1
        rw [List.getElem?_append_left (by rw [setAll_length]; exact hLb _ (List.mem_of_getElem? hx))]
        exact setAll_at c.μ L _ hL hLb i _ t hx (by rw [List.getElem?_take, if_pos hil]; exact ht)
      · rename_i hx
        cases e
        have hge : L.length ≤ i := List.getElem?_eq_none_iff.1 hx
        rw [List.getElem?_append_right (by rw [setAll_length, hml]; omega), setAll_length, hml, List.getElem?_drop, show L.length + (H.mu.length + (i - L.length) - H.mu.length) = i by omega]
        exact ht
  have hl1 : c1.σ.length = H1.bx.length := hr1.len
  have hnl : n.length = H1.bx.length - I.length := by rw [← hl1, hn, List.length_append, lσ]; omega
  have hσlt : ∀ b ∈ c.σ, b < c.w.heap.size := hr.shid
  have unch : ∀ t ∈ c.τ, t.live = true → t ∉ τ0 → c1.w.heap[t.g]? = c.w.heap[t.g]? := fun t ht lv hnt =>
    hframe t.g (hr.tlt ht lv) (fun hm => hr.st t ht lv (mσ _ hm)) (fun t' ht' lv' e => hnt (tinj t' (mτ t' ht') t ht lv' lv e ▸ ht')) (fun t' ht' lv' e => hr.mt t' (mμ t' ht') lv' t ht lv e)
  have unchm : ∀ t ∈ c.μ, t.live = true → t ∉ μ0 → c1.w.heap[t.g]? = c.w.heap[t.g]? := fun t ht lv hnt =>
    hframe t.g (hr.mlt t ht lv) (fun hm => hr.ms t ht lv (mσ _ hm)) (fun t' ht' lv' e => hr.mt t ht lv t' (mτ t' ht') lv' e.symm) (fun t' ht' lv' e => hnt (minj t' (mμ t' ht') t ht lv' lv e ▸ ht'))
  have new1m : ∀ t ∈ c1.μ, t.live = true → t.g ∉ c.σ := by
    intro t ht lv hm
    rcases hE1.munew t ht lv with ⟨t1, h1, lv1, e⟩ | h1
    · exact hr.ms t1 (mμ t1 (m0 ▸ h1)) lv1 (e ▸ hm)
    · rw [w0] at h1; have := hσlt _ hm; omega
  have new1 : ∀ t ∈ c1.τ, t.live = true → t.g ∉ c.σ := by
    intro t ht lv hm
    rcases hE1.toknew t ht lv with ⟨t1, h1, lv1, e⟩ | h1
    · exact hr.st t1 (mτ t1 (t0 ▸ h1)) lv1 (e ▸ hm)
    · rw [w0] at h1; have := hσlt _ hm; omega
  refine ⟨rv, ⟨c.σ ++ n, τ', μ', c.hid, c1.w⟩, rfl, rfl, ?_, hEvo, rv1 _ _ hv1⟩
  refine ⟨?_, ?_, ?_, ?_, ?_, ?_, ?_, ?_, ?_, ?_, ?_, ?_, ?_, ?_, ?_, ?_, ?_, ?_⟩
  · show (c.σ ++ n).length = _
    simp [back, setAll_length, hr.len, hnl]
  · intro i b cs hb hcs
    replace hb : (c.σ ++ n)[i]? = some b := hb
    show ∃ (vals : Array Value) (T : TypeId), c1.w.heap[b]? = some (.cells vals T (0, 0)) ∧ _
    simp only [back] at hcs
    by_cases hi : i < c.σ.length
    · rw [List.getElem?_append_left hi] at hb
      rw [List.getElem?_append_left (by rw [setAll_length, ← hr.len]; exact hi)] at hcs
      by_cases hm : i ∈ I
      · obtain ⟨j, hj⟩ := List.getElem?_of_mem hm
        have hjl : j < I.length := (List.getElem?_eq_some_iff.1 hj).1
        have hj1 : j < H1.bx.length := by rw [← hl1, hn, List.length_append, lσ]; omega
        have hat : ((H1.bx.take I.length).map (renL (backOf I H.bx.length) (backOf J H.tk.length) (backOf L H.mu.length)))[j]? = some (renL (backOf I H.bx.length) (backOf J H.tk.length) (backOf L H.mu.length) H1.bx[j]) := by
          rw [List.getElem?_map, List.getElem?_take, if_pos hjl, List.getElem?_eq_getElem hj1]; rfl
        rw [setAll_at H.bx I _ hI (fun i hi => by rw [← hr.len]; exact hIb i hi) j i _ hj hat] at hcs
        cases hcs
        have hb1 : c1.σ[j]? = some b := by
          rw [hn, List.getElem?_append_left (by rw [lσ]; exact hjl), gσ j i hj]; exact hb
        obtain ⟨vals, T, e1, e2, e3⟩ := hr1.bx j b _ hb1 (List.getElem?_eq_getElem hj1)
        refine ⟨vals, T, e1, by rw [renL_eq]; simpa using e2, fun k p u hk hu => ?_⟩
        rw [renL_eq] at hk
        simp only [List.getElem?_map, Option.map_eq_some_iff] at hk
        obtain ⟨q, hq, rfl⟩ := hk
        exact ⟨rv1 _ _ (e3 k q u hq hu).1, (e3 k q u hq hu).2⟩
      · rw [setAll_other _ _ _ _ hm] at hcs
        obtain ⟨vals, T, e1, e2, e3⟩ := hr.bx i b cs hb hcs
        have hnb : b ∉ σ0 := fun hmb => by
          obtain ⟨j, hj⟩ := List.getElem?_of_mem hmb
          have hjl : j < I.length := by rw [← lσ]; exact (List.getElem?_eq_some_iff.1 hj).1
          have hj' := List.getElem?_eq_getElem hjl
          rw [gσ j _ hj'] at hj
          have := (List.getElem?_inj hi hr.nd).1 (hb.trans hj.symm)
          exact hm (this ▸ List.getElem_mem hjl)
        have hbm : b ∈ c.σ := List.mem_of_getElem? hb
        refine ⟨vals, T, ?_, e2, fun k p u hk hu => ⟨(e3 k p u hk hu).1.mono hEvo, (e3 k p u hk hu).2⟩⟩
        rw [hframe b (hσlt b hbm) hnb (fun t ht lv e => hr.st t (mτ t ht) lv (e ▸ hbm)) (fun t ht lv e => hr.ms t (mμ t ht) lv (e ▸ hbm))]
        exact e1
    · rw [List.getElem?_append_right (by omega)] at hb
      rw [List.getElem?_append_right (by rw [setAll_length, ← hr.len]; omega), setAll_length, ← hr.len] at hcs
      simp only [List.getElem?_map, List.getElem?_drop, Option.map_eq_some_iff] at hcs
      obtain ⟨cs', hcs', rfl⟩ := hcs
      have hb1 : c1.σ[I.length + (i - c.σ.length)]? = some b := by
        rw [hn, List.getElem?_append_right (by rw [lσ]; omega), lσ, show I.length + (i - c.σ.length) - I.length = i - c.σ.length by omega]; exact hb
      obtain ⟨vals, T, e1, e2, e3⟩ := hr1.bx _ b _ hb1 hcs'
      refine ⟨vals, T, e1, by rw [renL_eq]; simpa using e2, fun k p u hk hu => ?_⟩
      rw [renL_eq] at hk
      simp only [List.getElem?_map, Option.map_eq_some_iff] at hk
      obtain ⟨q, hq, rfl⟩ := hk
      have := e3 k q u hq hu
      rw [← hr.len] at rv1
      exact ⟨rv1 _ _ this.1, this.2⟩
  · show τ'.map (fun t => (t.e, t.hw)) = _
    rw [← hτ']
    have key : ∀ (l : List Tok) (J : List Nat) (xs : List Tok), (setAll l J xs).map (fun t => (t.e, t.hw)) = setAll (l.map (fun t => (t.e, t.hw))) J (xs.map (fun t => (t.e, t.hw))) := by
      intro l J
      induction J generalizing l with
      | nil => intro xs; simp [setAll]
      | cons i J ih =>
        intro xs
        cases xs with
        | nil => simp [setAll]
        | cons x xs => simp only [setAll, List.map_cons, ih]; rw [List.map_set]
    simp only [back, List.map_append, key, hr.tk, List.map_take, List.map_drop, hr1.tk]
  · intro t ht lv
    rcases memτ' t ht with ht | ⟨h1, h2⟩
    · exact hr1.tb t ht lv
    · obtain ⟨cur, e1, e2⟩ := hr.tb t h1 lv
      exact ⟨cur, (unch t h1 lv (h2 lv)).trans e1, e2⟩
  · refine List.nodup_append.2 ⟨hr.nd, ?_, fun a ha b hb e => ?_⟩
    · have := hr1.nd
      rw [hn] at this
      exact (List.nodup_append.1 this).2.1
    · have := hσlt a ha
      have := hnlt b hb
      omega
  · have cross : ∀ t ∈ c1.τ, ∀ t' ∈ c.τ, t.live = true → t'.live = true → t' ∉ τ0 → t.g ≠ t'.g := by
      intro t ht t' ht' lv lv' hnt e
      rcases hE1.toknew t ht lv with ⟨t1, h1, lv1, e1⟩ | h1
      · have h1' : t1 ∈ τ0 := t0 ▸ h1
        exact hnt (tinj t1 (mτ t1 h1') t' ht' lv1 lv' (e1.trans e) ▸ h1')
      · rw [w0] at h1; have := hr.tlt ht' lv'; omega
    have notin : ∀ (k : Nat) (t : Tok), k ∉ J → c.τ[k]? = some t → t.live = true → t ∉ τ0 := by
      intro k t hkJ hk lv hmt
      obtain ⟨q, hq⟩ := List.getElem?_of_mem hmt
      have hql : q < J.length := by rw [← lτ]; exact (List.getElem?_eq_some_iff.1 hq).1
      rw [gτ q _ (List.getElem?_eq_getElem hql)] at hq
      have := hr.td _ _ t t hk hq lv lv rfl
      exact hkJ (this ▸ List.getElem_mem hql)
    have look : ∀ k, k < τ'.length → (∃ m, m < c1.τ.length ∧ τ'[k]? = c1.τ[m]? ∧ ((∃ hk : k ∈ J, J[m]? = some k) ∨ (c.τ.length ≤ k ∧ m = J.length + (k - c.τ.length)))) ∨ (k < c.τ.length ∧ k ∉ J ∧ τ'[k]? = c.τ[k]?) := by
      intro k hk
      rw [← hτ'] at hk ⊢
      by_cases hkl : k < c.τ.length
      · rw [List.getElem?_append_left (by rw [setAll_length]; exact hkl)]
        by_cases hkJ : k ∈ J
        · obtain ⟨m, hm⟩ := List.getElem?_of_mem hkJ
          have hml : m < J.length := (List.getElem?_eq_some_iff.1 hm).1
          have hm1 : m < c1.τ.length := by omega
          refine .inl ⟨m, hm1, ?_, .inl ⟨hkJ, hm⟩⟩
          have : (c1.τ.take J.length)[m]? = some c1.τ[m] := by rw [List.getElem?_take, if_pos hml]; exact List.getElem?_eq_getElem hm1
          rw [setAll_at c.τ J _ hJ hJb m k _ hm this, List.getElem?_eq_getElem hm1]
        · exact .inr ⟨hkl, hkJ, setAll_other _ _ _ _ hkJ⟩
      · rw [List.getElem?_append_right (by rw [setAll_length]; omega), setAll_length, List.getElem?_drop]
        refine .inl ⟨J.length + (k - c.τ.length), ?_, rfl, .inr ⟨by omega, rfl⟩⟩
        simp [setAll_length] at hk
        omega
    intro i j t t' hi hj lv lv' e
    replace hi : τ'[i]? = some t := hi
    replace hj : τ'[j]? = some t' := hj
    rcases look i (List.getElem?_eq_some_iff.1 hi).1 with ⟨m, hm, e1, d1⟩ | ⟨hi1, hi2, e1⟩ <;> rcases look j (List.getElem?_eq_some_iff.1 hj).1 with ⟨m', hm', e2, d2⟩ | ⟨hj1, hj2, e2⟩
    · have := hr1.td m m' t t' (e1 ▸ hi) (e2 ▸ hj) lv lv' e
      subst this
      rcases d1 with ⟨_, d1⟩ | ⟨g1, d1⟩ <;> rcases d2 with ⟨_, d2⟩ | ⟨g2, d2⟩
      · rw [d1] at d2; cases d2; rfl
      · have := (List.getElem?_eq_some_iff.1 d1).1; omega
      · have := (List.getElem?_eq_some_iff.1 d2).1; omega
      · omega
    · exact absurd e (cross t (List.mem_of_getElem? (e1 ▸ hi)) t' (List.mem_of_getElem? (e2 ▸ hj)) lv lv' (notin j t' hj2 (e2 ▸ hj) lv'))
    · exact absurd e.symm (cross t' (List.mem_of_getElem? (e2 ▸ hj)) t (List.mem_of_getElem? (e1 ▸ hi)) lv' lv (notin i t hi2 (e1 ▸ hi) lv))
    · exact hr.td i j t t' (e1 ▸ hi) (e2 ▸ hj) lv lv' e
  · intro t ht lv hb
    replace hb : t.g ∈ c.σ ++ n := hb
    rcases memτ' t ht with h1 | ⟨h1, h2⟩
    · rcases List.mem_append.1 hb with hb | hb
      · exact new1 t h1 lv hb
      · exact hr1.st t h1 lv (by rw [hn]; exact List.mem_append_right _ hb)
    · rcases List.mem_append.1 hb with hb | hb
      · exact hr.st t h1 lv hb
      · have := hnlt _ hb; have := hr.tlt h1 lv; omega
  · intro b p h
    have := hr.hidlt b p h
    have hsz := hE1.size
    rw [w0] at hsz
    show b < c1.w.heap.size
    omega
  · intro t ht lv p h
    replace h : c.hid t.g p := h
    rcases memτ' t ht with h1 | ⟨h1, _⟩
    · exact hr1.thid t h1 lv p (by rw [hhid, h0]; exact .inl h)
    · exact hr.thid t h1 lv p h
  · intro b hb
    show b < c1.w.heap.size
    rcases List.mem_append.1 hb with hb | hb
    · have := hσlt b hb
      have hsz := hE1.size
      rw [w0] at hsz
      omega
    · exact hr1.shid b (by rw [hn]; exact List.mem_append_right _ hb)
  · intro t ht lv
    rcases memτ' t ht with h1 | ⟨h1, _⟩
    · exact hr1.dead t h1 lv
    · exact hr.dead t h1 lv
  · show μ'.length = _
    have := hr1.mlen
    simp only [back, ← hμ', List.length_append, setAll_length, List.length_drop, hml, this]
  · intro i t o hi ho
    replace hi : μ'[i]? = some t := hi
    simp only [back] at ho
    have mok1 : ∀ t o, MOk P c1 t o → MOk P ⟨c.σ ++ n, τ', μ', c.hid, c1.w⟩ t o := by
      intro t o h
      have hg : ∀ g v, RG c1.w c1.stab g v → RG c1.w (Ctx.stab ⟨c.σ ++ n, τ', μ', c.hid, c1.w⟩) g v := fun g v h => h.mono fun a u _ hs hc => ⟨hc, st1 _ _ hs⟩
      cases o with
      | gone n => exact h
      | arr n e es =>
        obtain ⟨a1, a2, a3, a4⟩ := h
        refine ⟨a1, a2, a3, a4.imp id ?_⟩
        rintro ⟨lv, cur, b1, b2, b3, b4, b5, b6⟩
        exact ⟨lv, cur, b1, b2, b3, b4, b5, fun i x j g v hx hg' hv => ⟨hg _ _ (b6 i x j g v hx hg' hv).1, (b6 i x j g v hx hg' hv).2⟩⟩
      | map es =>
        obtain ⟨a1, lv, ents, b1, b2, b3⟩ := h
        exact ⟨a1, lv, ents, b1, b2, fun i k v n hk hn => ⟨hg _ _ (b3 i k v n hk hn).1, hg _ _ (b3 i k v n hk hn).2.1, (b3 i k v n hk hn).2.2⟩⟩
    by_cases hil : i < c.μ.length
    · rw [← hμ', List.getElem?_append_left (by rw [setAll_length]; exact hil)] at hi
      rw [List.getElem?_append_left (by rw [setAll_length, ← hml]; exact hil)] at ho
      by_cases hm : i ∈ L
      · obtain ⟨j, hj⟩ := List.getElem?_of_mem hm
        have hjl : j < L.length := (List.getElem?_eq_some_iff.1 hj).1
        have hj1 : j < c1.μ.length := by omega
        have hj2 : j < H1.mu.length := by rw [← hr1.mlen]; exact hj1
        rw [setAll_at c.μ L _ hL hLb j i c1.μ[j] hj (by rw [List.getElem?_take, if_pos hjl]; exact List.getElem?_eq_getElem hj1)] at hi
        rw [setAll_at H.mu L _ hL (fun i hi => by rw [← hml]; exact hLb i hi) j i H1.mu[j] hj (by rw [List.getElem?_take, if_pos hjl]; exact List.getElem?_eq_getElem hj2)] at ho
        cases hi; cases ho
        exact mok1 _ _ (hr1.mu j _ _ (List.getElem?_eq_getElem hj1) (List.getElem?_eq_getElem hj2))
      · rw [setAll_other _ _ _ _ hm] at hi ho
        refine (hr.mu i t o hi ho).mono hEvo fun lv => unchm t (List.mem_of_getElem? hi) lv fun hmt => hm ?_
        obtain ⟨q, hq⟩ := List.getElem?_of_mem hmt
        have hql : q < L.length := by rw [← lμ]; exact (List.getElem?_eq_some_iff.1 hq).1
        rw [gμ q _ (List.getElem?_eq_getElem hql)] at hq
        have := hr.md _ _ t t hi hq lv lv rfl
        rw [this]
        exact List.getElem_mem hql
    · rw [← hμ', List.getElem?_append_right (by rw [setAll_length]; omega), setAll_length, List.getElem?_drop] at hi
      rw [List.getElem?_append_right (by rw [setAll_length, ← hml]; omega), setAll_length, List.getElem?_drop, ← hml] at ho
      exact mok1 _ _ (hr1.mu _ t o hi ho)
  · intro t ht lv
    show t.g < c1.w.heap.size
    rcases memμ' t ht with h1 | ⟨h1, _⟩
    · exact hr1.mlt t h1 lv
    · have := hr.mlt t h1 lv
      have hsz := hE1.size
      rw [w0] at hsz
      omega
  · have cross : ∀ t ∈ c1.μ, ∀ t' ∈ c.μ, t.live = true → t'.live = true → t' ∉ μ0 → t.g ≠ t'.g := by
      intro t ht t' ht' lv lv' hnt e
      rcases hE1.munew t ht lv with ⟨t1, h1, lv1, e1⟩ | h1
      · have h1' : t1 ∈ μ0 := m0 ▸ h1
        exact hnt (minj t1 (mμ t1 h1') t' ht' lv1 lv' (e1.trans e) ▸ h1')
      · rw [w0] at h1; have := hr.mlt t' ht' lv'; omega
    have notin : ∀ (k : Nat) (t : MTok), k ∉ L → c.μ[k]? = some t → t.live = true → t ∉ μ0 := by
      intro k t hkJ hk lv hmt
      obtain ⟨q, hq⟩ := List.getElem?_of_mem hmt
      have hql : q < L.length := by rw [← lμ]; exact (List.getElem?_eq_some_iff.1 hq).1
      rw [gμ q _ (List.getElem?_eq_getElem hql)] at hq
      have := hr.md _ _ t t hk hq lv lv rfl
      exact hkJ (this ▸ List.getElem_mem hql)
    have look : ∀ k, k < μ'.length → (∃ m, m < c1.μ.length ∧ μ'[k]? = c1.μ[m]? ∧ ((∃ hk : k ∈ L, L[m]? = some k) ∨ (c.μ.length ≤ k ∧ m = L.length + (k - c.μ.length)))) ∨ (k < c.μ.length ∧ k ∉ L ∧ μ'[k]? = c.μ[k]?) := by
      intro k hk
      rw [← hμ'] at hk ⊢
      by_cases hkl : k < c.μ.length
      · rw [List.getElem?_append_left (by rw [setAll_length]; exact hkl)]
        by_cases hkJ : k ∈ L
        · obtain ⟨m, hm⟩ := List.getElem?_of_mem hkJ
          have hml : m < L.length := (List.getElem?_eq_some_iff.1 hm).1
          have hm1 : m < c1.μ.length := by omega
          refine .inl ⟨m, hm1, ?_, .inl ⟨hkJ, hm⟩⟩
          have : (c1.μ.take L.length)[m]? = some c1.μ[m] := by rw [List.getElem?_take, if_pos hml]; exact List.getElem?_eq_getElem hm1
          rw [setAll_at c.μ L _ hL hLb m k _ hm this, List.getElem?_eq_getElem hm1]
        · exact .inr ⟨hkl, hkJ, setAll_other _ _ _ _ hkJ⟩
      · rw [List.getElem?_append_right (by rw [setAll_length]; omega), setAll_length, List.getElem?_drop]
        refine .inl ⟨L.length + (k - c.μ.length), ?_, rfl, .inr ⟨by omega, rfl⟩⟩
        simp [setAll_length] at hk
        omega
    intro i j t t' hi hj lv lv' e
    replace hi : μ'[i]? = some t := hi
    replace hj : μ'[j]? = some t' := hj
    rcases look i (List.getElem?_eq_some_iff.1 hi).1 with ⟨m, hm, e1, d1⟩ | ⟨hi1, hi2, e1⟩ <;> rcases look j (List.getElem?_eq_some_iff.1 hj).1 with ⟨m', hm', e2, d2⟩ | ⟨hj1, hj2, e2⟩
    · have := hr1.md m m' t t' (e1 ▸ hi) (e2 ▸ hj) lv lv' e
      subst this
      rcases d1 with ⟨_, d1⟩ | ⟨g1, d1⟩ <;> rcases d2 with ⟨_, d2⟩ | ⟨g2, d2⟩
      · rw [d1] at d2; cases d2; rfl
      · have := (List.getElem?_eq_some_iff.1 d1).1; omega
      · have := (List.getElem?_eq_some_iff.1 d2).1; omega
      · omega
    · exact absurd e (cross t (List.mem_of_getElem? (e1 ▸ hi)) t' (List.mem_of_getElem? (e2 ▸ hj)) lv lv' (notin j t' hj2 (e2 ▸ hj) lv'))
    · exact absurd e.symm (cross t' (List.mem_of_getElem? (e2 ▸ hj)) t (List.mem_of_getElem? (e1 ▸ hi)) lv' lv (notin i t hi2 (e1 ▸ hi) lv))
    · exact hr.md i j t t' (e1 ▸ hi) (e2 ▸ hj) lv lv' e
  · intro t ht lv hb
    replace hb : t.g ∈ c.σ ++ n := hb
    rcases memμ' t ht with h1 | ⟨h1, h2⟩
    · rcases List.mem_append.1 hb with hb | hb
      · exact new1m t h1 lv hb
      · exact hr1.ms t h1 lv (by rw [hn]; exact List.mem_append_right _ hb)
    · rcases List.mem_append.1 hb with hb | hb
      · exact hr.ms t h1 lv hb
      · have := hnlt _ hb; have := hr.mlt t h1 lv; omega
  · intro t ht lv t' ht' lv' e
    rcases memμ' t ht with h1 | ⟨h1, h2⟩ <;> rcases memτ' t' ht' with k1 | ⟨k1, k2⟩
    · exact hr1.mt t h1 lv t' k1 lv' e
    · rcases hE1.munew t h1 lv with ⟨t1, q1, lv1, e1⟩ | q1
      · exact hr.mt t1 (mμ t1 (m0 ▸ q1)) lv1 t' k1 lv' (e1.trans e)
      · rw [w0] at q1; have := hr.tlt k1 lv'; omega
    · rcases hE1.toknew t' k1 lv' with ⟨t1, q1, lv1, e1⟩ | q1
      · exact hr.mt t h1 lv t1 (mτ t1 (t0 ▸ q1)) lv1 (e.trans e1.symm)
      · rw [w0] at q1; have := hr.mlt t h1 lv; omega
    · exact hr.mt t h1 lv t' k1 lv' e
  · intro t ht lv p h
    replace h : c.hid t.g p := h
    rcases memμ' t ht with h1 | ⟨h1, _⟩
    · exact hr1.mhid t h1 lv p (by rw [hhid, h0]; exact .inl h)
    · exact hr.mhid t h1 lv p h
end Go.Pure
