/- A generic layer: values without memory, and code over them. -/
import Derived.Test.YtdicineiaifahaaGreatDoorPureH
import Derived.Test.YtdicineiaifahaaGreatDoorPureC
namespace Go.Pure
/-- Which of two is less. -/
def cmpI (a b : Int) : Int := if a < b then -1 else if b < a then 1 else 0
theorem cmpI_lt {a b : Int} : cmpI a b < 0 ↔ a < b := by
  unfold cmpI
  split
  · simp [*]
  · split <;> simp [*]
theorem cmpI_scale {a b k : Int} (hk : 0 < k) : cmpI (a * k) (b * k) = cmpI a b := by
  have h1 : ∀ x y : Int, x * k < y * k ↔ x < y := fun x y => ⟨fun h => Int.lt_of_mul_lt_mul_right h (Int.le_of_lt hk), fun h => Int.mul_lt_mul_of_pos_right h hk⟩
  unfold cmpI
  simp only [h1]

/-- How many of the smallest units a number has. -/
def decN (c e : Int) : Int := c * 10 ^ (e + 40).toNat
/-- How many units of 10^m. -/
def decU (c e m : Int) : Int := c * ((10 ^ (e - m).toNat : Nat) : Int)
theorem decN_units {c e m : Int} (h : -40 ≤ m) (hm : m ≤ e) : decN c e = decU c e m * 10 ^ (m + 40).toNat := by
  unfold decN decU
  rw [Int.mul_assoc, Int.natCast_pow, show ((10 : Nat) : Int) = 10 from rfl, ← Int.pow_add, show (e - m).toNat + (m + 40).toNat = (e + 40).toNat by omega]
/-- The order of numbers. -/
def cmpD (c e d f : Int) : Int := cmpI (decU c e (min e f)) (decU d f (min e f))
theorem ten_pos (k : Nat) : (0 : Int) < 10 ^ k := Int.pow_pos (by decide)
theorem cmpD_eq {c e d f : Int} (he : -40 ≤ e) (hf : -40 ≤ f) : cmpD c e d f = cmpI (decN c e) (decN d f) := by
  unfold cmpD
  rw [decN_units (m := min e f) (c := c) (e := e) (by omega) (by omega), decN_units (m := min e f) (c := d) (e := f) (by omega) (by omega), cmpI_scale (ten_pos _)]
theorem wrongD_ok {c e : Int} (h : wrongD c e = 0) : (-999999999999999999 ≤ c ∧ c ≤ 999999999999999999 ∧ -40 ≤ e ∧ e ≤ 40) ∧ (c = 0 → e = 0) ∧ (c ≠ 0 → c.tmod 10 ≠ 0) := by
  unfold wrongD at h
  split at h
  · cases h
  · split at h
    · cases h
    · split at h
      · cases h
      · refine ⟨by omega, fun h0 => ?_, fun h0 => ?_⟩
        · rename_i h1 _
          exact Classical.byContradiction fun h2 => h1 ⟨h0, h2⟩
        · rename_i h2
          exact fun h3 => h2 ⟨h0, h3⟩
theorem decN_inj {c e d f : Int} (h1 : wrongD c e = 0) (h2 : wrongD d f = 0) (h : decN c e = decN d f) : c = d ∧ e = f := by
  have key : ∀ {c e d f : Int}, wrongD c e = 0 → wrongD d f = 0 → decN c e = decN d f → e < f → False := by
    intro c e d f h1 h2 h hlt
    obtain ⟨⟨a1, a2, a3, a4⟩, a5, a6⟩ := wrongD_ok h1
    obtain ⟨⟨b1, b2, b3, b4⟩, b5, b6⟩ := wrongD_ok h2
    rw [decN_units (m := e) (c := d) (e := f) (by omega) (by omega)] at h
    unfold decN at h
    have hc : c = decU d f e := Int.eq_of_mul_eq_mul_right (Int.ne_of_gt (ten_pos _)) h
    have hk : (f - e).toNat = ((f - e).toNat - 1) + 1 := by omega
    have hdiv : c.tmod 10 = 0 := by
      rw [hc]
      unfold decU
      rw [hk, Nat.pow_succ]
      push_cast
      rw [← Int.mul_assoc]
      exact Int.mul_tmod_left _ _
    by_cases h0 : c = 0
    · have he := a5 h0
      rw [h0] at hc
      unfold decU at hc
      have hd : d = 0 := by
        rcases Int.mul_eq_zero.1 hc.symm with hd | hd
        · exact hd
        · exfalso
          have := Nat.pow_pos (n := (f - e).toNat) (show 0 < 10 by decide)
          omega
      have := b5 hd
      omega
    · exact a6 h0 hdiv
  rcases Int.lt_trichotomy e f with hlt | heq | hgt
  · exact (key h1 h2 h hlt).elim
  · subst heq
    unfold decN at h
    exact ⟨Int.eq_of_mul_eq_mul_right (Int.ne_of_gt (ten_pos _)) h, rfl⟩
  · exact (key h2 h1 h.symm hgt).elim
/-- Of two right numbers one is less, or they are the same. -/
theorem cmpD_one {c e d f : Int} (h1 : wrongD c e = 0) (h2 : wrongD d f = 0) :
    (decide (cmpD c e d f < 0)).toNat + (decide (cmpD d f c e < 0)).toNat + (decide (c = d ∧ e = f)).toNat = 1 := by
  have a := (wrongD_ok h1).1
  have b := (wrongD_ok h2).1
  rw [cmpD_eq (by omega) (by omega), cmpD_eq (by omega) (by omega)]
  simp only [cmpI_lt]
  rcases Int.lt_trichotomy (decN c e) (decN d f) with h | h | h
  · have hn : ¬ (c = d ∧ e = f) := fun ⟨x, y⟩ => by subst x; subst y; omega
    rw [decide_eq_true h, decide_eq_false (by omega), decide_eq_false hn]; rfl
  · rw [decide_eq_false (by omega), decide_eq_false (by omega), decide_eq_true (decN_inj h1 h2 h)]; rfl
  · have hn : ¬ (c = d ∧ e = f) := fun ⟨x, y⟩ => by subst x; subst y; omega
    rw [decide_eq_false (by omega), decide_eq_true h, decide_eq_false hn]; rfl
theorem cmpD_trans {c e d f x y : Int} (h1 : wrongD c e = 0) (h2 : wrongD d f = 0) (h3 : wrongD x y = 0) (hab : cmpD c e d f < 0) (hbc : cmpD d f x y < 0) : cmpD c e x y < 0 := by
  have a := (wrongD_ok h1).1
  have b := (wrongD_ok h2).1
  have q := (wrongD_ok h3).1
  rw [cmpD_eq (by omega) (by omega), cmpI_lt] at *
  omega

/-! Texts -/
theorem bytesLess_cons (x y : UInt8) (r s : List UInt8) : Op.bytesLess (x :: r) (y :: s) = (decide (x < y) || (x == y && Op.bytesLess r s)) := rfl
theorem u8_cases (x y : UInt8) : (x < y ∧ ¬ y < x ∧ x ≠ y) ∨ (x = y) ∨ (y < x ∧ ¬ x < y ∧ x ≠ y) := by
  rcases Nat.lt_trichotomy x.toNat y.toNat with h | h | h
  · exact .inl ⟨UInt8.lt_iff_toNat_lt.2 h, fun h2 => by have := UInt8.lt_iff_toNat_lt.1 h2; omega, fun e => by subst e; omega⟩
  · exact .inr (.inl (UInt8.toNat_inj.1 h))
  · exact .inr (.inr ⟨UInt8.lt_iff_toNat_lt.2 h, fun h2 => by have := UInt8.lt_iff_toNat_lt.1 h2; omega, fun e => by subst e; omega⟩)
theorem bytesLess_one : ∀ a b : List UInt8, (Op.bytesLess a b).toNat + (Op.bytesLess b a).toNat + (decide (a = b)).toNat = 1
  | [], [] => rfl
  | [], _ :: _ => by simp [Op.bytesLess]
  | _ :: _, [] => by simp [Op.bytesLess]
  | x :: r, y :: s => by
    have ih := bytesLess_one r s
    rw [bytesLess_cons, bytesLess_cons]
    rcases u8_cases x y with ⟨h1, h2, h3⟩ | h | ⟨h1, h2, h3⟩
    · simp [h1, h2, h3, Ne.symm h3]
    · subst h
      have hi : ¬ x < x := fun h => by have := UInt8.lt_iff_toNat_lt.1 h; omega
      simpa [hi] using ih
    · simp [h1, h2, h3, Ne.symm h3]
theorem bytesLess_trans : ∀ a b c : List UInt8, Op.bytesLess a b = true → Op.bytesLess b c = true → Op.bytesLess a c = true
  | _, [], _, h, _ => by simp [Op.bytesLess] at h
  | _, _ :: _, [], _, h => by simp [Op.bytesLess] at h
  | [], _ :: _, _ :: _, _, _ => rfl
  | x :: r, y :: s, z :: q, h1, h2 => by
    have ih := bytesLess_trans r s q
    rw [bytesLess_cons] at h1 h2 ⊢
    simp only [Bool.or_eq_true, decide_eq_true_eq, Bool.and_eq_true, beq_iff_eq] at h1 h2 ⊢
    rcases h1 with h1 | ⟨h1, h1'⟩ <;> rcases h2 with h2 | ⟨h2, h2'⟩
    · left
      have a1 := UInt8.lt_iff_toNat_lt.1 h1
      have a2 := UInt8.lt_iff_toNat_lt.1 h2
      exact UInt8.lt_iff_toNat_lt.2 (by omega)
    · subst h2; exact .inl h1
    · subst h1; exact .inl h2
    · exact .inr ⟨h1.trans h2, ih h1' h2'⟩

/-- Whether a value is less: yes (1), no (-1), not known (0). -/
def lessV : VVal → VVal → Int
  | .mk k _ c e t _, .mk k' _ c' e' t' _ => if k = 3 ∧ k' = 3 then (if wrongD c e ≠ 0 ∨ wrongD c' e' ≠ 0 then 0 else tB (decide (cmpD c e c' e' < 0))) else if k = 4 ∧ k' = 4 then tB (Op.bytesLess t.toList t'.toList) else 0
theorem lessV_eq (k : Int) (y : Bool) (c e : Int) (t : ByteArray) (l : List VVal) (k' : Int) (y' : Bool) (c' e' : Int) (t' : ByteArray) (l' : List VVal) : lessV (.mk k y c e t l) (.mk k' y' c' e' t' l') =
    if k = 3 ∧ k' = 3 then (if wrongD c e ≠ 0 ∨ wrongD c' e' ≠ 0 then 0 else tB (decide (cmpD c e c' e' < 0))) else if k = 4 ∧ k' = 4 then tB (Op.bytesLess t.toList t'.toList) else 0 := rfl
theorem lessV_rng (a b : VVal) : lessV a b = 0 ∨ lessV a b = 1 ∨ lessV a b = -1 := by
  obtain ⟨k, y, c, e, t, l⟩ := a
  obtain ⟨k', y', c', e', t', l'⟩ := b
  have h : ∀ b : Bool, tB b = 0 ∨ tB b = 1 ∨ tB b = -1 := by intro b; cases b <;> decide
  rw [lessV_eq]
  by_cases h1 : k = 3 ∧ k' = 3
  · rw [if_pos h1]
    by_cases h2 : wrongD c e ≠ 0 ∨ wrongD c' e' ≠ 0
    · exact .inl (by rw [if_pos h2])
    · rw [if_neg h2]; exact h _
  · rw [if_neg h1]
    by_cases h2 : k = 4 ∧ k' = 4
    · rw [if_pos h2]; exact h _
    · exact .inl (by rw [if_neg h2])
theorem lookV_num {V : ByteArray → Bool} {y : Bool} {c e : Int} {t : ByteArray} {l : List VVal} (h : (lookV V (.mk 3 y c e t l) 0 1).2 = 0) : wrongD c e = 0 := by
  rw [lookV_eq] at h
  simpa using h
/-- Two numbers, or two texts, that are right: all is known, and just one of less, more and same holds. -/
theorem order_one {V : ByteArray → Bool} {k : Int} {y y' : Bool} {c e c' e' : Int} {t t' : ByteArray} {l l' : List VVal} (hk : k = 3 ∨ k = 4) (h1 : (lookV V (.mk k y c e t l) 0 1).2 = 0) (h2 : (lookV V (.mk k y' c' e' t' l') 0 1).2 = 0) :
    ∃ p q r : Bool, lessV (.mk k y c e t l) (.mk k y' c' e' t' l') = tB p ∧ lessV (.mk k y' c' e' t' l') (.mk k y c e t l) = tB q ∧ eqV (.mk k y c e t l) (.mk k y' c' e' t' l') = tB r ∧ p.toNat + q.toNat + r.toNat = 1 := by
  rcases hk with hk | hk <;> subst hk
  · have a := lookV_num h1
    have b := lookV_num h2
    refine ⟨_, _, _, ?_, ?_, ?_, cmpD_one a b⟩
    · simp [lessV, a, b]
    · simp [lessV, a, b]
    · rw [eqV_eq]; simp
  · refine ⟨_, _, _, ?_, ?_, ?_, bytesLess_one t.toList t'.toList⟩
    · simp [lessV]
    · simp [lessV]
    · rw [eqV_eq]
      simp only [if_true]
      rw [if_neg (by decide), if_neg (by decide)]
      congr 1
      exact (Bool.beq_eq_decide_eq _ _)
theorem order_trans {V : ByteArray → Bool} {k : Int} {y y' y2 : Bool} {c e c' e' c2 e2 : Int} {t t' t2 : ByteArray} {l l' l2 : List VVal} (hk : k = 3 ∨ k = 4) (h1 : (lookV V (.mk k y c e t l) 0 1).2 = 0) (h2 : (lookV V (.mk k y' c' e' t' l') 0 1).2 = 0) (h3 : (lookV V (.mk k y2 c2 e2 t2 l2) 0 1).2 = 0)
    (hab : lessV (.mk k y c e t l) (.mk k y' c' e' t' l') = 1) (hbc : lessV (.mk k y' c' e' t' l') (.mk k y2 c2 e2 t2 l2) = 1) : lessV (.mk k y c e t l) (.mk k y2 c2 e2 t2 l2) = 1 := by
  rcases hk with hk | hk <;> subst hk
  · have a := lookV_num h1
    have b := lookV_num h2
    have d := lookV_num h3
    have e1 : lessV (.mk 3 y c e t l) (.mk 3 y' c' e' t' l') = tB (decide (cmpD c e c' e' < 0)) := by simp [lessV, a, b]
    have e2' : lessV (.mk 3 y' c' e' t' l') (.mk 3 y2 c2 e2 t2 l2) = tB (decide (cmpD c' e' c2 e2 < 0)) := by simp [lessV, b, d]
    have e3 : lessV (.mk 3 y c e t l) (.mk 3 y2 c2 e2 t2 l2) = tB (decide (cmpD c e c2 e2 < 0)) := by simp [lessV, a, d]
    rw [e1] at hab
    rw [e2'] at hbc
    have p := of_decide_eq_true (tB_one.1 hab)
    have q := of_decide_eq_true (tB_one.1 hbc)
    rw [e3, decide_eq_true (cmpD_trans a b d p q)]
    rfl
  · have e1 : lessV (.mk 4 y c e t l) (.mk 4 y' c' e' t' l') = tB (Op.bytesLess t.toList t'.toList) := by simp [lessV]
    have e2' : lessV (.mk 4 y' c' e' t' l') (.mk 4 y2 c2 e2 t2 l2) = tB (Op.bytesLess t'.toList t2.toList) := by simp [lessV]
    have e3 : lessV (.mk 4 y c e t l) (.mk 4 y2 c2 e2 t2 l2) = tB (Op.bytesLess t.toList t2.toList) := by simp [lessV]
    rw [e1] at hab
    rw [e2'] at hbc
    have p := tB_one.1 hab
    have q := tB_one.1 hbc
    rw [e3, bytesLess_trans _ _ _ p q]
    rfl
end Go.Pure


/- A generic layer: interface values (made, called, held against nil and against each other); going over a text rune by rune. -/
namespace Go.Pure
open Go

section
variable {P : Program} {o : Oper} {ρ : Operand → PV} {H H' : PH}

/-! Interface values, held against each other -/
/-- Is an interface value nil? -/
def NilI (p : PV) (r : Bool) : Prop := (p = .g (.raw .nilIface) ∧ r = true) ∨ (r = false ∧ ((∃ t q, p = .ifc t q) ∨ ∃ g off, p = .kv g off ∧ ∀ β, gok β → ∃ t u, lkG (gfacts β) g off = some (.iface t u)))
theorem NilI.nil : NilI (.g (.raw .nilIface)) true := .inl ⟨rfl, rfl⟩
theorem NilI.ifc (t : TypeId) (q : PV) : NilI (.ifc t q) false := .inr ⟨rfl, .inl ⟨t, q, rfl⟩⟩
theorem NilI.kv {g off : Nat} (h : ∀ β, gok β → ∃ t u, lkG (gfacts β) g off = some (.iface t u)) : NilI (.kv g off) false := .inr ⟨rfl, .inr ⟨g, off, rfl, h⟩⟩
theorem kv_val {c : Ctx} (hg : GL c) {g off : Nat} {v : Value} (h : RV c (.kv g off) v) : ∃ β, gok β ∧ ∀ u, lkG (gfacts β) g off = some u → v = u := by
  obtain ⟨⟨β, hk, gl⟩, _⟩ := hg
  refine ⟨β, hk, fun u hu => ?_⟩
  obtain ⟨vs, hm, hvs⟩ := lkG_mem hu
  have hc := (gl _ hm off u hvs).1
  cases h with
  | kv _ _ _ h hs h1 => rw [hc] at h; cases h; rfl
theorem NilI.ok {c : Ctx} {p : PV} {v : Value} {r : Bool} (hg : GL c) (h : RV c p v) (hr : NilI p r) : (r = true ∧ v = .nilIface) ∨ (r = false ∧ ∃ t u, v = .iface t u) := by
  rcases hr with ⟨rfl, rfl⟩ | ⟨rfl, ⟨t, q, rfl⟩ | ⟨g, off, rfl, hf⟩⟩
  · exact .inl ⟨rfl, RV_raw h⟩
  · cases h with
    | ifc t p v h => exact .inr ⟨rfl, _, _, rfl⟩
  · obtain ⟨β, hk, hb⟩ := kv_val hg h
    obtain ⟨t, u, hu⟩ := hf β hk
    exact .inr ⟨rfl, t, u, hb _ hu⟩
/-! Going over a text -/
end
end Go.Pure


/- A generic layer: of what a function leaves behind some boxes and arrays are kept, and numbered anew. -/
namespace Go.Pure
open Go

theorem Rel.sel {P : Program} {c : Ctx} {H H0 : PH} (hr : Rel P c H) {I J L : List Nat} (hI : I.Nodup) (hJ : J.Nodup) (hL : L.Nodup) (hIl : H0.bx.length = I.length)
    (hI' : ∀ (j i : Nat), I[j]? = some i → ∃ cs, H.bx[i]? = some cs ∧ H0.bx[j]? = some (renL (posOf I) (posOf J) (posOf L) cs))
    (hJl : H0.tk.length = J.length) (hJ' : ∀ (j i : Nat), J[j]? = some i → ∃ x, H.tk[i]? = some x ∧ H0.tk[j]? = some x)
    (hLl : H0.mu.length = L.length) (hL' : ∀ (j i : Nat), L[j]? = some i → ∃ x, H.mu[i]? = some x ∧ H0.mu[j]? = some x) :
    ∃ c0 : Ctx, c0.w = c.w ∧ c0.hid = c.hid ∧ Rel P c0 H0 ∧ (∀ p v, RV c p v → RV c0 (ren (posOf I) (posOf J) (posOf L) p) v) ∧ (∀ b p, c.stab b p → c0.stab b p) ∧
      c0.σ.length = I.length ∧ (∀ (j i : Nat), I[j]? = some i → c0.σ[j]? = c.σ[i]?) ∧ (∀ (j i : Nat), J[j]? = some i → c0.τ[j]? = c.τ[i]?) ∧ (∀ (j i : Nat), L[j]? = some i → c0.μ[j]? = c.μ[i]?) ∧ (∀ t ∈ c0.τ, t ∈ c.τ) ∧ (∀ t ∈ c0.μ, t ∈ c.μ) ∧ ∀ b ∈ c0.σ, b ∈ c.σ := by
  have hIb : ∀ i ∈ I, i < c.σ.length := fun i hi => by
    obtain ⟨j, hj⟩ := List.getElem?_of_mem hi
    obtain ⟨cs, h1, _⟩ := hI' j i hj
    rw [hr.len]; exact (List.getElem?_eq_some_iff.1 h1).1
  have htl : c.τ.length = H.tk.length := by rw [← hr.tk]; simp
  have hJb : ∀ i ∈ J, i < c.τ.length := fun i hi => by
    obtain ⟨j, hj⟩ := List.getElem?_of_mem hi
    obtain ⟨x, h1, _⟩ := hJ' j i hj
    rw [htl]; exact (List.getElem?_eq_some_iff.1 h1).1
  have hml : c.μ.length = H.mu.length := hr.mlen
  have hLb : ∀ i ∈ L, i < c.μ.length := fun i hi => by
    obtain ⟨j, hj⟩ := List.getElem?_of_mem hi
    obtain ⟨x, h1, _⟩ := hL' j i hj
    rw [hml]; exact (List.getElem?_eq_some_iff.1 h1).1
  generalize hμ0 : L.map (c.μ[·]!) = μ0
  have gμ : ∀ (j i : Nat), L[j]? = some i → μ0[j]? = c.μ[i]? := fun j i hj => hμ0 ▸ getElem_of_list hLb j i hj
  have lμ : μ0.length = L.length := by rw [← hμ0]; simp
  have mμ : ∀ t ∈ μ0, t ∈ c.μ := fun b hb => by
    obtain ⟨j, hj⟩ := List.getElem?_of_mem hb
    have hlt : j < L.length := by rw [← lμ]; exact (List.getElem?_eq_some_iff.1 hj).1
    rw [gμ j L[j] (List.getElem?_eq_getElem hlt)] at hj
    exact List.mem_of_getElem? hj
  have minj : ∀ t ∈ c.μ, ∀ t' ∈ c.μ, t.live = true → t'.live = true → t.g = t'.g → t = t' := by
    intro t ht t' ht' lv lv' e
    obtain ⟨i, hi⟩ := List.getElem?_of_mem ht
    obtain ⟨j, hj⟩ := List.getElem?_of_mem ht'
    have hij : i = j := hr.md i j t t' hi hj lv lv' e
    subst hij
    rw [hi] at hj
    exact Option.some.inj hj
  generalize hσ0 : I.map (c.σ[·]!) = σ0
  generalize hτ0 : J.map (c.τ[·]!) = τ0
  have gσ : ∀ (j i : Nat), I[j]? = some i → σ0[j]? = c.σ[i]? := fun j i hj => hσ0 ▸ getElem_of_list hIb j i hj
  have gτ : ∀ (j i : Nat), J[j]? = some i → τ0[j]? = c.τ[i]? := fun j i hj => hτ0 ▸ getElem_of_list hJb j i hj
  have lσ : σ0.length = I.length := by rw [← hσ0]; simp
  have lτ : τ0.length = J.length := by rw [← hτ0]; simp
  have mσ : ∀ b ∈ σ0, b ∈ c.σ := fun b hb => by
    obtain ⟨j, hj⟩ := List.getElem?_of_mem hb
    have hlt : j < I.length := by rw [← lσ]; exact (List.getElem?_eq_some_iff.1 hj).1
    rw [gσ j I[j] (List.getElem?_eq_getElem hlt)] at hj
    exact List.mem_of_getElem? hj
  have mτ : ∀ t ∈ τ0, t ∈ c.τ := fun b hb => by
    obtain ⟨j, hj⟩ := List.getElem?_of_mem hb
    have hlt : j < J.length := by rw [← lτ]; exact (List.getElem?_eq_some_iff.1 hj).1
    rw [gτ j J[j] (List.getElem?_eq_getElem hlt)] at hj
    exact List.mem_of_getElem? hj
  have tinj : ∀ t ∈ c.τ, ∀ t' ∈ c.τ, t.live = true → t'.live = true → t.g = t'.g → t = t' := by
    intro t ht t' ht' lv lv' e
    obtain ⟨i, hi⟩ := List.getElem?_of_mem ht
    obtain ⟨j, hj⟩ := List.getElem?_of_mem ht'
    have hij : i = j := hr.td i j t t' hi hj lv lv' e
    subst hij
    rw [hi] at hj
    exact Option.some.inj hj
  generalize hc0 : (⟨σ0, τ0, μ0, c.hid, c.w⟩ : Ctx) = c0
  have s0 : c0.σ = σ0 := by rw [← hc0]
  have t0 : c0.τ = τ0 := by rw [← hc0]
  have m0 : c0.μ = μ0 := by rw [← hc0]
  have w0 : c0.w = c.w := by rw [← hc0]
  have h0 : c0.hid = c.hid := by rw [← hc0]
  have st0 : ∀ b p, c.stab b p → c0.stab b p := by
    rintro b p ⟨q1, q2, q3, q4⟩
    exact ⟨by rw [h0]; exact q1, fun hb => q2 (mσ b (s0 ▸ hb)), fun t ht lv => q3 t (mτ t (t0 ▸ ht)) lv, fun t ht lv => q4 t (mμ t (m0 ▸ ht)) lv⟩
  have rv0 : ∀ p v, RV c p v → RV c0 (ren (posOf I) (posOf J) (posOf L) p) v := fun p v h => RV_ren w0 st0
    (fun b b' blk e hb => by rw [s0, gσ b' b (posOf_some e)]; exact hb) (fun i i' t e ht => by rw [t0, gτ i' i (posOf_some e)]; exact ht) (fun i i' t e ht => by rw [m0, gμ i' i (posOf_some e)]; exact ht) h
  have mok0 : ∀ t o, MOk P c t o → MOk P c0 t o := by
    intro t o h
    have hg : ∀ g v, RG c.w c.stab g v → RG c0.w c0.stab g v := fun g v h => h.mono fun a u _ hs hc => ⟨by rw [w0]; exact hc, st0 _ _ hs⟩
    cases o with
    | gone n => exact h
    | arr n e es =>
      obtain ⟨a1, a2, a3, a4⟩ := h
      refine ⟨a1, a2, a3, a4.imp id ?_⟩
      rintro ⟨lv, cur, b1, b2, b3, b4, b5, b6⟩
      exact ⟨lv, cur, by rw [w0]; exact b1, b2, b3, b4, b5, fun i x j g v hx hg' hv => ⟨hg _ _ (b6 i x j g v hx hg' hv).1, (b6 i x j g v hx hg' hv).2⟩⟩
    | map es =>
      obtain ⟨a1, lv, ents, es', hp, b1, b2, b3⟩ := h
      exact ⟨a1, lv, ents, es', hp, by rw [w0]; exact b1, b2, fun i k v n hk hn => ⟨hg _ _ (b3 i k v n hk hn).1, hg _ _ (b3 i k v n hk hn).2.1, (b3 i k v n hk hn).2.2⟩⟩
    | iter n s pos => exact ⟨h.1, h.2.1, by rw [w0]; exact h.2.2⟩
  have rel0 : Rel P c0 H0 := by
    refine ⟨by rw [s0, lσ, hIl], ?_, ?_, ?_, ?_, ?_, ?_, ?_, ?_, ?_, fun t ht => hr.dead t (mτ t (t0 ▸ ht)), by rw [m0, lμ, hLl], ?_, fun t ht lv => by rw [w0]; exact hr.mlt t (mμ t (m0 ▸ ht)) lv, ?_, fun t ht lv hb => hr.ms t (mμ t (m0 ▸ ht)) lv (mσ _ (s0 ▸ hb)), fun t ht lv t' ht' lv' => hr.mt t (mμ t (m0 ▸ ht)) lv t' (mτ t' (t0 ▸ ht')) lv', ?_, hr.gl.of_stab w0 st0⟩
    · intro j b cs hb hcs
      rw [s0] at hb
      have hlt : j < I.length := by rw [← lσ]; exact (List.getElem?_eq_some_iff.1 hb).1
      have hj := List.getElem?_eq_getElem hlt
      rw [gσ j _ hj] at hb
      obtain ⟨cs', k1, k2⟩ := hI' j _ hj
      rw [k2] at hcs
      cases hcs
      obtain ⟨vals, T, e1, e2, e3⟩ := hr.bx _ b cs' hb k1
      rw [w0]
      refine ⟨vals, T, e1, by rw [renL_eq]; simpa using e2, fun k p u hk hu => ?_⟩
      rw [renL_eq] at hk
      simp only [List.getElem?_map, Option.map_eq_some_iff] at hk
      obtain ⟨q, hq, rfl⟩ := hk
      exact ⟨rv0 _ _ (e3 k q u hq hu).1, (e3 k q u hq hu).2⟩
    · rw [t0]
      refine List.ext_getElem? fun j => ?_
      by_cases hlt : j < J.length
      · have hj := List.getElem?_eq_getElem hlt
        obtain ⟨x, k1, k2⟩ := hJ' j _ hj
        rw [k2, List.getElem?_map, gτ j _ hj, ← List.getElem?_map, hr.tk]
        exact k1
      · rw [List.getElem?_eq_none (by simp [lτ]; omega), List.getElem?_eq_none (by omega)]
    · intro t ht lv
      rw [w0]
      exact hr.tb t (mτ t (t0 ▸ ht)) lv
    · rw [s0, ← hσ0]
      refine List.pairwise_map.2 (List.Pairwise.imp_of_mem ?_ hI)
      intro i i' hi hi' hne e
      have l1 := hIb i hi
      have l2 := hIb i' hi'
      simp only [getElem!_pos, l1, l2] at e
      exact hne (nodup_at hr.nd l1 l2 e)
    · intro i j t t' hi hj lv lv' e
      rw [t0] at hi hj
      have li : i < J.length := by rw [← lτ]; exact (List.getElem?_eq_some_iff.1 hi).1
      have lj : j < J.length := by rw [← lτ]; exact (List.getElem?_eq_some_iff.1 hj).1
      rw [gτ i _ (List.getElem?_eq_getElem li)] at hi
      rw [gτ j _ (List.getElem?_eq_getElem lj)] at hj
      exact nodup_at hJ li lj (hr.td _ _ t t' hi hj lv lv' e)
    · intro t ht lv hb
      exact hr.st t (mτ t (t0 ▸ ht)) lv (mσ _ (s0 ▸ hb))
    · intro b p h
      rw [w0]
      rw [h0] at h
      exact hr.hidlt b p h
    · intro t ht lv p h
      rw [h0] at h
      exact hr.thid t (mτ t (t0 ▸ ht)) lv p h
    · intro b hb
      rw [w0]
      exact hr.shid b (mσ b (s0 ▸ hb))
    · intro j t o hj ho
      rw [m0] at hj
      have hlt : j < L.length := by rw [← lμ]; exact (List.getElem?_eq_some_iff.1 hj).1
      have hj' := List.getElem?_eq_getElem hlt
      rw [gμ j _ hj'] at hj
      obtain ⟨x, k1, k2⟩ := hL' j _ hj'
      rw [k2] at ho
      cases ho
      exact mok0 t o (hr.mu _ t o hj k1)
    · intro i j t t' hi hj lv lv' e
      rw [m0] at hi hj
      have li : i < L.length := by rw [← lμ]; exact (List.getElem?_eq_some_iff.1 hi).1
      have lj : j < L.length := by rw [← lμ]; exact (List.getElem?_eq_some_iff.1 hj).1
      rw [gμ i _ (List.getElem?_eq_getElem li)] at hi
      rw [gμ j _ (List.getElem?_eq_getElem lj)] at hj
      exact nodup_at hL li lj (hr.md _ _ t t' hi hj lv lv' e)
    · intro t ht lv p h
      rw [h0] at h
      exact hr.mhid t (mμ t (m0 ▸ ht)) lv p h

  exact ⟨c0, w0, h0, rel0, rv0, st0, by rw [s0, lσ], fun j i h => by rw [s0]; exact gσ j i h, fun j i h => by rw [t0]; exact gτ j i h, fun j i h => by rw [m0]; exact gμ j i h, fun t ht => mτ t (t0 ▸ ht), fun t ht => mμ t (m0 ▸ ht), fun b hb => mσ b (s0 ▸ hb)⟩

/-- A contract that keeps some of what the function made: I, J, L begin with what was there. -/
theorem PC.sel {P : Program} {f : FuncId} {args : List PV} {H H1 H2 : PH} {v v' : PV} (hp : PC P f args H v H1) (I J L : List Nat) (hn : (nodupB I && nodupB J && nodupB L) = true)
    (i0 : I.take H.bx.length = List.range H.bx.length) (j0 : J.take H.tk.length = List.range H.tk.length) (l0 : L.take H.mu.length = List.range H.mu.length)
    (hb : pickB I J L H1.bx I = some H2.bx) (ht : pickT H1.tk J = some H2.tk) (hm : pickM H1.mu L = some H2.mu) (hv : deepV (ren (posOf I) (posOf J) (posOf L) v) = some v') : PC P f args H v' H2 := by
  rw [deepV_eq] at hv
  cases hv
  simp only [Bool.and_eq_true] at hn
  obtain ⟨b1, b2⟩ := pickB_spec hb
  obtain ⟨t1, t2⟩ := pickT_spec ht
  obtain ⟨m1, m2⟩ := pickM_spec hm
  have at0 : ∀ {X : List Nat} {n : Nat}, X.take n = List.range n → ∀ i, i < n → X[i]? = some i := by
    intro X n h i hi
    have : (X.take n)[i]? = some i := by rw [h]; simp [hi]
    rwa [List.getElem?_take, if_pos hi] at this
  intro c vs hr ha
  refine (hp c vs hr ha).mono fun e w' ⟨rv, c1, he, hw1, hr1, hE1, hv1⟩ => ?_
  obtain ⟨c0, w0, h0, r0, rv0, st0, ls, gs, gt, gm, mt, mm, ms⟩ := hr1.sel (nodupB_spec hn.1.1) (nodupB_spec hn.1.2) (nodupB_spec hn.2) b1 b2 t1 t2 m1 m2
  have htl : c.τ.length = H.tk.length := by rw [← hr.tk]; simp
  obtain ⟨n, hsn, hnb⟩ := hE1.sig
  refine ⟨rv, c0, he, w0.trans hw1, r0, ⟨by rw [w0]; exact hE1.os, by rw [w0]; exact hE1.tape, by rw [w0]; exact hE1.output, by rw [w0]; exact hE1.size, h0.trans hE1.hid, ⟨c0.σ.drop c.σ.length, ?_, ?_⟩, ?_, ?_, ?_, ?_, ?_, ?_⟩, rv0 _ _ hv1⟩
  · refine List.ext_getElem? fun i => ?_
    by_cases hi : i < c.σ.length
    · rw [List.getElem?_append_left hi, gs i i (at0 i0 i (by rw [← hr.len]; exact hi)), hsn, List.getElem?_append_left hi]
    · rw [List.getElem?_append_right (by omega), List.getElem?_drop]
      congr 1
      omega
  · intro b hb
    obtain ⟨k, hk⟩ := List.getElem?_of_mem hb
    rw [List.getElem?_drop] at hk
    have hlt : c.σ.length + k < I.length := by rw [← ls]; exact (List.getElem?_eq_some_iff.1 hk).1
    rw [gs _ _ (List.getElem?_eq_getElem hlt)] at hk
    have hge : ¬ I[c.σ.length + k] < c.σ.length := by
      intro hlt2
      have e1 := at0 i0 _ (by rw [← hr.len]; exact hlt2)
      have hnd := nodupB_spec hn.1.1
      have hb1 : I[c.σ.length + k] < I.length := (List.getElem?_eq_some_iff.1 e1).1
      have e2 : I[I[c.σ.length + k]] = I[c.σ.length + k] := (List.getElem?_eq_some_iff.1 e1).2
      have := nodup_at hnd hb1 hlt e2
      omega
    rw [hsn, List.getElem?_append_right (by omega)] at hk
    exact hnb b (List.mem_of_getElem? hk)
  · intro id t hid
    obtain ⟨t', h1, h2⟩ := hE1.tok id t hid
    exact ⟨t', (gt id id (at0 j0 id (by rw [← htl]; exact (List.getElem?_eq_some_iff.1 hid).1))).trans h1, h2⟩
  · intro id t hid
    obtain ⟨t', h1, h2⟩ := hE1.mu id t hid
    exact ⟨t', (gm id id (at0 l0 id (by rw [← hr.mlen]; exact (List.getElem?_eq_some_iff.1 hid).1))).trans h1, h2⟩
  · intro t ht lv
    exact hE1.munew t (mm t ht) lv
  · intro t ht lv
    exact hE1.toknew t (mt t ht) lv
  · intro a v hsp hst hc
    obtain ⟨k1, k2⟩ := hE1.keep a v hsp hst hc
    exact ⟨by rw [w0]; exact k1, st0 _ _ k2⟩
  · intro b hb h1 h2 h3
    rw [w0]
    exact hE1.frame b hb h1 h2 h3

/-- An array that a function leaves behind is given up. -/
theorem PC.frz {P : Program} {f : FuncId} {args : List PV} {H H1 : PH} {v : PV} (hp : PC P f args H v H1) (id : Nat) {n : Nat} {e : TypeId} {es : List GV} (hm : H1.mu[id]? = some (.arr n e es)) :
    PC P f args H (Go.Pure.frz id n es v) ⟨frzB id n es H1.bx, H1.tk, H1.mu.set id (.gone (n + 1))⟩ := fun c vs hr ha => (hp c vs hr ha).mono fun e w' ⟨rv, c1, he, hw1, hr1, hE1, hv1⟩ => by
  obtain ⟨c2, w2, r2, E2, rv2⟩ := hr1.freeze hm
  exact ⟨rv, c2, he, w2.trans hw1, r2, hE1.trans E2, rv2 _ _ hv1⟩
theorem PC.as {P : Program} {f : FuncId} {args : List PV} {H H1 : PH} {v v' : PV} (hp : PC P f args H v H1) (e : v = v') : PC P f args H v' H1 := e ▸ hp
/-- A function that hands back a new array, all of it its own: what it hands back reads as the words. -/
theorem PC.out {P : Program} {f : FuncId} {args : List PV} {n e off len cap : Nat} {es es' : List GV} (hp : PC P f args ⟨[], [], []⟩ (.vw 0 n off len cap) ⟨[], [], [.arr n e es]⟩) (he : (es.drop off).take len = es') : PC P f args ⟨[], [], []⟩ (.g (.sl es')) ⟨[], [], []⟩ := by
  have h := (hp.frz 0 rfl).sel (H2 := ⟨[], [], []⟩) (v' := .g (.sl es')) [] [] [] rfl rfl rfl rfl rfl rfl rfl (by simp [Go.Pure.frz, ren, deepV, he])
  exact h
end Go.Pure

