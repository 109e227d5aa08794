/- A generic layer: regions that draw their order: the theorem. -/
import Derived.Test.YtffpepmfdjjjaaaPureI
namespace Go.Pure
open Go

section
variable {P : Program} {N : Nat} {all : List Oper} {K : List Nat} {T : Tr}

theorem env_last (hT : IsRun P N all K T) {t i : Nat} {o : Oper} (ho : all[i]? = some o) (hd : o.dst = some t) : ∀ k, i < k → k ≤ all.length → (∀ (j : Nat) (o' : Oper), i < j → j < k → all[j]? = some o' → o'.dst ≠ some t) → T.E k t = T.V i := by
  intro k
  induction k with
  | zero => intro h; omega
  | succ k ih =>
    intro hik hk hno
    by_cases e : i = k
    · subst e
      rw [hT.env i o ho, hd]
      simp [upd]
    · have hk' : k < all.length := by omega
      have ho' : all[k]? = some all[k] := List.getElem?_eq_getElem hk'
      rw [hT.env k _ ho']
      have hne := hno k _ (by omega) (by omega) ho'
      have : upd (T.E k) all[k].dst (T.V k) t = T.E k t := by
        cases hdk : all[k].dst with
        | none => rfl
        | some d =>
          have : Nat.beq t d = false := Bool.eq_false_iff.2 fun h => hne (by rw [hdk, Nat.eq_of_beq_eq_true h])
          simp [upd, this]
      rw [this]
      exact ih (by omega) (by omega) fun j o' h1 h2 => hno j o' h1 (by omega)

theorem env_first (hT : IsRun P N all K T) {t : Nat} : ∀ k, k ≤ all.length → (∀ (j : Nat) (o' : Oper), j < k → all[j]? = some o' → o'.dst ≠ some t) → T.E k t = T.E 0 t := by
  intro k
  induction k with
  | zero => intros; rfl
  | succ k ih =>
    intro hk hno
    have hk' : k < all.length := by omega
    have ho' : all[k]? = some all[k] := List.getElem?_eq_getElem hk'
    rw [hT.env k _ ho']
    have hne := hno k _ (by omega) ho'
    have : upd (T.E k) all[k].dst (T.V k) t = T.E k t := by
      cases hdk : all[k].dst with
      | none => rfl
      | some d =>
        have : Nat.beq t d = false := Bool.eq_false_iff.2 fun h => hne (by rw [hdk, Nat.eq_of_beq_eq_true h])
        simp [upd, this]
    rw [this]
    exact ih (by omega) fun j o' h1 => hno j o' (by omega)

/-- The state's boxes change at operations of kind 2 and 3 alone. -/
theorem H_same (hT : IsRun P N all K T) {i m : Nat} (him : i ≤ m) (hm : m ≤ all.length) (h : ∀ (j : Nat) (o : Oper), i ≤ j → j < m → all[j]? = some o → kindB P o.op < 2) : T.H m = T.H i := by
  induction m with
  | zero => have : i = 0 := by omega
            rw [this]
  | succ m ih =>
    by_cases e : i = m + 1
    · rw [e]
    · have ho : all[m]? = some all[m] := List.getElem?_eq_getElem (by omega)
      have hk := h m _ (by omega) (by omega) ho
      have : T.H (m + 1) = T.H m := by
        rcases hT.step m _ ho with ⟨_, hc⟩ | ⟨_, _, hc⟩
        · rcases hc with ⟨_, h1, _⟩ | ⟨_, h1, _⟩ | ⟨h1, _⟩ | ⟨h1, _⟩
          · exact h1
          · exact h1
          · omega
          · omega
        · exact hc
      rw [this]
      exact ih (by omega) (by omega) fun j o h1 h2 => h j o h1 (by omega)

theorem H_keq (hT : IsRun P N all K T) {i m : Nat} (him : i ≤ m) (hm : m ≤ all.length) (h : ∀ (j : Nat) (o : Oper), i ≤ j → j < m → all[j]? = some o → kindB P o.op ≠ 3) : KEq K (T.H i) (T.H m) := by
  induction m with
  | zero => have : i = 0 := by omega
            rw [this]; exact KEq.refl _ _
  | succ m ih =>
    by_cases e : i = m + 1
    · rw [e]; exact KEq.refl _ _
    · have ho : all[m]? = some all[m] := List.getElem?_eq_getElem (by omega)
      have hk := h m _ (by omega) (by omega) ho
      refine (ih (by omega) (by omega) fun j o h1 h2 => h j o h1 (by omega)).trans ?_
      rcases hT.step m _ ho with ⟨_, hc⟩ | ⟨_, _, hc⟩
      · rcases hc with ⟨_, h1, _⟩ | ⟨_, h1, _⟩ | ⟨_, _, h1⟩ | ⟨h1, _⟩
        · rw [h1]; exact KEq.refl _ _
        · rw [h1]; exact KEq.refl _ _
        · exact h1
        · exact absurd h1 hk
      · rw [hc]; exact KEq.refl _ _

theorem H_ksh (hT : IsRun P N all K T) {i m : Nat} (him : i ≤ m) (hm : m ≤ all.length) : KSh K (T.H i) (T.H m) := by
  induction m with
  | zero => have : i = 0 := by omega
            rw [this]; exact KSh.refl _ _
  | succ m ih =>
    by_cases e : i = m + 1
    · rw [e]; exact KSh.refl _ _
    · have ho : all[m]? = some all[m] := List.getElem?_eq_getElem (by omega)
      refine (ih (by omega) (by omega)).trans ?_
      rcases hT.step m _ ho with ⟨_, hc⟩ | ⟨_, _, hc⟩
      · rcases hc with ⟨_, h1, _⟩ | ⟨_, h1, _⟩ | ⟨_, _, h1⟩ | ⟨_, _, h1⟩
        · rw [h1]; exact KSh.refl _ _
        · rw [h1]; exact KSh.refl _ _
        · exact h1.sh
        · exact h1
      · rw [hc]; exact KSh.refl _ _

/-- What a slot holds when the operations in S have run. -/
def SlotOk (all : List Oper) (T : Tr) (S : Nat → Prop) (c : Ctx) (t : Nat) (v : Value) : Prop :=
  (∃ (i : Nat) (o : Oper), all[i]? = some o ∧ S i ∧ o.dst = some t ∧ (∀ (j : Nat) (o' : Oper), i < j → all[j]? = some o' → S j → o'.dst ≠ some t) ∧ RV c (T.V i) v) ∨
  ((∀ (i : Nat) (o : Oper), all[i]? = some o → S i → o.dst ≠ some t) ∧ RV c (T.E 0 t) v)

theorem SlotOk.mono {S : Nat → Prop} {c c' : Ctx} (hE : Evo c c') {t : Nat} {v : Value} (h : SlotOk all T S c t v) : SlotOk all T S c' t v := by
  rcases h with ⟨i, o, h1, h2, h3, h4, h5⟩ | ⟨h1, h2⟩
  · exact .inl ⟨i, o, h1, h2, h3, h4, h5.mono hE⟩
  · exact .inr ⟨h1, h2.mono hE⟩

theorem conf_of_look {x y : Oper} {t : Nat} (hx : x.dst = some t) (hy : t ∈ looks all y) : conf P all x y = true := by
  simp [conf, hx, optMem, memB_iff.2 hy]
theorem conf_of_look' {x y : Oper} {t : Nat} (hx : t ∈ looks all x) (hy : y.dst = some t) : conf P all x y = true := by
  simp [conf, hy, optMem, memB_iff.2 hx]
theorem conf_of_dst {x y : Oper} {t : Nat} (hx : x.dst = some t) (hy : y.dst = some t) : conf P all x y = true := by
  simp [conf, hx, hy, optEq]
theorem conf_chain {x y : Oper} (hx : 2 ≤ kindB P x.op) (hy : 2 ≤ kindB P y.op) : conf P all x y = true := by
  simp [conf, Nat.ble_eq, hx, hy]
theorem conf_ls {x y : Oper} (hx : kindB P x.op = 1) (hy : kindB P y.op = 3) : conf P all x y = true := by simp [conf, hx, hy]
theorem conf_sl {x y : Oper} (hx : kindB P x.op = 3) (hy : kindB P y.op = 1) : conf P all x y = true := by simp [conf, hx, hy]

/-- Operation i may come now. -/
structure Comes (all : List Oper) (S : Nat → Prop) (i : Nat) (o : Oper) : Prop where
  at_ : all[i]? = some o
  out : ¬ S i
  pre : ∀ e ∈ o.after, Region.binds .any e = true → S e.on

theorem Comes.before (hO : Ordered P all) {S : Nat → Prop} (hS : ClosedS all S) {i : Nat} {o : Oper} (h : Comes all S i o) {j : Nat} {x : Oper} (hj : j < i) (hx : all[j]? = some x) (hc : conf P all x o = true) : S j := by
  have hS' : ClosedS all (fun k => S k ∨ k = i) := by
    intro k y hy hk e he hb
    rcases hk with hk | rfl
    · exact .inl (hS k y hy hk e he hb)
    · rw [h.at_] at hy
      cases hy
      exact .inl (h.pre e he hb)
  rcases hO.pair _ hS' i o j x h.at_ hj hx hc (.inr rfl) with h1 | h1
  · exact h1
  · omega

theorem Comes.behind (hO : Ordered P all) {S : Nat → Prop} (hS : ClosedS all S) {i : Nat} {o : Oper} (h : Comes all S i o) {j : Nat} {y : Oper} (hj : i < j) (hy : all[j]? = some y) (hc : conf P all o y = true) : ¬ S j :=
  fun hs => h.out (hO.pair S hS j y i o hy hj h.at_ hc hs)

theorem Comes.slot (hT : IsRun P N all K T) (hO : Ordered P all) {S : Nat → Prop} (hS : ClosedS all S) {i : Nat} {o : Oper} (h : Comes all S i o) {t : Nat} (ht : t ∈ looks all o) {c : Ctx} {v : Value} (hs : SlotOk all T S c t v) : RV c (T.E i t) v := by
  have hi : i ≤ all.length := Nat.le_of_lt (List.getElem?_eq_some_iff.1 h.at_).1
  rcases hs with ⟨i', o', h1, h2, h3, h4, h5⟩ | ⟨h1, h2⟩
  · have hlt : i' < i := by
      rcases Nat.lt_trichotomy i' i with hlt | rfl | hgt
      · exact hlt
      · exact absurd h2 h.out
      · exact absurd h2 (h.behind hO hS hgt h1 (conf_of_look' ht h3))
    rw [env_last hT h1 h3 i hlt hi fun j o'' hj1 hj2 hj3 hj4 => h4 j o'' hj1 hj3 (h.before hO hS hj2 hj3 (conf_of_look hj4 ht)) hj4]
    exact h5
  · rw [env_first hT i hi fun j o'' hj1 hj2 hj3 => h1 j o'' hj2 (h.before hO hS hj1 hj2 (conf_of_look hj3 ht)) hj3]
    exact h2

theorem SlotOk.put (hO : Ordered P all) {S : Nat → Prop} (hS : ClosedS all S) {i : Nat} {o : Oper} (h : Comes all S i o) {c : Ctx} {a : Act} {v : Value} (hN : a.tmps.size = N) (hd : ∀ t, o.dst = some t → t < N) (hv : RV c (T.V i) v)
    (hs : ∀ t, SlotOk all T S c t (a.tmps.getD t undef)) : ∀ t, SlotOk all T (fun k => S k ∨ k = i) c t ((a.put o.dst v).tmps.getD t undef) := by
  intro t
  by_cases e : o.dst = some t
  · refine .inl ⟨i, o, h.at_, .inr rfl, e, fun j o' hj ho' hsj he => ?_, ?_⟩
    · rcases hsj with hsj | rfl
      · exact h.behind hO hS hj ho' (conf_of_dst e he) hsj
      · omega
    · have hlt : t < a.tmps.size := by rw [hN]; exact hd t e
      rw [e]
      simpa [Act.put, Array.getD_eq_getD_getElem?, Array.getElem?_setIfInBounds, hlt] using hv
  · have hsame : (a.put o.dst v).tmps.getD t undef = a.tmps.getD t undef := by
      cases hdd : o.dst with
      | none => rfl
      | some d =>
        have hne : d ≠ t := fun h => e (by rw [hdd, h])
        simp [Act.put, Array.getD_eq_getD_getElem?, Array.getElem?_setIfInBounds, hne]
    rw [hsame]
    rcases hs t with ⟨i', o', h1, h2, h3, h4, h5⟩ | ⟨h1, h2⟩
    · refine .inl ⟨i', o', h1, .inl h2, h3, fun j o'' hj ho'' hsj he => ?_, h5⟩
      rcases hsj with hsj | rfl
      · exact h4 j o'' hj ho'' hsj he
      · rw [h.at_] at ho''
        cases ho''
        exact e he
    · refine .inr ⟨fun j o'' ho'' hsj he => ?_, h2⟩
      rcases hsj with hsj | rfl
      · exact h1 j o'' ho'' hsj he
      · rw [h.at_] at ho''
        cases ho''
        exact e he

theorem gd_local {o : Oper} {env : Env} {c : Ctx} {tmps : Array Value} (h : ∀ t ∈ looks all o, RV c (env t) (tmps.getD t undef)) {b : Bool} (hg : gd all.toArray o env = some b) : Region.wanted o (yielded all.toArray tmps) = b := by
  unfold gd at hg
  unfold Region.wanted
  split at hg
  · rename_i e; rw [e]; simpa using hg
  · rename_i j want e
    rw [e]
    simp only [yielded]
    split at hg
    · rename_i d hd
      have hd' : (all[j]?).bind (·.dst) = some d := by simpa using hd
      have hs := h d (by simp [looks, e, hd'])
      have hd2 : ((all.toArray)[j]?).bind (·.dst) = some d := by simpa using hd'
      rw [hd2]
      simp only [Option.bind_some]
      split at hg
      · rename_i b' he
        rw [he] at hs
        cases hs with
        | g x v hr =>
          generalize hv : tmps.getD d undef = v at hr
          cases hr
          rw [Array.getD_eq_getD_getElem?] at hv
          cases hx : tmps[d]? with
          | none => rw [hx] at hv; simp [undef] at hv
          | some u => rw [hx] at hv; simp at hv; subst hv; simpa using hg
      · rename_i vs he
        rw [he] at hs
        cases hs with
        | g x v hr =>
          generalize hv : tmps.getD d undef = v at hr
          cases hr
          rw [Array.getD_eq_getD_getElem?] at hv
          cases hx : tmps[d]? with
          | none => simpa using hg
          | some u => rw [hx] at hv; simp at hv; subst hv; simpa using hg
      · cases hg
    · cases hg

/-- What holds when the operations in S have run, in whatever order. -/
def Inv (P : Program) (N : Nat) (all : List Oper) (T : Tr) (c0 : Ctx) (S : Nat → Prop) (a : Act) (w : World) : Prop :=
  ∃ (c : Ctx) (m : Nat), m ≤ all.length ∧ (∀ (j : Nat) (o : Oper), all[j]? = some o → 2 ≤ kindB P o.op → (S j ↔ j < m)) ∧ c.w = w ∧ Rel P c (T.H m) ∧ Evo c0 c ∧ a.defers = [] ∧ a.tmps.size = N ∧
    ∀ t, SlotOk all T S c t (a.tmps.getD t undef)

theorem inv_step (hT : IsRun P N all K T) (hO : Ordered P all) {c0 : Ctx} {S : Nat → Prop} (hS : ClosedS all S) {a : Act} {w : World} (hI : Inv P N all T c0 S a w) {i : Nat} {o : Oper} (h : Comes all S i o) {Z : Act → World → Prop} {Q : Exit → Act → World → Prop}
    (hZ : ∀ a' w', Inv P N all T c0 (fun k => S k ∨ k = i) a' w' → Z a' w') :
    if Region.wanted o (yielded all.toArray a.tmps) then o.wp P a w Z Q ∨ (o.asks P a w ∧ LetsOut Q) else Z (a.put o.dst undef) w := by
  obtain ⟨c, m, hm, hch, rfl, hr, hE, hdf, hN, hs⟩ := hI
  have hlooks : ∀ t ∈ looks all o, RV c (T.E i t) (a.tmps.getD t undef) := fun t ht => h.slot hT hO hS ht (hs t)
  have hilen : i < all.length := (List.getElem?_eq_some_iff.1 h.at_).1
  have hops : ∀ x ∈ o.op.operands.toList, RV c ((T.E i).eval x) (a.eval x) := by
    intro x hx
    cases x with
    | tmp t => exact hlooks t (by simp only [looks, List.mem_append]; exact .inl (List.mem_filterMap.2 ⟨.tmp t, hx, rfl⟩))
    | const v => exact constPV_ok c v
    | global g => exact .any _
    | func f => exact .g _ _ (.raw _)
  -- where the chain stands
  have hle : 2 ≤ kindB P o.op → m ≤ i := fun hk => Nat.le_of_not_lt fun hlt => h.out ((hch i o h.at_ hk).2 hlt)
  have hnochain : 2 ≤ kindB P o.op → ∀ (j : Nat) (x : Oper), m ≤ j → j < i → all[j]? = some x → kindB P x.op < 2 := by
    intro hk j x hj1 hj2 hx
    refine Nat.lt_of_not_le fun hkx => ?_
    have := (hch j x hx hkx).1 (h.before hO hS hj2 hx (conf_chain hkx hk))
    omega
  have hHm : 2 ≤ kindB P o.op → T.H i = T.H m := fun hk => H_same hT (hle hk) (by omega) (hnochain hk)
  have chain' : 2 ≤ kindB P o.op → ∀ (j : Nat) (x : Oper), all[j]? = some x → 2 ≤ kindB P x.op → ((S j ∨ j = i) ↔ j < i + 1) := by
    intro hk j x hx hkx
    constructor
    · rintro (hsj | rfl)
      · have := (hch j x hx hkx).1 hsj
        have := hle hk
        omega
      · omega
    · intro hlt
      by_cases e : j = i
      · exact .inr e
      · refine .inl ((hch j x hx hkx).2 ?_)
        refine Nat.lt_of_not_le fun hmj => ?_
        have := hnochain hk j x hmj (by omega) hx
        omega
  have plain' : kindB P o.op < 2 → ∀ (j : Nat) (x : Oper), all[j]? = some x → 2 ≤ kindB P x.op → ((S j ∨ j = i) ↔ j < m) := by
    intro hk j x hx hkx
    constructor
    · rintro (hsj | rfl)
      · exact (hch j x hx hkx).1 hsj
      · rw [h.at_] at hx
        cases hx
        omega
    · intro hlt
      exact .inl ((hch j x hx hkx).2 hlt)
  -- what a value hands on
  have done : ∀ (c' : Ctx) (m' : Nat) (rv : Value), m' ≤ all.length → (∀ (j : Nat) (x : Oper), all[j]? = some x → 2 ≤ kindB P x.op → ((S j ∨ j = i) ↔ j < m')) → Rel P c' (T.H m') → Evo c c' → RV c' (T.V i) rv → Z (a.put o.dst rv) c'.w := by
    intro c' m' rv hm' hch' hr' hE' hv
    refine hZ _ _ ⟨c', m', hm', hch', rfl, hr', hE.trans hE', by cases o.dst <;> exact hdf, by cases o.dst <;> simpa [Act.put] using hN, ?_⟩
    exact SlotOk.put hO hS h hN (hT.dst i o h.at_) hv fun t => (hs t).mono hE'
  have run : ∀ (H' : PH) (m' : Nat), m' ≤ all.length → (∀ (j : Nat) (x : Oper), all[j]? = some x → 2 ≤ kindB P x.op → ((S j ∨ j = i) ↔ j < m')) → H' = T.H m' → PO P o (T.E i).eval (T.H m) (T.V i) H' → o.wp P a c.w Z Q := by
    intro H' m' hm' hch' hH' hpo
    refine (hpo c a.eval hr hops).wp ?_
    rintro rv w' ⟨c', rfl, hr', hE', hv⟩
    exact done c' m' rv hm' hch' (hH' ▸ hr') hE' hv
  rcases hT.step i o h.at_ with ⟨hg, hc⟩ | ⟨hg, hv, hH⟩
  · rw [gd_local hlooks hg, if_pos rfl]
    left
    rcases hc with ⟨hk, _, hpo⟩ | ⟨hk, _, hpo⟩ | ⟨hk, hpo, _⟩ | ⟨hk, hpo, _⟩
    · refine run (T.H m) m hm (plain' (by omega)) rfl (hpo _ ?_)
      rcases Nat.le_total i m with him | him
      · exact H_ksh hT him hm
      · exact (H_ksh hT him (by omega)).symm
    · refine run (T.H m) m hm (plain' (by omega)) rfl (hpo _ ?_)
      rcases Nat.le_total i m with him | him
      · refine H_keq hT him hm fun j x hj1 hj2 hx hkx => ?_
        have hne : i ≠ j := fun e => by subst e; rw [h.at_] at hx; cases hx; omega
        exact h.behind hO hS (by omega) hx (conf_ls hk hkx) ((hch j x hx (by omega)).2 hj2)
      · refine (H_keq hT him (by omega) fun j x hj1 hj2 hx hkx => ?_).symm
        have := (hch j x hx (by omega)).1 (h.before hO hS hj2 hx (conf_sl hkx hk))
        omega
    · exact run (T.H (i + 1)) (i + 1) hilen (chain' (by omega)) rfl (hHm (by omega) ▸ hpo)
    · exact run (T.H (i + 1)) (i + 1) hilen (chain' (by omega)) rfl (hHm (by omega) ▸ hpo)
  · rw [gd_local hlooks hg, if_neg (by simp)]
    by_cases hk : 2 ≤ kindB P o.op
    · exact done c (i + 1) undef hilen (chain' hk) (by rw [hH, hHm hk]; exact hr) (Evo.refl c) (by rw [hv]; exact .g _ _ (.raw _))
    · exact done c m undef hm (plain' (by omega)) hr (Evo.refl c) (by rw [hv]; exact .g _ _ (.raw _))

theorem inv_end (hT : IsRun P N all K T) {c0 : Ctx} {S : Nat → Prop} (hall : ∀ i, i < all.length → S i) {a : Act} {w : World} (hI : Inv P N all T c0 S a w) :
    ∃ c, c.w = w ∧ Rel P c (T.H all.length) ∧ Evo c0 c ∧ ER c N (T.E all.length) a := by
  obtain ⟨c, m, hm, hch, rfl, hr, hE, hdf, hN, hs⟩ := hI
  have hH : T.H all.length = T.H m := H_same hT hm (Nat.le_refl _) fun j o hj1 hj2 hx => Nat.lt_of_not_le fun hk => by
    have := (hch j o hx hk).1 (hall j hj2)
    omega
  refine ⟨c, rfl, hH ▸ hr, hE, hdf, hN, fun t => ?_⟩
  rcases hs t with ⟨i, o, h1, h2, h3, h4, h5⟩ | ⟨h1, h2⟩
  · have hi := (List.getElem?_eq_some_iff.1 h1).1
    rw [env_last hT h1 h3 _ hi (Nat.le_refl _) fun j o' hj1 hj2 hj3 => h4 j o' hj1 hj3 (hall j hj2)]
    exact h5
  · rw [env_first hT _ (Nat.le_refl _) fun j o' hj1 hj2 => h1 j o' hj2 (hall j hj1)]
    exact h2

def lst (listed : Array Bool) (i : Nat) : Prop := listed.getD i false = true
def left (listed : Array Bool) (n : Nat) : Nat := ((List.range n).filter fun i => !listed.getD i false).length

theorem lst_set {listed : Array Bool} {i k : Nat} (hi : i < listed.size) : lst (listed.setIfInBounds i true) k ↔ (lst listed k ∨ k = i) := by
  unfold lst
  simp only [Array.getD_eq_getD_getElem?, Array.getElem?_setIfInBounds]
  by_cases e : i = k
  · subst e; simp [hi]
  · simp [e]; intro h; exact absurd h.symm e

theorem left_set {listed : Array Bool} {i n : Nat} (hi : i < listed.size) (hn : i < n) (hl : ¬ lst listed i) : left (listed.setIfInBounds i true) n < left listed n := by
  unfold left
  have h1 : ((List.range n).filter fun k => !(listed.setIfInBounds i true).getD k false) = ((List.range n).filter fun k => !listed.getD k false).filter (fun k => decide (k ≠ i)) := by
    rw [List.filter_filter]
    congr 1
    funext k
    by_cases e : i = k
    · subst e; simp [Array.getD_eq_getD_getElem?, Array.getElem?_setIfInBounds, hi]
    · have e' : ¬ k = i := fun h => e h.symm
      simp [Array.getD_eq_getD_getElem?, Array.getElem?_setIfInBounds, e, e']
  rw [h1]
  refine List.length_filter_lt_length_iff_exists.2 ⟨i, ?_, by simp⟩
  simp only [List.mem_filter, List.mem_range]
  refine ⟨hn, ?_⟩
  simpa [lst] using hl

theorem mem_ready' {listed : Array Bool} {i : Nat} (hsz : listed.size = all.length) (h : i ∈ Region.ready .any all.toArray listed) : ∃ o, Comes all (lst listed) i o := by
  unfold Region.ready at h
  rw [List.mem_filter] at h
  obtain ⟨h1, h2⟩ := h
  have hlt : i < all.length := by simpa using h1
  simp only [Bool.and_eq_true] at h2
  refine ⟨all[i], List.getElem?_eq_getElem hlt, ?_, ?_⟩
  · have := h2.1
    simp only [lst, Array.getD_eq_getD_getElem?] at this ⊢
    rw [Array.getElem?_eq_getElem (by omega)] at this ⊢
    simpa using this
  · intro e he hb
    have h3 := h2.2
    have : (all.toArray)[i]? = some all[i] := by simp [hlt]
    rw [this] at h3
    simp only [Option.map_some, Option.getD_some] at h3
    have h4 := Array.all_eq_true_iff_forall_mem.1 h3 e he
    simp only [hb, Bool.not_true, Bool.false_or] at h4
    exact h4

theorem ready_or_all (hO : Ordered P all) {listed : Array Bool} (hsz : listed.size = all.length) (h : Region.ready .any all.toArray listed = []) : ∀ i, i < all.length → lst listed i := by
  intro i
  induction i using Nat.strongRecOn with
  | _ i ih =>
    intro hi
    refine Classical.byContradiction fun hn => ?_
    have : i ∈ Region.ready .any all.toArray listed := by
      unfold Region.ready
      rw [List.mem_filter]
      refine ⟨by simpa using hi, ?_⟩
      simp only [Bool.and_eq_true]
      refine ⟨?_, ?_⟩
      · simp only [lst, Array.getD_eq_getD_getElem?] at hn ⊢
        rw [Array.getElem?_eq_getElem (by omega)] at hn ⊢
        simpa using hn
      · have e0 : (all.toArray)[i]? = some all[i] := by simp [hi]
        rw [e0]
        simp only [Option.map_some, Option.getD_some]
        refine Array.all_eq_true_iff_forall_mem.2 fun e he => ?_
        have hlt := hO.back i all[i] (List.getElem?_eq_getElem hi) e he
        have := ih e.on hlt (by omega)
        simp only [lst] at this
        simp [this]
    rw [h] at this
    cases this

theorem wpAny_of_inv (hT : IsRun P N all K T) (hO : Ordered P all) {c0 : Ctx} {Q : Exit → Act → World → Prop}
    (hQ : ∀ a w, (∃ c, c.w = w ∧ Rel P c (T.H all.length) ∧ Evo c0 c ∧ ER c N (T.E all.length) a) → Q .normal a w) :
    ∀ (fuel : Nat) (listed : Array Bool) (a : Act) (w : World), listed.size = all.length → left listed all.length ≤ fuel → ClosedS all (lst listed) → Inv P N all T c0 (lst listed) a w → wpAny P .any all.toArray Q fuel listed a w
  | 0, listed, a, w, hsz, hf, hS, hI => by
    have hall : ∀ i, i < all.length → lst listed i := by
      intro i hi
      refine Classical.byContradiction fun hn => ?_
      have hmem : i ∈ (List.range all.length).filter fun i => !listed.getD i false := by
        simp only [List.mem_filter, List.mem_range]
        exact ⟨hi, by simpa [lst] using hn⟩
      have h0 : (List.range all.length).filter (fun i => !listed.getD i false) = [] := List.eq_nil_of_length_eq_zero (by unfold left at hf; omega)
      rw [h0] at hmem
      cases hmem
    refine ⟨?_, hQ a w (inv_end hT hall hI)⟩
    refine List.eq_nil_iff_forall_not_mem.2 fun i hi => ?_
    obtain ⟨o, hc⟩ := mem_ready' hsz hi
    exact hc.out (hall i (List.getElem?_eq_some_iff.1 hc.at_).1)
  | fuel + 1, listed, a, w, hsz, hf, hS, hI => by
    refine ⟨fun h0 => hQ a w (inv_end hT (ready_or_all hO hsz h0) hI), fun i hi => ?_⟩
    obtain ⟨o, hc⟩ := mem_ready' hsz hi
    have hlt := (List.getElem?_eq_some_iff.1 hc.at_).1
    have hop : (all.toArray)[i]? = some o := by simpa using hc.at_
    have hstep := inv_step (Q := Q) hT hO hS hI hc (Z := wpAny P .any all.toArray Q fuel (listed.setIfInBounds i true)) (by
      intro a' w' hI'
      have hset : lst (listed.setIfInBounds i true) = fun k => lst listed k ∨ k = i := funext fun k => propext (lst_set (by omega))
      refine wpAny_of_inv hT hO hQ fuel _ a' w' (by simpa using hsz) ?_ ?_ ?_
      · have := left_set (n := all.length) (by omega : i < listed.size) hlt hc.out
        omega
      · rw [hset]
        intro k y hy hk e he hb
        rcases hk with hk | rfl
        · exact .inl (hS k y hy hk e he hb)
        · rw [hc.at_] at hy
          cases hy
          exact .inl (hc.pre e he hb)
      · rw [hset]; exact hI')
    unfold wpOp
    rw [hop]
    exact hstep

/-- A REGION THAT DRAWS ITS ORDER: the order of the text serves for all. K: the boxes that it reads. -/
theorem PW_draw {id : Nat} {l : List Oper} {Q : Exit → Env → PH → Prop} {env : Env} {H : PH} (K : List Nat) (hm : P.follows .mixedOrders = true) (hd : drawB P l = true) (h : POpsD P N l.toArray K (fun env H => Q .normal env H) l env H) :
    PW P N (.region id l.toArray true) Q env H := by
  obtain ⟨T, e1, e2, e3, e4⟩ := run_of l 0 env H (by simp) h
  have hT : IsRun P N l K T := ⟨fun i o ho => (e4 i o (Nat.zero_le _) ho).1, fun i o ho => (e4 i o (Nat.zero_le _) ho).2.1, fun i o ho => (e4 i o (Nat.zero_le _) ho).2.2⟩
  have hO := ordered_of hd
  intro c a hr he
  refine wp_region_any hm ?_
  have hg := hr.grow (Ext.drew c.w)
  have none : ∀ i, ¬ lst (Array.replicate l.toArray.size false) i := by
    intro i h
    simp only [lst, Array.getD_eq_getD_getElem?] at h
    by_cases hi : i < l.length <;> simp [hi] at h
  refine wpAny_of_inv (c0 := c) hT hO ?_ _ _ a _ (by simp) ?_ (fun j o _ hj => absurd hj (none j)) ?_
  · rintro a' w' ⟨c', rfl, hr', hE, he'⟩
    simp only [Nat.zero_add] at e3
    exact ⟨c', _, _, e3, rfl, hr', hE, he'⟩
  · unfold left
    refine Nat.le_trans (List.length_filter_le _ _) (by simp)
  · refine ⟨⟨c.σ, c.τ, c.μ, c.hid, c.w.drew⟩, 0, Nat.zero_le _, fun j o hj _ => ⟨fun h => absurd h (none j), fun h => by omega⟩, rfl, e2 ▸ hg.1, hg.2, he.defers, he.size, fun t => .inr ⟨fun i o _ hs => absurd hs (none i), ?_⟩⟩
    rw [e1]
    exact (he.slot t).mono hg.2
end
end Go.Pure
