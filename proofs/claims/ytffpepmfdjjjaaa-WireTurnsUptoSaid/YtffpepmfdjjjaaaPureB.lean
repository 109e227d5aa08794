/- A generic layer: code over pure states. -/
import Derived.Test.YtffpepmfdjjjaaaPureA
import Derived.Deep.LoopGhost
namespace Go.Pure
open Go

abbrev Env := Nat → PV

/-- A constant, one cell. -/
def constG : Value → GV
  | .int k n => .int k n
  | .bool b => .bool b
  | .string s => .str s
  | v => .raw v

/-- A constant, one cell. -/
def constC : Value → PV
  | .pointer none => .nilp
  | .slice none 0 0 => .nils
  | v => .g (constG v)

def constPV : Value → PV
  | .agg cs => if cs.toList.all (·.oneCell') then .agg (cs.toList.map constC) else .g (.raw (.agg cs))
  | v => constC v

theorem constG_ok (w : World) (S : Nat → Nat → Prop) (v : Value) : RG w S (constG v) v := by
  unfold constG
  split
  · exact .int _ _
  · exact .bool _
  · exact .str _
  · exact .raw _

theorem constC_ok (c : Ctx) (v : Value) : RV c (constC v) v := by
  unfold constC
  split
  · exact .nilp
  · exact .nils
  · exact .g _ _ (constG_ok _ _ _)

theorem constPV_ok (c : Ctx) (v : Value) : RV c (constPV v) v := by
  unfold constPV
  split
  · rename_i cs
    split
    · rename_i h
      refine .agg _ _ (by simp) (fun v hv => List.all_eq_true.1 h v hv) ?_
      intro i g u hg hu
      simp only [List.getElem?_map] at hg
      rw [Array.getElem?_toList] at hg
      rw [hu] at hg
      simp at hg
      subst hg
      exact constC_ok _ _
    · exact .g _ _ (.raw _)
  · exact constC_ok _ _

def Env.eval (env : Env) : Operand → PV
  | .tmp t => env t
  | .const v => constPV v
  | .global _ => .any
  | .func f => .g (.raw (.func (.func f) #[] #[]))

def upd (env : Env) (d : Option Tmp) (v : PV) : Env :=
  match d with
  | some d => fun t => bif Nat.beq t d then v else env t
  | none => env

/-- Slots against slots. -/
structure ER (c : Ctx) (N : Nat) (env : Env) (a : Act) : Prop where
  defers : a.defers = []
  size : a.tmps.size = N
  slot : ∀ t, RV c (env t) (a.tmps.getD t undef)

theorem ER.eval {c : Ctx} {N : Nat} {env : Env} {a : Act} (h : ER c N env a) (x : Operand) : RV c (env.eval x) (a.eval x) := by
  cases x with
  | tmp t => exact h.slot t
  | const v => exact constPV_ok c v
  | global g => exact .any _
  | func f => exact .g _ _ (.raw _)

theorem ER.mono {c c' : Ctx} {N : Nat} {env : Env} {a : Act} (hE : Evo c c') (h : ER c N env a) : ER c' N env a :=
  ⟨h.defers, h.size, fun t => (h.slot t).mono hE⟩

theorem ER.put {c : Ctx} {N : Nat} {env : Env} {a : Act} (h : ER c N env a) {d : Option Tmp} {p : PV} {v : Value} (hd : ∀ t, d = some t → t < N) (hv : RV c p v) :
    ER c N (upd env d p) (a.put d v) := by
  cases d with
  | none => exact h
  | some d =>
    refine ⟨h.defers, by simpa [Act.put] using h.size, fun t => ?_⟩
    have hlt : d < a.tmps.size := by rw [h.size]; exact hd d rfl
    simp only [upd, Act.put]
    by_cases e : t = d
    · subst e
      rw [Nat.beq_refl, cond_true]
      simpa [Array.getD_eq_getD_getElem?, Array.getElem?_setIfInBounds, hlt] using hv
    · have e' : ¬ d = t := fun x => e x.symm
      have e2 : Nat.beq t d = false := Bool.eq_false_iff.2 fun h => e (Nat.eq_of_beq_eq_true h)
      rw [e2, cond_false]
      simpa [Array.getD_eq_getD_getElem?, Array.getElem?_setIfInBounds, e'] using h.slot t

/-- An operation, run, comes to a value. -/
def OpGoes (P : Program) (ρ : Operand → Value) (o : Oper) (w : World) (R : Value → World → Prop) : Prop :=
  match (execOp ρ o).run P w with
  | .ok (.value rv) w' => R rv w'
  | .ok .skip w' => R undef w'
  | .ok (.enter f args) w' => Calls P f args w' fun e w'' => ∃ rv, e = .returned rv ∧ R rv w''
  | _ => False

/-- THE CONTRACT OF AN OPERATION. -/
def PO (P : Program) (o : Oper) (ρ : Operand → PV) (H : PH) (v : PV) (H' : PH) : Prop :=
  ∀ (c : Ctx) (ρr : Operand → Value), Rel P c H → (∀ x ∈ o.op.operands.toList, RV c (ρ x) (ρr x)) →
    OpGoes P ρr o c.w fun rv w' => ∃ c', c'.w = w' ∧ Rel P c' H' ∧ Evo c c' ∧ RV c' v rv

theorem OpGoes.wp {P : Program} {o : Oper} {a : Act} {w : World} {R : Value → World → Prop} {K : Act → World → Prop} {Q : Exit → Act → World → Prop}
    (h : OpGoes P a.eval o w R) (hK : ∀ v w', R v w' → K (a.put o.dst v) w') : o.wp P a w K Q := by
  unfold OpGoes at h
  unfold Oper.wp
  generalize (execOp a.eval o).run P w = r at *
  cases r with
  | ok n w' =>
    cases n <;> simp only [Oper.upon] at h ⊢
    case value v => exact hK _ _ h
    case skip => exact hK _ _ h
    case enter f args => exact h.mono fun e w'' ⟨rv, he, hR⟩ => by subst he; exact hK _ _ hR
    all_goals exact h.elim
  | halt x w' => exact h.elim

/-- Is a guarded operation wanted? none: it is not known. -/
def gd (all : Array Oper) (o : Oper) (env : Env) : Option Bool :=
  match o.guard with
  | none => some true
  | some (j, want) =>
    match (all.toList[j]?).bind (·.dst) with
    | some d => match env d with
      | .g (.bool b) => some (b == want)
      | .g (.raw (.tuple _)) => some false
      | _ => none
    | none => none

theorem gd_ok {all : Array Oper} {o : Oper} {env : Env} {c : Ctx} {N : Nat} {a : Act} (h : ER c N env a) {b : Bool} (hg : gd all o env = some b) : Region.wanted o (yielded all a.tmps) = b := by
  unfold gd at hg
  unfold Region.wanted
  split at hg
  · rename_i e; rw [e]; simpa using hg
  · rename_i j want e
    rw [e]
    simp only [yielded]
    split at hg
    · rename_i d hd
      rw [Array.getElem?_toList] at hd
      rw [hd]
      have hs := h.slot d
      simp only [Option.bind_some]
      split at hg
      · rename_i b' he
        rw [he] at hs
        cases hs with
        | g x v hr =>
          generalize hv : a.tmps.getD d undef = v at hr
          cases hr
          rw [Array.getD_eq_getD_getElem?] at hv
          cases hx : a.tmps[d]? with
          | none => rw [hx] at hv; simp [undef] at hv
          | some u => rw [hx] at hv; simp at hv; subst hv; simpa using hg
      · rename_i vs he
        rw [he] at hs
        cases hs with
        | g x v hr =>
          generalize hv : a.tmps.getD d undef = v at hr
          cases hr
          rw [Array.getD_eq_getD_getElem?] at hv
          cases hx : a.tmps[d]? with
          | none => simpa using hg
          | some u => rw [hx] at hv; simp at hv; subst hv; simpa using hg
      · cases hg
    · cases hg

def undefP : PV := .g (.raw undef)

/-- Operations one by one, in the order of the text. -/
def POps (P : Program) (N : Nat) (all : Array Oper) (K : Env → PH → Prop) : List Oper → Env → PH → Prop
  | [], env, H => K env H
  | o :: rest, env, H => (∀ t, o.dst = some t → t < N) ∧
    match gd all o env with
    | some true => ∃ v H', PO P o env.eval H v H' ∧ POps P N all K rest (upd env o.dst v) H'
    | some false => POps P N all K rest (upd env o.dst undefP) H
    | none => False

/-- What code comes to, for the machine, out of what it comes to here. -/
def QR (P : Program) (c : Ctx) (N : Nat) (Q : Exit → Env → PH → Prop) : Exit → Act → World → Prop :=
  fun e a' w' => ∃ c' env' H', Q e env' H' ∧ c'.w = w' ∧ Rel P c' H' ∧ Evo c c' ∧ ER c' N env' a'

theorem QR.mono {P : Program} {c c' : Ctx} {N : Nat} {Q Q' : Exit → Env → PH → Prop} (hE : Evo c c') (hq : ∀ e env H, Q e env H → Q' e env H) {e : Exit} {a : Act} {w : World} (h : QR P c' N Q e a w) : QR P c N Q' e a w :=
  let ⟨c1, env, H, q, hw, hr, hE', her⟩ := h
  ⟨c1, env, H, hq _ _ _ q, hw, hr, hE.trans hE', her⟩

def PW (P : Program) (N : Nat) (code : Code) (Q : Exit → Env → PH → Prop) (env : Env) (H : PH) : Prop :=
  ∀ (c : Ctx) (a : Act), Rel P c H → ER c N env a → code.wp P (QR P c N Q) a c.w

section
variable {P : Program} {N : Nat} {Q : Exit → Env → PH → Prop} {env : Env} {H : PH}

theorem wpList_of_POps {all : Array Oper} {K : Env → PH → Prop} : ∀ (l : List Oper) (env : Env) (H : PH), POps P N all K l env H → ∀ (c : Ctx) (a : Act), Rel P c H → ER c N env a →
    wpList P all (QR P c N fun e env H => e = .normal ∧ K env H) l a c.w
  | [], env, H, h, c, a, hr, he => ⟨c, env, H, ⟨rfl, h⟩, rfl, hr, Evo.refl c, he⟩
  | o :: rest, env, H, h, c, a, hr, he => by
    obtain ⟨hd, h⟩ := h
    unfold wpList
    split at h
    · rename_i hg
      rw [gd_ok he hg, if_pos rfl]
      obtain ⟨v, H', hpo, hrest⟩ := h
      refine .inl ((hpo c a.eval hr (fun x _ => he.eval x)).wp ?_)
      rintro rv w' ⟨c', rfl, hr', hE, hv⟩
      have := wpList_of_POps rest _ _ hrest c' (a.put o.dst rv) hr' ((he.mono hE).put hd hv)
      refine wpList_mono (fun e a w h => QR.mono hE (fun _ _ _ h => h) h) this
    · rename_i hg
      rw [gd_ok he hg, if_neg (by simp)]
      exact wpList_of_POps rest _ _ h c (a.put o.dst undef) hr (he.put hd (.g _ _ (.raw _)))
    · exact h.elim
where
  wpList_mono {all : Array Oper} {Q Q' : Exit → Act → World → Prop} (hq : ∀ e a w, Q e a w → Q' e a w) : ∀ {l : List Oper} {a : Act} {w : World}, wpList P all Q l a w → wpList P all Q' l a w
    | [], _, _, h => hq _ _ _ h
    | o :: rest, a, w, h => by
      unfold wpList at *
      split
      · rename_i hw
        rw [if_pos hw] at h
        refine h.imp ?_ ?_
        · intro h
          have h1 := Oper.wp_mono (Q := Q) (fun a w h => wpList_mono hq (l := rest) (a := a) (w := w) h) h
          unfold Oper.wp at *
          generalize (execOp a.eval o).run P w = r at *
          cases r with
          | ok n w' =>
            cases n <;> simp only [Oper.upon] at h1 ⊢ <;>
              first
                | exact h1
                | exact Calls.mono h1 (fun e w'' he => by
                    cases e
                    · exact he
                    · exact hq _ _ _ he
                    · obtain ⟨a, w, h⟩ := he; exact ⟨a, w, hq _ _ _ h⟩)
          | halt x w' => cases x <;> simp only [Oper.upon] at h1 ⊢ <;> first | exact h1 | exact hq _ _ _ h1
        · rintro ⟨h1, a, w, h2⟩
          exact ⟨h1, a, w, hq _ _ _ h2⟩
      · rename_i hw
        rw [if_neg hw] at h
        exact wpList_mono hq h

theorem PW_mono {code : Code} {Q' : Exit → Env → PH → Prop} (h : PW P N code Q env H) (hq : ∀ e env H, Q e env H → Q' e env H) : PW P N code Q' env H :=
  fun c a hr he => wp_mono (h c a hr he) fun _ _ _ h => QR.mono (Evo.refl c) hq h

/-- What comes next, and how it is left. -/
def Next (K : Env → PH → Prop) (Q : Exit → Env → PH → Prop) : Exit → Env → PH → Prop
  | .normal, env, H => K env H
  | e, env, H => Q e env H

theorem PW_seq {x y : Code} (h : PW P N x (Next (PW P N y Q) Q) env H) : PW P N (.seq x y) Q env H := by
  intro c a hr he
  refine wp_seq (wp_mono (h c a hr he) ?_)
  rintro e a' w' ⟨c', env', H', q, rfl, hr', hE, he'⟩
  cases e <;> simp only [Next] at q <;> simp only [Exit.then]
  case normal => exact wp_mono (q c' a' hr' he') fun _ _ _ h => QR.mono hE (fun _ _ _ h => h) h
  all_goals exact ⟨c', env', H', q, rfl, hr', hE, he'⟩

theorem PW_skip (h : Q .normal env H) : PW P N .skip Q env H := fun c _ hr he => wp_skip ⟨c, env, H, h, rfl, hr, Evo.refl c, he⟩
theorem PW_ret (h : Q .ret env H) : PW P N .ret Q env H := fun c _ hr he => wp_ret ⟨c, env, H, h, rfl, hr, Evo.refl c, he⟩
theorem PW_exit {id : Nat} (h : Q (.exit id) env H) : PW P N (.exit id) Q env H := fun c _ hr he => wp_exit ⟨c, env, H, h, rfl, hr, Evo.refl c, he⟩

theorem PW_cond {x : Operand} {t e : Code} {b : Bool} (hx : env.eval x = .g (.bool b)) (h1 : b = true → PW P N t Q env H) (h2 : b = false → PW P N e Q env H) : PW P N (.cond x t e) Q env H := by
  intro c a hr he
  have hv := he.eval x
  rw [hx] at hv
  cases hv with
  | g _ v hg =>
    generalize hv : a.eval x = v at hg
    cases hg
    exact wp_cond_split hv (fun e => h1 e c a hr he) (fun e => h2 e c a hr he)

def Blk (id : Nat) (Q : Exit → Env → PH → Prop) : Exit → Env → PH → Prop
  | .exit id', env, H => bif Nat.beq id' id then Q .normal env H else Q (.exit id') env H
  | e, env, H => Q e env H

theorem PW_block {id : Nat} {x : Code} (h : PW P N x (Blk id Q) env H) : PW P N (.block id x) Q env H := by
  intro c a hr he
  refine wp_block (wp_mono (h c a hr he) ?_)
  rintro e a' w' ⟨c', env', H', q, rfl, hr', hE, he'⟩
  cases e <;> simp only [Blk] at q <;> simp only [Exit.inBlock]
  case exit id' =>
    by_cases e : id' = id
    · subst e
      rw [Nat.beq_refl, cond_true] at q
      rw [if_pos rfl]
      exact ⟨c', env', H', q, rfl, hr', hE, he'⟩
    · rw [Bool.eq_false_iff.2 fun h => e (Nat.eq_of_beq_eq_true h), cond_false] at q
      rw [if_neg e]
      exact ⟨c', env', H', q, rfl, hr', hE, he'⟩
  all_goals exact ⟨c', env', H', q, rfl, hr', hE, he'⟩

theorem PW_region {id : Nat} {l : List Oper} (h : POps P N l.toArray (fun env H => Q .normal env H) l env H) : PW P N (.region id l.toArray false) Q env H := by
  intro c a hr he
  refine wp_region_lit ?_
  refine wpList_of_POps.wpList_mono ?_ (wpList_of_POps l env H h c a hr he)
  rintro e a' w' ⟨c', env', H', ⟨rfl, q⟩, hw, hr', hE, he'⟩
  exact ⟨c', env', H', q, hw, hr', hE, he'⟩

/-- One frame's slots say no more than another's. -/
def EnvLe (env env' : Env) : Prop := ∀ t (c : Ctx) (v : Value), RV c (env t) v → RV c (env' t) v
def HLe (P : Program) (H H' : PH) : Prop := ∀ c : Ctx, Rel P c H → Rel P c H'

theorem EnvLe.er {env env' : Env} (h : EnvLe env env') {c : Ctx} {a : Act} (he : ER c N env a) : ER c N env' a := ⟨he.defers, he.size, fun t => h t c _ (he.slot t)⟩

theorem PW_weak {code : Code} {env' : Env} {H' : PH} (h1 : EnvLe env env') (h2 : HLe P H H') (h : PW P N code Q env' H') : PW P N code Q env H :=
  fun c a hr he => h c a (h2 c hr) (h1.er he)

/-- A LOOP: what holds at each round's head is told by a number that falls (and whatever else, s). -/
theorem PW_loop {S : Type} {body : Code} (E : S → Env) (F : S → PH) (Inv : S → Prop) (μ : S → Nat) (s0 : S) (hi : Inv s0) (h1 : EnvLe env (E s0)) (h2 : HLe P H (F s0))
    (round : ∀ s, Inv s → PW P N body (Next (fun env' H' => ∃ s', Inv s' ∧ μ s' < μ s ∧ EnvLe env' (E s') ∧ HLe P H' (F s')) Q) (E s) (F s)) : PW P N (.loop body) Q env H := by
  intro c a hr he
  refine wp_loop_ghost (fun n a w => ∃ s c', Inv s ∧ μ s = n ∧ c'.w = w ∧ Rel P c' (F s) ∧ Evo c c' ∧ ER c' N (E s) a) (μ s0) ⟨s0, c, hi, rfl, rfl, h2 c hr, Evo.refl c, h1.er he⟩ ?_
  rintro n a w ⟨s, c1, hInv, rfl, rfl, hr1, hE1, he1⟩
  refine wp_mono (round s hInv c1 a hr1 he1) ?_
  rintro e a' w' ⟨c2, env2, H2, q, rfl, hr2, hE2, he2⟩
  cases e <;> simp only [Next] at q <;> simp only [Exit.then]
  case normal =>
    obtain ⟨s', hi', hlt, e1, e2⟩ := q
    exact ⟨μ s', hlt, s', c2, hi', rfl, rfl, e2 c2 hr2, hE1.trans hE2, e1.er he2⟩
  all_goals exact ⟨c2, env2, H2, q, rfl, hr2, hE1.trans hE2, he2⟩
end
end Go.Pure
