/- A generic layer: steps of regions that draw, branches at guards, calls. -/
import Derived.Test.YtffpepmfdjjjaaaPureJ
namespace Go.Pure
open Go

section
variable {P : Program} {N : Nat} {all : Array Oper} {K : List Nat} {Z : Env → PH → Prop} {rest : List Oper} {env : Env} {H H' : PH} {v : PV} {d : Option Tmp} {op : Op} {ty : TypeId} {pos : String} {aft : Array Edge} {g : Option (Nat × Bool)} {o : Oper}

theorem POpsD_nil (h : Z env H) : POpsD P N all K Z [] env H := h
theorem POpsD_run (hg : gd all ⟨d, op, ty, pos, aft, g⟩ env = some true) (hd : dstOk N d = true) (h : Cond P K ⟨d, op, ty, pos, aft, g⟩ env H v H') (k : POpsD P N all K Z rest (upd env d v) H') :
    POpsD P N all K Z (⟨d, op, ty, pos, aft, g⟩ :: rest) env H := by
  refine ⟨dst_of hd, ?_⟩
  rw [hg]
  exact ⟨v, H', h, k⟩
theorem POpsD_skip {gg : Nat × Bool} (hg : gd all ⟨d, op, ty, pos, aft, some gg⟩ env = some false) (hd : dstOk N d = true) (k : POpsD P N all K Z rest (upd env d undefP) H) :
    POpsD P N all K Z (⟨d, op, ty, pos, aft, some gg⟩ :: rest) env H := by
  refine ⟨dst_of hd, ?_⟩
  rw [hg]
  exact k

theorem Cond_f (h : ∀ H1, PO P o env.eval H1 v H1) (hk : kindB P o.op = 0 := by rfl) : Cond P K o env H v H := .inl ⟨hk, rfl, fun H1 _ => h H1⟩
theorem Cond_c (h : PO P o env.eval H v H') (hq : KEq K H H') (hk : kindB P o.op = 2 := by rfl) : Cond P K o env H v H' := .inr (.inr (.inl ⟨hk, h, hq⟩))
theorem Cond_s (h : PO P o env.eval H v H') (hq : KSh K H H') (hk : kindB P o.op = 3 := by rfl) : Cond P K o env H v H' := .inr (.inr (.inr ⟨hk, h, hq⟩))
theorem Cond_i (h : ∀ H1, KSh K H H1 → PO P o env.eval H1 v H1) (hk : kindB P o.op = 0 := by rfl) : Cond P K o env H v H := .inl ⟨hk, rfl, h⟩
theorem Cond_m (h : ∀ H1, KEq K H H1 → PO P o env.eval H1 v H1) (hk : kindB P o.op = 1 := by rfl) : Cond P K o env H v H := .inr (.inl ⟨hk, rfl, h⟩)
theorem Cond_l (h : ∀ H1, PO P o env.eval H1 v H1) (hk : kindB P o.op = 1 := by rfl) : Cond P K o env H v H := .inr (.inl ⟨hk, rfl, fun H1 _ => h H1⟩)
theorem Cond_l_one {t : TypeId} {x : Operand} {b off : Nat} {cs : List PV} (ho : o.op = .load t x) (h1 : aggB P t = some false) (hp : env.eval x = .ptr b off) (hb : H.bx[b]? = some cs) (hv : cs[off]? = some v) (hK : memB K b = true) (hKl : Nat.ble 10000 b = false) : Cond P K o env H v H :=
  .inr (.inl ⟨by rw [ho]; rfl, rfl, fun H1 hq => PO_load_ptr_one ho h1 hp ((hq.at b (memB_iff.1 hK) hKl) ▸ hb) hv⟩)
theorem Cond_l_agg {t : TypeId} {x : Operand} {b off n : Nat} {cs : List PV} (ho : o.op = .load t x) (h1 : aggB P t = some true) (h2 : szB P t = some n) (hp : env.eval x = .ptr b off) (hb : H.bx[b]? = some cs) (hn : Nat.ble (off + n) cs.length = true) (hK : memB K b = true) (hKl : Nat.ble 10000 b = false) :
    Cond P K o env H (.agg ((cs.drop off).take n)) H :=
  .inr (.inl ⟨by rw [ho]; rfl, rfl, fun H1 hq => PO_load_ptr_agg ho h1 h2 hp ((hq.at b (memB_iff.1 hK) hKl) ▸ hb) (Nat.le_of_ble_eq_true hn)⟩)

theorem load_agg {ρ : Operand → PV} {t : TypeId} {x : Operand} {b off n : Nat} {cs : List PV} (ho : o.op = .load t x) (h1 : aggB P t = some true) (h2 : szB P t = some n) (hp : ρ x = .ptr b off) (hb : H.bx[b]? = some cs) (hn : Nat.ble (off + n) cs.length = true) :
    PO P o ρ H (.agg ((cs.drop off).take n)) H := PO_load_ptr_agg ho h1 h2 hp hb (Nat.le_of_ble_eq_true hn)
theorem load_pat {ρ : Operand → PV} {t : TypeId} {x : Operand} {n : Nat} {cs : List GV} (ho : o.op = .load t x) (h1 : aggB P t = some true) (h2 : szB P t = some n) (hp : ρ x = .pat cs) (hn : Nat.ble n cs.length = true) :
    PO P o ρ H (.g (.agg (cs.take n))) H := PO_load_pat_agg ho h1 h2 hp (Nat.le_of_ble_eq_true hn)
theorem store_box {ρ : Operand → PV} {t : TypeId} {x y : Operand} {b off n : Nat} {cs ds : List PV} (ho : o.op = .store t x y) (hs : szB P t = some n) (hp : ρ x = .ptr b off) (hc : pvCells (ρ y) = some cs) (hn : Nat.beq cs.length n = true)
    (hb : H.bx[b]? = some ds) (hl : Nat.ble (off + n) ds.length = true) : PO P o ρ H undefP ⟨H.bx.set b (splice ds off cs), H.tk, H.mu⟩ :=
  PO_store ho hs hp hc (Nat.eq_of_beq_eq_true hn) hb (Nat.le_of_ble_eq_true hl)

/-- A move, its value laid open. -/
theorem mv_as {ρ : Operand → PV} {x : Operand} {p : PV} (ho : o.op = .move x) (h : ρ x = p) : PO P o ρ H p H := h ▸ PO_move ho
theorem as_as {ρ : Operand → PV} {x : Operand} {p : PV} (ho : o.op = .assign x) (h : ρ x = p) : PO P o ρ H p H := h ▸ PO_assign ho
theorem pick_t {ρ : Operand → PV} {x y z : Operand} {g : GV} (ho : o.op = .pick x y z) (hb : ρ x = .g (.bool true)) (h : ρ y = .g g) : PO P o ρ H (.g g) H := by
  have := PO_pick (P := P) (H := H) ho hb
  rwa [if_pos rfl, h] at this
theorem pick_f {ρ : Operand → PV} {x y z : Operand} {g : GV} (ho : o.op = .pick x y z) (hb : ρ x = .g (.bool false)) (h : ρ z = .g g) : PO P o ρ H (.g g) H := by
  have := PO_pick (P := P) (H := H) ho hb
  rwa [if_neg (by simp), h] at this

/-- A guard that is not decided: both ways. -/
theorem upd_same {env : Env} {d : Tmp} {b c : Bool} (h : env d = .g (.bool b)) (e : b = c) : upd env (some d) (.g (.bool c)) = env := by
  subst e
  funext t
  simp only [upd]
  cases hb : Nat.beq t d with
  | true => rw [Nat.eq_of_beq_eq_true hb, cond_true, h]
  | false => rfl

theorem POps_branch {Z : Env → PH → Prop} {dj : Tmp} {b : Bool} (hb : env dj = .g (.bool b)) (h1 : b = true → POps P N all Z rest (upd env (some dj) (.g (.bool true))) H) (h2 : b = false → POps P N all Z rest (upd env (some dj) (.g (.bool false))) H) :
    POps P N all Z rest env H := by
  cases b with
  | true => have := h1 rfl; rwa [upd_same hb rfl] at this
  | false => have := h2 rfl; rwa [upd_same hb rfl] at this
theorem POpsD_branch {dj : Tmp} {b : Bool} (hb : env dj = .g (.bool b)) (h1 : b = true → POpsD P N all K Z rest (upd env (some dj) (.g (.bool true))) H) (h2 : b = false → POpsD P N all K Z rest (upd env (some dj) (.g (.bool false))) H) :
    POpsD P N all K Z rest env H := by
  cases b with
  | true => have := h1 rfl; rwa [upd_same hb rfl] at this
  | false => have := h2 rfl; rwa [upd_same hb rfl] at this
/-- The slot that decides a guard. -/
def gslot (all : Array Oper) : List Oper → Option Tmp
  | o :: _ => match o.guard with | some (j, _) => (all.toList[j]?).bind (·.dst) | none => none
  | [] => none
theorem POps_split {Z : Env → PH → Prop} {dj : Tmp} {b : Bool} (_hj : gslot all rest = some dj) (hb : env dj = .g (.bool b)) (h1 : b = true → POps P N all Z rest (upd env (some dj) (.g (.bool true))) H) (h2 : b = false → POps P N all Z rest (upd env (some dj) (.g (.bool false))) H) :
    POps P N all Z rest env H := POps_branch hb h1 h2
theorem POpsD_split {dj : Tmp} {b : Bool} (_hj : gslot all rest = some dj) (hb : env dj = .g (.bool b)) (h1 : b = true → POpsD P N all K Z rest (upd env (some dj) (.g (.bool true))) H) (h2 : b = false → POpsD P N all K Z rest (upd env (some dj) (.g (.bool false))) H) :
    POpsD P N all K Z rest env H := POpsD_branch hb h1 h2

theorem PW_draw_k {id : Nat} {l : List Oper} {Q : Exit → Env → PH → Prop} (K : List Nat) (hm : P.follows .mixedOrders = true) (hd : drawB P l = true) (h : ∀ Z : Env → PH → Prop, (∀ env H, Q .normal env H → Z env H) → POpsD P N l.toArray K Z l env H) :
    PW P N (.region id l.toArray true) Q env H := PW_draw K hm hd (h _ fun _ _ h => h)

theorem PW_cond_t {x : Operand} {t e : Code} {Q : Exit → Env → PH → Prop} (hx : env.eval x = .g (.bool true)) (h : PW P N t Q env H) : PW P N (.cond x t e) Q env H := PW_cond hx (fun _ => h) (fun h => by cases h)
theorem PW_cond_f {x : Operand} {t e : Code} {Q : Exit → Env → PH → Prop} (hx : env.eval x = .g (.bool false)) (h : PW P N e Q env H) : PW P N (.cond x t e) Q env H := PW_cond hx (fun h => by cases h) (fun _ => h)

def isG : PV → Bool | .g _ => true | _ => false
def allB : List PV → Bool | [] => true | p :: r => isG p && allB r
theorem allB_spec : ∀ {ps : List PV}, allB ps = true → ∃ as : List GV, ps = as.map .g
  | [], _ => ⟨[], rfl⟩
  | p :: r, h => by
    simp only [allB, Bool.and_eq_true] at h
    obtain ⟨as, rfl⟩ := allB_spec h.2
    cases p with
    | g x => exact ⟨x :: as, rfl⟩
    | _ => simp [isG] at h
def closedB : PV → Bool | .g _ => true | .tuple cs => allB cs | _ => false
theorem closedB_spec {v : PV} (h : closedB v = true) : closedV v := by
  unfold closedB at h
  split at h
  · trivial
  · obtain ⟨as, rfl⟩ := allB_spec h
    intro p hp
    obtain ⟨x, _, rfl⟩ := List.mem_map.1 hp
    exact ⟨x, rfl⟩
  · cases h

/-- The operands' values, without identity. -/
def packs (ρ : Operand → PV) : List Operand → List PV
  | [] => []
  | x :: r => pack (ρ x) :: packs ρ r
theorem packs_eq (ρ : Operand → PV) : ∀ l : List Operand, packs ρ l = l.map fun x => pack (ρ x)
  | [] => rfl
  | x :: r => by rw [packs, packs_eq ρ r]; rfl

theorem call_pure {ρ : Operand → PV} {f : Operand} {args : Array Operand} {ts : Array TypeId} {id : FuncId} {ps : List PV} {v : PV} (ho : o.op = .call { callee := .value f, args := args, argTypes := ts })
    (hf : ρ f = .g (.raw (.func (.func id) #[] #[]))) (he : enterB P id = true) (hp : PC P id ps ⟨[], [], []⟩ v ⟨[], [], []⟩) (ha : packs ρ args.toList = ps) (hps : allB ps = true) (hv : closedB v = true) : PO P o ρ H v H := by
  obtain ⟨as, rfl⟩ := allB_spec hps
  exact PO_call_pure ho hf he (by rw [groundArgs, ← packs_eq]; exact ha) (closedB_spec hv) hp

theorem Ret_int {rs : List ResultVar} {ps : List PV} {e : Exit} {H2 : PH} {k : IntKind} {a b : Int} (hs : resVs P env H2 rs = some ps) (hv : retV ps = .g (.int k a)) (ha : a = b) (he : e = .normal ∨ e = .ret := by first | exact .inl rfl | exact .inr rfl) :
    Ret P rs ⟨[], [], []⟩ (.g (.int k b)) ⟨[], [], []⟩ e env H2 := Ret_pure hs (ha ▸ hv) (.g _) he
theorem Ret_bool {rs : List ResultVar} {ps : List PV} {e : Exit} {H2 : PH} {a b : Bool} (hs : resVs P env H2 rs = some ps) (hv : retV ps = .g (.bool a)) (ha : a = b) (he : e = .normal ∨ e = .ret := by first | exact .inl rfl | exact .inr rfl) :
    Ret P rs ⟨[], [], []⟩ (.g (.bool b)) ⟨[], [], []⟩ e env H2 := Ret_pure hs (ha ▸ hv) (.g _) he
theorem Ret_g {rs : List ResultVar} {ps : List PV} {e : Exit} {H2 : PH} {a b : GV} (hs : resVs P env H2 rs = some ps) (hv : retV ps = .g a) (ha : a = b) (he : e = .normal ∨ e = .ret := by first | exact .inl rfl | exact .inr rfl) :
    Ret P rs ⟨[], [], []⟩ (.g b) ⟨[], [], []⟩ e env H2 := Ret_pure hs (ha ▸ hv) (.g _) he
end
end Go.Pure
