/- A generic layer: operations carried out by a function. -/
import Derived.Test.YtffpepmfdjjjaaaPureL
import Derived.Laws.StructEq
namespace Go.Pure
open Go

section
variable {P : Program} {o : Oper} {ρ : Operand → PV} {H : PH}
theorem PO_min {x y : Operand} {ts : Array TypeId} {k : IntKind} {a b : Int} (ho : o.op = .call { callee := .builtin .min, args := #[x, y], argTypes := ts }) (ha : ρ x = .g (.int k a)) (hb : ρ y = .g (.int k b)) : PO P o ρ H (.g (.int k (if b < a then b else a))) H :=
  PO_val fun c ρr hr hx => by
    have h1 := hx x (by simp [ho, Op.operands, Call.operands])
    have h2 := hx y (by simp [ho, Op.operands, Call.operands])
    rw [ha] at h1; rw [hb] at h2
    exact ⟨.int k (if b < a then b else a), by simp [execOp, ho, resolve, invoke, builtin, Builtin.min_, RV_int h1, RV_int h2, Builtin.min2], .g _ _ (.int _ _)⟩
theorem PO_max {x y : Operand} {ts : Array TypeId} {k : IntKind} {a b : Int} (ho : o.op = .call { callee := .builtin .max, args := #[x, y], argTypes := ts }) (ha : ρ x = .g (.int k a)) (hb : ρ y = .g (.int k b)) : PO P o ρ H (.g (.int k (if a < b then b else a))) H :=
  PO_val fun c ρr hr hx => by
    have h1 := hx x (by simp [ho, Op.operands, Call.operands])
    have h2 := hx y (by simp [ho, Op.operands, Call.operands])
    rw [ha] at h1; rw [hb] at h2
    exact ⟨.int k (if a < b then b else a), by simp [execOp, ho, resolve, invoke, builtin, Builtin.max_, RV_int h1, RV_int h2, Builtin.max2], .g _ _ (.int _ _)⟩
end

def kindEq : IntKind → IntKind → Bool
  | .i8, .i8 | .i16, .i16 | .i32, .i32 | .i64, .i64 | .u8, .u8 | .u16, .u16 | .u32, .u32 | .u64, .u64 => true
  | _, _ => false
theorem kindEq_ok {a b : IntKind} (h : kindEq a b = true) : a = b := by cases a <;> cases b <;> first | rfl | cases h

/-- A struct of whole numbers: its fields' places. -/
def intFs (P : Program) : List Field → Option (List Nat)
  | [] => some []
  | f :: r => match P.underlying f.type, intFs P r with
    | some (.int _), some l => bif f.name == "_" then none else some (f.offset :: l)
    | _, _ => none
def eqfB (P : Program) (t : TypeId) : Option (List Nat) :=
  match P.underlying t with
  | some (.struct fs) => bif P.stoodInHeld t || P.eqGuardType P.depth t then none else intFs P fs.toList
  | _ => none
def eqI (cs ds : List PV) : List Nat → Option Bool
  | [] => some true
  | k :: r => match cs[k]?, ds[k]? with
    | some (.g (.int k1 a)), some (.g (.int k2 b)) => bif kindEq k1 k2 then (match eqI cs ds r with
      | some e => some ((a == b) && e)
      | none => none) else none
    | _, _ => none

theorem run_eqFields {P : Program} {w : World} {c : Ctx} {cs ds : List PV} {xs ys : Array Value} (h1 : RCs c cs xs) (h2 : RCs c ds ys) : ∀ (fs : List Field) (l : List Nat) (e : Bool), intFs P fs = some l → eqI cs ds l = some e → (Op.eqFields 9999 xs ys fs).run P w = .ok e w
  | [], l, e, hl, he => by
    simp only [intFs, Option.some.injEq] at hl
    subst hl
    simp only [eqI, Option.some.injEq] at he
    subst he
    rfl
  | f :: fs, l, e, hl, he => by
    simp only [intFs] at hl
    split at hl
    · rename_i k l' hu hl'
      cases hn : f.name == "_" with
      | true => rw [hn] at hl; cases hl
      | false =>
        rw [hn] at hl
        simp only [cond_false, Option.some.injEq] at hl
        subst hl
        simp only [eqI] at he
        split at he
        · rename_i k1 a k2 b ha hb
          cases hk : kindEq k1 k2 with
          | false => rw [hk] at he; cases he
          | true =>
            rw [hk, cond_true] at he
            have ek := kindEq_ok hk
            subst ek
            split at he
            · rename_i e' he'
              cases he
              have ag : aggB P f.type = some false := by simp [aggB, hu]
              have part1 : ∀ {cs : List PV} {xs : Array Value} {k : IntKind} {a : Int}, RCs c cs xs → cs[f.offset]? = some (.g (.int k a)) → (part f.type xs f.offset).run P w = .ok (.int k a) w := by
                intro cs xs k a h ha
                have hlt : f.offset < xs.size := by rw [h.1]; exact (List.getElem?_eq_some_iff.1 ha).1
                have hx := h.2 f.offset _ xs[f.offset] ha (by simp [hlt])
                have hx' := RV_int hx.1
                simp only [part, Sem.run_bind, run_isAgg ag, Result.andThen_ok, Bool.false_eq_true, if_false, Array.getElem?_eq_getElem hlt, hx', Sem.run_pure]
              have hne : f.name ≠ "_" := by simpa using hn
              have ih := run_eqFields (w := w) h1 h2 fs l' e' hl' he'
              have hq := run_equalIn_int (P := P) w 9998 f.type k1 k a b hu
              simp only [Op.eqFields, hne, ne_eq, not_false_eq_true, if_true, Sem.run_bind, part1 h1 ha, part1 h2 hb, Result.andThen_ok, hq]
              cases a == b with
              | true => simpa using ih
              | false => simp
            · cases he
        · cases he
    · cases hl

/-- What is known of a program's types. -/
structure Tab where
  ag : Nat → Option Bool
  sz : Nat → Option Nat
  fd : Nat → Nat → Option (Nat × Nat)
  el : Nat → Option Nat
  bo : Nat → Bool
  st : Nat → Bool
  zr : Nat → Option (List PV)
  pl : Nat → Option (List (Nat × Nat))
  ef : Nat → Option (List Nat)

structure TabOk (P : Program) (T : Tab) : Prop where
  ag : ∀ t b, T.ag t = some b → aggB P t = some b
  sz : ∀ t n, T.sz t = some n → szB P t = some n
  fd : ∀ t k d ft, T.fd t k = some (d, ft) → fieldB P t k = some (d, ft)
  el : ∀ t e, T.el t = some e → P.underlying t = some (.slice e)
  bo : ∀ t, T.bo t = true → P.underlying t = some .bool
  st : ∀ t, T.st t = true → P.underlying t = some .string
  zr : ∀ t cs, T.zr t = some cs → ∃ z, zeroB P t = some z ∧ z.cells.toList.all (·.oneCell') = true ∧ cs = z.cells.toList.map constC
  pl : ∀ t p, T.pl t = some p → placesB P t = some p
  ef : ∀ t l, T.ef t = some l → eqfB P t = some l

def binP (T : Tab) (op : BinOp) (t : Nat) (a b : PV) : Option PV :=
  match a, b with
  | .g (.int k x), .g (.int k' y) => bif kindEq k k' then (match intOp op k x y with | some g => some (.g g) | none => none) else none
  | .g (.str x), .g (.str y) => match strOp op x y with | some g => some (.g g) | none => none
  | .g (.bool x), .g (.bool y) => bif T.bo t then (match op with | .eql => some (.g (.bool (x == y))) | .neq => some (.g (.bool (x != y))) | _ => none) else none
  | .g (.agg xs), .g (.agg ys) => match T.ef t with
    | some l => match op with
      | .eql => match eqI (xs.map .g) (ys.map .g) l with | some e => some (.g (.bool e)) | none => none
      | .neq => match eqI (xs.map .g) (ys.map .g) l with | some e => some (.g (.bool (!e))) | none => none
      | _ => none
    | none => none
  | .agg xs, .agg ys => match T.ef t with
    | some l => match op with
      | .eql => match eqI xs ys l with | some e => some (.g (.bool e)) | none => none
      | .neq => match eqI xs ys l with | some e => some (.g (.bool (!e))) | none => none
      | _ => none
    | none => none
  | _, _ => none

def unP (op : UnOp) (a : PV) : Option PV :=
  match op, a with
  | .not, .g (.bool b) => some (.g (.bool (!b)))
  | .neg, .g (.int k n) => some (.g (.int k (k.wrap (0 - n))))
  | _, _ => none

/-- Laid open. -/
def force : PV → Option PV
  | .g x => some (.g x)
  | .own es id => some (.own es id)
  | .ptr b off => some (.ptr b off)
  | .nilp => some .nilp
  | .nils => some .nils
  | .pat cs => some (.pat cs)
  | .clo f a b => some (.clo f a b)
  | .agg cs => some (.agg cs)
  | .tuple cs => some (.tuple cs)
  | .mar id n => some (.mar id n)
  | .mref id n i off => some (.mref id n i off)
  | .mp id => some (.mp id)
  | .any => some .any
theorem force_eq (p : PV) : force p = some p := by cases p <;> rfl

/-- A small number, as a numeral. -/
def litL : List Nat → Nat → Option Nat
  | [], n => some n
  | k :: r, n => bif Nat.beq n k then some k else litL r n
theorem litL_eq (n : Nat) : ∀ l : List Nat, litL l n = some n
  | [] => rfl
  | k :: r => by
    unfold litL
    cases h : Nat.beq n k with
    | true => rw [cond_true, Nat.eq_of_beq_eq_true h]
    | false => exact litL_eq n r
def litO (n : Nat) : Option Nat := litL [0, 1, 2, 3, 4, 5, 6, 7, 8, 9, 10, 11, 12, 13, 14, 15, 16, 17, 18, 19, 20, 21, 22, 23, 24, 25, 26, 27, 28, 29, 30, 31] n
theorem litO_eq (n : Nat) : litO n = some n := litL_eq n _
/-- A list, cell by cell. -/
def forceL : List PV → Option (List PV)
  | [] => some []
  | a :: r => match forceL r with
    | some r' => some (a :: r')
    | none => none
theorem forceL_eq : ∀ l : List PV, forceL l = some l
  | [] => rfl
  | a :: r => by simp [forceL, forceL_eq r]
def forceB : List (List PV) → Option (List (List PV))
  | [] => some []
  | a :: r => match forceB r with
    | some r' => some (a :: r')
    | none => none
theorem forceB_eq : ∀ l : List (List PV), forceB l = some l
  | [] => rfl
  | a :: r => by simp [forceB, forceB_eq r]
def nrmV : PV → Option PV
  | .g x => some (.g x)
  | .own es id => match litO id with | some id' => some (.own es id') | none => none
  | .ptr b off => match litO b with
    | some b' => match litO off with | some off' => some (.ptr b' off') | none => none
    | none => none
  | .nilp => some .nilp
  | .nils => some .nils
  | .pat cs => some (.pat cs)
  | .clo f a b => some (.clo f a b)
  | .agg cs => match forceL cs with | some cs' => some (.agg cs') | none => none
  | .tuple cs => match forceL cs with | some cs' => some (.tuple cs') | none => none
  | .mar id n => match litO id with | some id' => some (.mar id' n) | none => none
  | .mref id n i off => match litO id with
    | some id' => match litO off with | some off' => some (.mref id' n i off') | none => none
    | none => none
  | .mp id => match litO id with | some id' => some (.mp id') | none => none
  | .any => some .any
theorem nrmV_eq (p : PV) : nrmV p = some p := by cases p <;> simp [nrmV, litO_eq, forceL_eq]

def hasCells : PV → Option (List PV)
  | .g (.agg cs) => some (cs.map .g)
  | .agg cs => some cs
  | _ => none

/-- Operations that leave memory as it is and read no box. -/
def popF (T : Tab) (o : Op) (ρ : Operand → PV) : Option PV :=
  match o with
  | .move x | .assign x => force (ρ x)
  | .pick c a b => match ρ c with
    | .g (.bool true) => force (ρ a)
    | .g (.bool false) => force (ρ b)
    | _ => none
  | .fieldAddr s x k => match T.fd s k with
    | some (d, _) => match ρ x with
      | .ptr b off => some (.ptr b (off + d))
      | .pat cs => some (.pat (cs.drop d))
      | .mref id n i off => some (.mref id n i (off + d))
      | _ => none
    | none => none
  | .field s x k => match T.fd s k with
    | some (d, ft) => match T.ag ft with
      | some false => match hasCells (ρ x) with
        | some cs => cs[d]?
        | none => none
      | _ => none
    | none => none
  | .binOp op t x y _ => binP T op t (ρ x) (ρ y)
  | .unOp op _ x => unP op (ρ x)
  | .build t parts => match T.zr t with
    | some zs => match T.pl t with
      | some pl => match fillP (pls pl) zs (partsP ρ parts.toList) with
        | some cs => some (.agg cs)
        | none => none
      | none => none
    | none => none
  | .extract x i => match ρ x with
    | .tuple ps => ps[i]?
    | _ => none
  | .call { callee := .builtin .len, args := ⟨[x]⟩, argTypes := ⟨[t]⟩ } =>
    match T.el t with
    | some _ => match elems (ρ x) with
      | some es => some (.g (.int .i64 es.length))
      | none => none
    | none => match ρ x with
      | .g (.str s) => bif T.st t then some (.g (.int .i64 s.size)) else none
      | _ => none
  | .call { callee := .builtin .min, args := ⟨[x, y]⟩, argTypes := _ } => match ρ x, ρ y with
    | .g (.int k a), .g (.int k' b) => bif kindEq k k' then some (.g (.int k (if b < a then b else a))) else none
    | _, _ => none
  | .call { callee := .builtin .max, args := ⟨[x, y]⟩, argTypes := _ } => match ρ x, ρ y with
    | .g (.int k a), .g (.int k' b) => bif kindEq k k' then some (.g (.int k (if a < b then b else a))) else none
    | _, _ => none
  | .load t x => match ρ x with
    | .pat cs => match T.ag t with
      | some false => match cs with
        | g :: _ => some (.g g)
        | [] => none
      | some true => match T.sz t with
        | some n => bif Nat.ble n cs.length then some (.g (.agg (cs.take n))) else none
        | none => none
      | none => none
    | _ => none
  | _ => none

/-- Reading a box. -/
def popL (T : Tab) (o : Op) (ρ : Operand → PV) (H : PH) : Option (Nat × PV) :=
  match o with
  | .load t x => match ρ x with
    | .ptr b off => match H.bx[b]? with
      | some cs => match T.ag t with
        | some false => match cs[off]? with
          | some p => match force p with
            | some q => some (b, q)
            | none => none
          | none => none
        | some true => match T.sz t with
          | some n => bif Nat.ble (off + n) cs.length then some (b, .agg ((cs.drop off).take n)) else none
          | none => none
        | none => none
      | none => none
    | _ => none
  | _ => none

/-- New boxes. -/
def popC (T : Tab) (o : Op) (ρ : Operand → PV) : Option (List PV) :=
  match o with
  | .box _ x => pvCells (ρ x)
  | .alloc t => T.zr t
  | _ => none

/-- A box's cells, written. -/
def newCells : PH → Nat → List PV → Option PH
  | ⟨bx, tk, mu⟩, b, cs => match forceL cs with
    | some cs' => match forceB (bx.set b cs') with
      | some bx' => some ⟨bx', tk, mu⟩
      | none => none
    | none => none
theorem newCells_eq (H : PH) (b : Nat) (cs : List PV) : newCells H b cs = some ⟨H.bx.set b cs, H.tk, H.mu⟩ := by simp [newCells, forceL_eq, forceB_eq]

/-- Writing a box. -/
def popS (T : Tab) (o : Op) (ρ : Operand → PV) (H : PH) : Option PH :=
  match o with
  | .store t x y => match ρ x with
    | .ptr b off => match T.sz t with
      | some n => match pvCells (ρ y) with
        | some cs => match H.bx[b]? with
          | some ds => bif Nat.beq cs.length n && Nat.ble (off + n) ds.length then newCells H b (splice ds off cs) else none
          | none => none
        | none => none
      | none => none
    | _ => none
  | _ => none

section
variable {P : Program} {T : Tab} (hT : TabOk P T) {o : Oper} {ρ : Operand → PV} {H : PH} {v : PV}
include hT

omit hT in
theorem PO_eqs {op : BinOp} {t u : TypeId} {x y : Operand} {xs ys : List PV} {l : List Nat} {e : Bool} (ho : o.op = .binOp op t x y u) (hop : op = .eql ∨ op = .neq) (hf : eqfB P t = some l) (ha : hasCells (ρ x) = some xs) (hb : hasCells (ρ y) = some ys) (he : eqI xs ys l = some e) :
    PO P o ρ H (.g (.bool (if op = .eql then e else !e))) H :=
  PO_val fun c ρr hr hx => by
    have cellsOf : ∀ {p : PV} {v : Value} {cs : List PV}, RV c p v → hasCells p = some cs → ∃ vs, v = .agg vs ∧ RCs c cs vs := by
      intro p v cs h hc
      unfold hasCells at hc
      split at hc
      · rename_i gs
        cases hc
        obtain ⟨e1, e2⟩ := pvCells_ok h (cs := gs.map .g) rfl
        cases h with
        | g _ _ hg => cases hg; exact ⟨_, rfl, e1.symm, e2⟩
      · cases hc
        obtain ⟨e1, e2⟩ := pvCells_ok h (cs := cs) rfl
        cases h
        exact ⟨_, rfl, e1.symm, e2⟩
      · cases hc
    obtain ⟨us, e1, r1⟩ := cellsOf (hx x (by simp [ho, Op.operands])) ha
    obtain ⟨ws, e2, r2⟩ := cellsOf (hx y (by simp [ho, Op.operands])) hb
    unfold eqfB at hf
    split at hf
    · rename_i fs hu
      cases hs : (P.stoodInHeld t || P.eqGuardType P.depth t) with
      | true => rw [hs] at hf; cases hf
      | false =>
        rw [hs, cond_false] at hf
        simp only [Bool.or_eq_false_iff] at hs
        have hfs : P.fieldsOf t = fs := by simp [Program.fieldsOf, hu]
        have hrun : (Op.equalIn 10000 t (.agg us) (.agg ws)).run P c.w = .ok e c.w := by
          have := run_equalIn_struct (P := P) c.w 9999 t us ws (by rw [hfs]; exact hu) hs.1
          rw [this, hfs]
          exact run_eqFields r1 r2 fs.toList l e hf he
        refine ⟨.bool (if op = .eql then e else !e), ?_, .g _ _ (.bool _)⟩
        simp only [execOp, ho, e1, e2, Sem.run_bind, run_eqGuard_agg c.w op t x y us ws hs.2, Result.andThen_ok]
        rcases hop with rfl | rfl
        · rw [run_eql_struct, hrun]; rfl
        · rw [run_neq_struct, hrun]; rfl
    · cases hf

theorem binP_ok {op : BinOp} {t u : TypeId} {x y : Operand} (ho : o.op = .binOp op t x y u) (h : binP T op t (ρ x) (ρ y) = some v) : PO P o ρ H v H := by
  unfold binP at h
  split at h
  · rename_i k a k' b ha hb
    cases hk : kindEq k k' with
    | false => rw [hk] at h; cases h
    | true =>
      rw [hk, cond_true] at h
      have e := kindEq_ok hk
      subst e
      split at h
      · rename_i g hg; cases h; exact PO_int ho ha hb hg
      · cases h
  · rename_i a b ha hb
    split at h
    · rename_i g hg; cases h; exact PO_str ho ha hb hg
    · cases h
  · rename_i a b ha hb
    cases hk : T.bo t with
    | false => rw [hk] at h; cases h
    | true =>
      rw [hk, cond_true] at h
      split at h
      · cases h; exact PO_eqb ho (hT.bo t hk) ha hb
      · cases h; exact PO_neb ho (hT.bo t hk) ha hb
      · cases h
  · rename_i xs ys ha hb
    split at h
    · rename_i l hl
      split at h
      · split at h
        · rename_i e he; cases h; exact PO_eqs ho (.inl rfl) (hT.ef _ _ hl) (by rw [ha]; rfl) (by rw [hb]; rfl) he
        · cases h
      · split at h
        · rename_i e he; cases h; exact PO_eqs ho (.inr rfl) (hT.ef _ _ hl) (by rw [ha]; rfl) (by rw [hb]; rfl) he
        · cases h
      · cases h
    · cases h
  · rename_i xs ys ha hb
    split at h
    · rename_i l hl
      split at h
      · split at h
        · rename_i e he; cases h; exact PO_eqs ho (.inl rfl) (hT.ef _ _ hl) (by rw [ha]; rfl) (by rw [hb]; rfl) he
        · cases h
      · split at h
        · rename_i e he; cases h; exact PO_eqs ho (.inr rfl) (hT.ef _ _ hl) (by rw [ha]; rfl) (by rw [hb]; rfl) he
        · cases h
      · cases h
    · cases h
  · cases h

theorem popF_ok (h : popF T o.op ρ = some v) : PO P o ρ H v H := by
  unfold popF at h
  split at h
  · rename_i x ho; rw [force_eq] at h; cases h; exact PO_move ho
  · rename_i x ho; rw [force_eq] at h; cases h; exact PO_assign ho
  · rename_i c a b ho
    split at h
    · rename_i hc; rw [force_eq] at h; cases h; have := PO_pick (P := P) (H := H) ho hc; rwa [if_pos rfl] at this
    · rename_i hc; rw [force_eq] at h; cases h; have := PO_pick (P := P) (H := H) ho hc; rwa [if_neg (by simp)] at this
    · cases h
  · rename_i s x k ho
    split at h
    · rename_i d ft hf
      split at h
      · rename_i b off hp; cases h; exact PO_fieldAddr_ptr ho (hT.fd _ _ _ _ hf) hp
      · rename_i cs hp; cases h; exact PO_fieldAddr_pat ho (hT.fd _ _ _ _ hf) hp
      · rename_i id n i off hp; cases h; exact PO_fieldAddr_mref ho (hT.fd _ _ _ _ hf) hp
      · cases h
    · cases h
  · rename_i s x k ho
    split at h
    · rename_i d ft hf
      split at h
      · rename_i hag
        split at h
        · rename_i cs hcs
          unfold hasCells at hcs
          split at hcs
          · rename_i gs hg; cases hcs; exact PO_field ho (hT.fd _ _ _ _ hf) (hT.ag _ _ hag) (by rw [hg]; rfl) ⟨gs, .inl hg⟩ h
          · rename_i gs hg; cases hcs; exact PO_field ho (hT.fd _ _ _ _ hf) (hT.ag _ _ hag) (by rw [hg]; rfl) ⟨[], .inr ⟨_, hg⟩⟩ h
          · cases hcs
        · cases h
      · cases h
    · cases h
  · rename_i op t x y u ho; exact binP_ok hT ho h
  · rename_i op t x ho
    unfold unP at h
    split at h
    · rename_i b hb; cases h; exact PO_not ho hb
    · rename_i k n hb; cases h; exact PO_neg ho hb
    · cases h
  · rename_i t parts ho
    split at h
    · rename_i zs hz
      split at h
      · rename_i pl hpl
        split at h
        · rename_i cs hcs
          cases h
          obtain ⟨z, h1, h2, rfl⟩ := hT.zr t zs hz
          exact PO_build ho h1 h2 (hT.pl t pl hpl) hcs
        · cases h
      · cases h
    · cases h
  · rename_i x i ho
    split at h
    · rename_i ps hp; exact PO_extract ho hp h
    · cases h
  · rename_i x t ho
    split at h
    · rename_i e he
      split at h
      · rename_i es hes; cases h; exact PO_len ho (hT.el t e he) hes
      · cases h
    · split at h
      · rename_i s hs
        cases hk : T.st t with
        | false => rw [hk] at h; cases h
        | true => rw [hk, cond_true] at h; cases h; exact PO_lens ho (hT.st t hk) hs
      · cases h
  · rename_i x y ts ho
    split at h
    · rename_i k a k' b ha hb
      cases hk : kindEq k k' with
      | false => rw [hk] at h; cases h
      | true =>
        rw [hk, cond_true] at h; cases h
        have e := kindEq_ok hk
        subst e
        exact PO_min ho ha hb
    · cases h
  · rename_i x y ts ho
    split at h
    · rename_i k a k' b ha hb
      cases hk : kindEq k k' with
      | false => rw [hk] at h; cases h
      | true =>
        rw [hk, cond_true] at h; cases h
        have e := kindEq_ok hk
        subst e
        exact PO_max ho ha hb
    · cases h
  · rename_i t x ho
    split at h
    · rename_i cs hp
      split at h
      · rename_i hag
        split at h
        · rename_i g r; cases h; exact PO_load_pat_one ho (hT.ag _ _ hag) hp rfl
        · cases h
      · rename_i hag
        split at h
        · rename_i n hn
          cases hk : Nat.ble n cs.length with
          | false => rw [hk] at h; cases h
          | true => rw [hk, cond_true] at h; cases h; exact load_pat ho (hT.ag _ _ hag) (hT.sz _ _ hn) hp hk
        · cases h
      · cases h
    · cases h
  · cases h

theorem popL_ok {b : Nat} (h : popL T o.op ρ H = some (b, v)) {H1 : PH} (hb : H.bx[b]? = H1.bx[b]?) : PO P o ρ H1 v H1 := by
  unfold popL at h
  split at h
  · rename_i t x ho
    split at h
    · rename_i b' off hp
      split at h
      · rename_i cs hcs
        split at h
        · rename_i hag
          split at h
          · rename_i p hpp; rw [force_eq] at h; cases h; exact PO_load_ptr_one ho (hT.ag _ _ hag) hp (hb ▸ hcs) hpp
          · cases h
        · rename_i hag
          split at h
          · rename_i n hn
            cases hk : Nat.ble (off + n) cs.length with
            | false => rw [hk] at h; cases h
            | true => rw [hk, cond_true] at h; cases h; exact load_agg ho (hT.ag _ _ hag) (hT.sz _ _ hn) hp (hb ▸ hcs) hk
          · cases h
        · cases h
      · cases h
    · cases h
  · cases h

theorem popC_ok {cs : List PV} (h : popC T o.op ρ = some cs) : PO P o ρ H (.ptr H.bx.length 0) ⟨H.bx ++ [cs], H.tk, H.mu⟩ := by
  unfold popC at h
  split at h
  · rename_i t x ho; exact PO_box ho h
  · rename_i t ho
    obtain ⟨z, h1, h2, rfl⟩ := hT.zr t cs h
    exact PO_alloc ho h1 h2
  · cases h

theorem popS_ok {H' : PH} (h : popS T o.op ρ H = some H') : PO P o ρ H undefP H' := by
  unfold popS at h
  split at h
  · rename_i t x y ho
    split at h
    · rename_i b off hp
      split at h
      · rename_i n hn
        split at h
        · rename_i cs hcs
          split at h
          · rename_i ds hds
            cases hk : (Nat.beq cs.length n && Nat.ble (off + n) ds.length) with
            | false => rw [hk] at h; cases h
            | true =>
              rw [hk, cond_true, newCells_eq] at h; cases h
              simp only [Bool.and_eq_true] at hk
              exact store_box ho (hT.sz _ _ hn) hp hcs hk.1 hds hk.2
          · cases h
        · cases h
      · cases h
    · cases h
  · cases h
end

theorem kind_popF {P : Program} {T : Tab} {o : Op} {ρ : Operand → PV} {v : PV} (h : popF T o ρ = some v) : kindB P o = 0 ∨ kindB P o = 1 := by
  unfold popF at h
  split at h <;> first | exact .inl rfl | exact .inr rfl | cases h

def newBox : PH → List PV → Option (PV × PH)
  | ⟨bx, tk, mu⟩, cs => match litO bx.length with
    | some n => match forceL cs with
      | some cs' => match forceB (bx ++ [cs']) with
        | some bx' => some (.ptr n 0, ⟨bx', tk, mu⟩)
        | none => none
      | none => none
    | none => none
theorem newBox_eq (H : PH) (cs : List PV) : newBox H cs = some (.ptr H.bx.length 0, ⟨H.bx ++ [cs], H.tk, H.mu⟩) := by simp [newBox, litO_eq, forceL_eq, forceB_eq]
/-- One operation. -/
def pop (T : Tab) (o : Op) (ρ : Operand → PV) (H : PH) : Option (PV × PH) :=
  match popF T o ρ with
  | some v => match nrmV v with | some v => some (v, H) | none => none
  | none => match popL T o ρ H with
    | some (_, v) => match nrmV v with | some v => some (v, H) | none => none
    | none => match popC T o ρ with
      | some cs => newBox H cs
      | none => match popS T o ρ H with
        | some H' => some (undefP, H')
        | none => none

/-- One operation of a region that draws. -/
def popD (T : Tab) (K : List Nat) (o : Op) (ρ : Operand → PV) (H : PH) : Option (PV × PH) :=
  match popF T o ρ with
  | some v => match nrmV v with | some v => some (v, H) | none => none
  | none => match popL T o ρ H with
    | some (b, v) => bif memB K b && !Nat.ble 10000 b then (match nrmV v with | some v => some (v, H) | none => none) else none
    | none => match popC T o ρ with
      | some cs => bif K.all (fun k => Nat.blt k H.bx.length || Nat.ble 10000 k) then newBox H cs else none
      | none => match popS T o ρ H with
        | some H' => some (undefP, H')
        | none => none

section
variable {P : Program} {T : Tab} (hT : TabOk P T) {N : Nat} {all : Array Oper} {K : List Nat} {Z : Env → PH → Prop} {o : Oper} {env : Env} {H H' : PH} {v : PV}
include hT

theorem pop_ok {ρ : Operand → PV} (h : pop T o.op ρ H = some (v, H')) : PO P o ρ H v H' := by
  unfold pop at h
  split at h
  · rename_i u hu; simp only [nrmV_eq] at h; cases h; exact popF_ok hT hu
  · split at h
    · rename_i b u hu; simp only [nrmV_eq] at h; cases h; exact popL_ok hT hu rfl
    · split at h
      · rename_i cs hcs; rw [newBox_eq] at h; cases h; exact popC_ok hT hcs
      · split at h
        · rename_i H1 h1; cases h; exact popS_ok hT h1
        · cases h

omit hT in
theorem KEq_new {K : List Nat} {cs : List PV} {tk : List (TypeId × Nat)} (h : K.all (fun k => Nat.blt k H.bx.length || Nat.ble 10000 k) = true) : KEq K H ⟨H.bx ++ [cs], tk, H.mu⟩ := by
  induction K with
  | nil => trivial
  | cons k K ih =>
    simp only [List.all_cons, Bool.and_eq_true] at h
    refine ⟨?_, ih h.2⟩
    unfold KMu
    cases hb : Nat.ble 10000 k with
    | true => simp
    | false =>
      have h1 : k < H.bx.length := by have := h.1; rw [hb] at this; simpa [Nat.blt_eq] using this
      simp only [cond_false]
      exact (List.getElem?_append_left h1).symm

omit hT in
theorem popS_mu {ρ : Operand → PV} {op : Op} (h : popS T op ρ H = some H') : H.mu = H'.mu := by
  unfold popS at h
  repeat' split at h
  all_goals first
    | cases h; done
    | skip
  rename_i hh
  rw [newCells_eq] at h
  revert h
  cases (Nat.beq _ _ && Nat.ble _ _) <;> intro h <;> cases h
  rfl

theorem popD_ok (h : popD T K o.op env.eval H = some (v, H')) : Cond P K o env H v H' := by
  unfold popD at h
  split at h
  · rename_i u hu; simp only [nrmV_eq] at h; cases h
    rcases kind_popF hu with hk | hk
    · exact .inl ⟨hk, rfl, fun H1 _ => popF_ok hT hu⟩
    · exact .inr (.inl ⟨hk, rfl, fun H1 _ => popF_ok hT hu⟩)
  · split at h
    · rename_i b u hu
      cases hk : (memB K b && !Nat.ble 10000 b) with
      | false => rw [hk] at h; cases h
      | true =>
        rw [hk, cond_true] at h; simp only [nrmV_eq] at h; cases h
        simp only [Bool.and_eq_true, Bool.not_eq_true'] at hk
        have hkind : kindB P o.op = 1 := by
          unfold popL at hu
          split at hu
          · rename_i ho; rw [ho]; rfl
          · cases hu
        exact .inr (.inl ⟨hkind, rfl, fun H1 hq => popL_ok hT hu (hq.at b (memB_iff.1 hk.1) hk.2)⟩)
    · split at h
      · rename_i cs hcs
        cases hk : K.all (fun k => Nat.blt k H.bx.length || Nat.ble 10000 k) with
        | false => rw [hk] at h; cases h
        | true =>
          rw [hk, cond_true, newBox_eq] at h; cases h
          have hkind : kindB P o.op = 2 := by
            unfold popC at hcs
            split at hcs
            · rename_i ho; rw [ho]; rfl
            · rename_i ho; rw [ho]; rfl
            · cases hcs
          exact .inr (.inr (.inl ⟨hkind, popC_ok hT hcs, KEq_new hk⟩))
      · split at h
        · rename_i H1 h1
          cases h
          have hkind : kindB P o.op = 3 := by
            unfold popS at h1
            split at h1
            · rename_i ho; rw [ho]; rfl
            · cases h1
          exact .inr (.inr (.inr ⟨hkind, popS_ok hT h1, .of_mu (popS_mu h1)⟩))
        · cases h
omit hT

/-- As many operations as can be carried out by themselves, so many at most. -/
def runO (T : Tab) (N : Nat) (all : Array Oper) : Nat → List Oper → Env → PH → Option (List Oper × Env × PH)
  | 0, l, env, H => some (l, env, H)
  | _ + 1, [], env, H => some ([], env, H)
  | n + 1, ⟨d, op, ty, pos, aft, gg⟩ :: r, env, H =>
    bif dstOk N d then
      match gd all ⟨d, op, ty, pos, aft, gg⟩ env with
      | some true => match pop T op env.eval H with
        | some (v, H') => runO T N all n r (upd env d v) H'
        | none => some (⟨d, op, ty, pos, aft, gg⟩ :: r, env, H)
      | some false => runO T N all n r (upd env d undefP) H
      | none => some (⟨d, op, ty, pos, aft, gg⟩ :: r, env, H)
    else none
def runD (T : Tab) (N : Nat) (all : Array Oper) (K : List Nat) : Nat → List Oper → Env → PH → Option (List Oper × Env × PH)
  | 0, l, env, H => some (l, env, H)
  | _ + 1, [], env, H => some ([], env, H)
  | n + 1, ⟨d, op, ty, pos, aft, gg⟩ :: r, env, H =>
    bif dstOk N d then
      match gd all ⟨d, op, ty, pos, aft, gg⟩ env with
      | some true => match popD T K op env.eval H with
        | some (v, H') => runD T N all K n r (upd env d v) H'
        | none => some (⟨d, op, ty, pos, aft, gg⟩ :: r, env, H)
      | some false => runD T N all K n r (upd env d undefP) H
      | none => some (⟨d, op, ty, pos, aft, gg⟩ :: r, env, H)
    else none
/-- Can the first one be carried out by itself? -/
def canO (T : Tab) (N : Nat) (all : Array Oper) : List Oper → Env → PH → Bool
  | [], _, _ => false
  | o :: _, env, H => bif dstOk N o.dst then (match gd all o env with | some true => (match pop T o.op env.eval H with | some _ => true | none => false) | some false => true | none => false) else false
def canD (T : Tab) (N : Nat) (all : Array Oper) (K : List Nat) : List Oper → Env → PH → Bool
  | [], _, _ => false
  | o :: _, env, H => bif dstOk N o.dst then (match gd all o env with | some true => (match popD T K o.op env.eval H with | some _ => true | none => false) | some false => true | none => false) else false

include hT
theorem runO_spec : ∀ (n : Nat) (l : List Oper) (env : Env) (H : PH) (l' : List Oper) (env' : Env) (H' : PH), runO T N all n l env H = some (l', env', H') → POps P N all Z l' env' H' → POps P N all Z l env H
  | 0, l, env, H, l', env', H', e, h => by simp only [runO, Option.some.injEq, Prod.mk.injEq] at e; obtain ⟨rfl, rfl, rfl⟩ := e; exact h
  | n + 1, [], env, H, l', env', H', e, h => by simp only [runO, Option.some.injEq, Prod.mk.injEq] at e; obtain ⟨rfl, rfl, rfl⟩ := e; exact h
  | n + 1, ⟨d, op, ty, pos, aft, gg⟩ :: r, env, H, l', env', H', e, h => by
    unfold runO at e
    cases hd : dstOk N d with
    | false => rw [hd] at e; cases e
    | true =>
      rw [hd] at e
      simp only [cond_true] at e
      split at e
      · rename_i hg
        split at e
        · rename_i v H1 hp
          refine ⟨dst_of hd, ?_⟩
          rw [hg]
          exact ⟨v, H1, pop_ok hT (o := ⟨d, op, ty, pos, aft, gg⟩) hp, runO_spec n r _ _ _ _ _ e h⟩
        · simp only [Option.some.injEq, Prod.mk.injEq] at e; obtain ⟨rfl, rfl, rfl⟩ := e; exact h
      · rename_i hg
        refine ⟨dst_of hd, ?_⟩
        rw [hg]
        exact runO_spec n r _ _ _ _ _ e h
      · simp only [Option.some.injEq, Prod.mk.injEq] at e; obtain ⟨rfl, rfl, rfl⟩ := e; exact h

theorem runD_spec : ∀ (n : Nat) (l : List Oper) (env : Env) (H : PH) (l' : List Oper) (env' : Env) (H' : PH), runD T N all K n l env H = some (l', env', H') → POpsD P N all K Z l' env' H' → POpsD P N all K Z l env H
  | 0, l, env, H, l', env', H', e, h => by simp only [runD, Option.some.injEq, Prod.mk.injEq] at e; obtain ⟨rfl, rfl, rfl⟩ := e; exact h
  | n + 1, [], env, H, l', env', H', e, h => by simp only [runD, Option.some.injEq, Prod.mk.injEq] at e; obtain ⟨rfl, rfl, rfl⟩ := e; exact h
  | n + 1, ⟨d, op, ty, pos, aft, gg⟩ :: r, env, H, l', env', H', e, h => by
    unfold runD at e
    cases hd : dstOk N d with
    | false => rw [hd] at e; cases e
    | true =>
      rw [hd] at e
      simp only [cond_true] at e
      split at e
      · rename_i hg
        split at e
        · rename_i v H1 hp
          refine ⟨dst_of hd, ?_⟩
          rw [hg]
          exact ⟨v, H1, popD_ok hT (o := ⟨d, op, ty, pos, aft, gg⟩) hp, runD_spec n r _ _ _ _ _ e h⟩
        · simp only [Option.some.injEq, Prod.mk.injEq] at e; obtain ⟨rfl, rfl, rfl⟩ := e; exact h
      · rename_i hg
        refine ⟨dst_of hd, ?_⟩
        rw [hg]
        exact runD_spec n r _ _ _ _ _ e h
      · simp only [Option.some.injEq, Prod.mk.injEq] at e; obtain ⟨rfl, rfl, rfl⟩ := e; exact h

theorem runO_ok (n : Nat) {l l' : List Oper} {env' : Env} (_hc : canO T N all l env H = true) (h : runO T N all n l env H = some (l', env', H')) (k : POps P N all Z l' env' H') : POps P N all Z l env H :=
  runO_spec hT n l env H l' env' H' h k
theorem runD_ok (n : Nat) {l l' : List Oper} {env' : Env} (_hc : canD T N all K l env H = true) (h : runD T N all K n l env H = some (l', env', H')) (k : POpsD P N all K Z l' env' H') : POpsD P N all K Z l env H :=
  runD_spec hT n l env H l' env' H' h k
omit hT

theorem PW_draw_all {id : Nat} {l : List Oper} {Q : Exit → Env → PH → Prop} (hm : P.follows .mixedOrders = true) (hd : drawB P l = true) (h : POpsD P N l.toArray (List.range H.bx.length) (fun env H => Q .normal env H) l env H) :
    PW P N (.region id l.toArray true) Q env H := PW_draw _ hm hd h
end
end Go.Pure
