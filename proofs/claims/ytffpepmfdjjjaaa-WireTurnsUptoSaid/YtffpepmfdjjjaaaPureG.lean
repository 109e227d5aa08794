/- A generic layer: arithmetic, comparisons, slices and strings that are only read. -/
import Derived.Test.YtffpepmfdjjjaaaPureF
import Derived.Laws.Panics
namespace Go.Pure
open Go

/-- Whole numbers of one kind. -/
def intOp (op : BinOp) (k : IntKind) (a b : Int) : Option GV :=
  match op with
  | .add => some (.int k (k.wrap (a + b)))
  | .sub => some (.int k (k.wrap (a - b)))
  | .mul => some (.int k (k.wrap (a * b)))
  | .eql => some (.bool (a == b))
  | .neq => some (.bool (a != b))
  | .lss => some (.bool (decide (a < b)))
  | .leq => some (.bool (decide (a ≤ b)))
  | .gtr => some (.bool (decide (a > b)))
  | .geq => some (.bool (decide (a ≥ b)))
  | .and => some (.int k (k.wrap (BitVec.ofInt k.bits a &&& BitVec.ofInt k.bits b).toNat))
  | .or => some (.int k (k.wrap (BitVec.ofInt k.bits a ||| BitVec.ofInt k.bits b).toNat))
  | .xor => some (.int k (k.wrap (BitVec.ofInt k.bits a ^^^ BitVec.ofInt k.bits b).toNat))
  | .andNot => some (.int k (k.wrap (BitVec.ofInt k.bits a &&& ~~~ (BitVec.ofInt k.bits b)).toNat))
  | _ => none

def GV.val : GV → Value
  | .int k n => .int k n
  | .bool b => .bool b
  | .str s => .string s
  | _ => undef

def strOp (op : BinOp) (a b : ByteArray) : Option GV :=
  match op with
  | .eql => some (.bool (a.toList == b.toList))
  | .neq => some (.bool (!(a.toList == b.toList)))
  | .lss => some (.bool (Op.bytesLess a.toList b.toList))
  | .leq => some (.bool (Op.bytesLess a.toList b.toList || a.toList == b.toList))
  | .gtr => some (.bool (!(Op.bytesLess a.toList b.toList || a.toList == b.toList)))
  | .geq => some (.bool (!(Op.bytesLess a.toList b.toList)))
  | _ => none

section
variable {P : Program} {o : Oper} {ρ : Operand → PV} {H : PH}

theorem mem_two {α : Type} {x y : α} : x ∈ (#[x, y] : Array α).toList ∧ y ∈ (#[x, y] : Array α).toList := by simp

theorem PO_int {op : BinOp} {t u : TypeId} {x y : Operand} {k : IntKind} {a b : Int} {g : GV} (ho : o.op = .binOp op t x y u) (ha : ρ x = .g (.int k a)) (hb : ρ y = .g (.int k b)) (hg : intOp op k a b = some g) : PO P o ρ H (.g g) H :=
  PO_val fun c ρr hr hx => by
    have h1 := hx x (by simp [ho, Op.operands])
    have h2 := hx y (by simp [ho, Op.operands])
    rw [ha] at h1; rw [hb] at h2
    have e1 := RV_int h1; have e2 := RV_int h2
    refine ⟨g.val, ?_, ?_⟩
    · simp only [execOp, ho, e1, e2]
      cases op <;> simp only [intOp] at hg <;> first | (cases hg; simp [eqGuard, binOp, Op.intArith, Op.intBits, Op.intCmp, GV.val]; done) | (cases hg; simp only [eqGuard, binOp, Op.intBits, ne_eq, not_true, if_false]; rfl) | (cases hg; done)
    · cases op <;> simp only [intOp] at hg <;> cases hg <;> exact .g _ _ (by constructor)

theorem PO_quo {t u : TypeId} {x y : Operand} {k : IntKind} {a b : Int} (ho : o.op = .binOp .quo t x y u) (ha : ρ x = .g (.int k a)) (hb : ρ y = .g (.int k b)) (h0 : b ≠ 0) : PO P o ρ H (.g (.int k (k.wrap (a.tdiv b)))) H :=
  PO_val fun c ρr hr hx => by
    have h1 := hx x (by simp [ho, Op.operands])
    have h2 := hx y (by simp [ho, Op.operands])
    rw [ha] at h1; rw [hb] at h2
    have e1 := RV_int h1; have e2 := RV_int h2
    exact ⟨_, by simp only [execOp, ho, e1, e2]; simp [eqGuard, binOp, Op.intDiv, h0], .g _ _ (.int _ _)⟩

theorem PO_rem {t u : TypeId} {x y : Operand} {k : IntKind} {a b : Int} (ho : o.op = .binOp .rem t x y u) (ha : ρ x = .g (.int k a)) (hb : ρ y = .g (.int k b)) (h0 : b ≠ 0) : PO P o ρ H (.g (.int k (a.tmod b))) H :=
  PO_val fun c ρr hr hx => by
    have h1 := hx x (by simp [ho, Op.operands])
    have h2 := hx y (by simp [ho, Op.operands])
    rw [ha] at h1; rw [hb] at h2
    have e1 := RV_int h1; have e2 := RV_int h2
    exact ⟨_, by simp only [execOp, ho, e1, e2]; simp [eqGuard, binOp, Op.intDiv, h0], .g _ _ (.int _ _)⟩

theorem PO_shl {t u : TypeId} {x y : Operand} {k k' : IntKind} {a b : Int} (ho : o.op = .binOp .shl t x y u) (ha : ρ x = .g (.int k a)) (hb : ρ y = .g (.int k' b)) (h0 : 0 ≤ b) : PO P o ρ H (.g (.int k (k.wrap (a * 2 ^ min b.toNat k.bits)))) H :=
  PO_val fun c ρr hr hx => by
    have h1 := hx x (by simp [ho, Op.operands])
    have h2 := hx y (by simp [ho, Op.operands])
    rw [ha] at h1; rw [hb] at h2
    have e1 := RV_int h1; have e2 := RV_int h2
    have h0' : ¬ b < 0 := by omega
    exact ⟨_, by simp only [execOp, ho, e1, e2]; simp [eqGuard, binOp, Op.shift, h0'], .g _ _ (.int _ _)⟩

theorem PO_shr {t u : TypeId} {x y : Operand} {k k' : IntKind} {a b : Int} (ho : o.op = .binOp .shr t x y u) (ha : ρ x = .g (.int k a)) (hb : ρ y = .g (.int k' b)) (h0 : 0 ≤ b) : PO P o ρ H (.g (.int k (a.fdiv (2 ^ min b.toNat k.bits)))) H :=
  PO_val fun c ρr hr hx => by
    have h1 := hx x (by simp [ho, Op.operands])
    have h2 := hx y (by simp [ho, Op.operands])
    rw [ha] at h1; rw [hb] at h2
    have e1 := RV_int h1; have e2 := RV_int h2
    have h0' : ¬ b < 0 := by omega
    exact ⟨_, by simp only [execOp, ho, e1, e2]; simp [eqGuard, binOp, Op.shift, h0'], .g _ _ (.int _ _)⟩

theorem PO_str {op : BinOp} {t u : TypeId} {x y : Operand} {a b : ByteArray} {g : GV} (ho : o.op = .binOp op t x y u) (ha : ρ x = .g (.str a)) (hb : ρ y = .g (.str b)) (hg : strOp op a b = some g) : PO P o ρ H (.g g) H :=
  PO_val fun c ρr hr hx => by
    have h1 := hx x (by simp [ho, Op.operands])
    have h2 := hx y (by simp [ho, Op.operands])
    rw [ha] at h1; rw [hb] at h2
    have e1 := RV_str h1; have e2 := RV_str h2
    refine ⟨g.val, ?_, ?_⟩
    · simp only [execOp, ho, e1, e2]
      cases op <;> simp only [strOp] at hg <;> first | (cases hg; simp [eqGuard, binOp, Op.stringOp, GV.val]; done) | (cases hg; done)
    · cases op <;> simp only [strOp] at hg <;> cases hg <;> exact .g _ _ (by constructor)

theorem PO_concat {t u : TypeId} {x y : Operand} {a b : ByteArray} (ho : o.op = .binOp .add t x y u) (ha : ρ x = .g (.str a)) (hb : ρ y = .g (.str b)) (hs : a.size + b.size ≤ 9223372036854775807) : PO P o ρ H (.g (.str (a ++ b))) H :=
  PO_val fun c ρr hr hx => by
    have h1 := hx x (by simp [ho, Op.operands])
    have h2 := hx y (by simp [ho, Op.operands])
    rw [ha] at h1; rw [hb] at h2
    have e1 := RV_str h1; have e2 := RV_str h2
    have h0' : ¬ ((a.size + b.size : Nat) : Int) > IntKind.i64.max := by
      have : IntKind.i64.max = 9223372036854775807 := by decide
      omega
    exact ⟨_, by simp only [execOp, ho, e1, e2]; simp only [eqGuard, binOp, Op.stringOp]; simp <;> omega, .g _ _ (.str _)⟩

theorem run_equal_bool {t : TypeId} (ht : P.underlying t = some .bool) (a b : Bool) (w : World) : (Op.equal t (.bool a) (.bool b)).run P w = .ok (a == b) w := by
  have h : ∀ d, (Op.equalIn (d + 1) t (.bool a) (.bool b)).run P w = .ok (a == b) w := fun d => by simp [Op.equalIn, run_underlying ht]
  exact h 9999

theorem PO_eqb {t u : TypeId} {x y : Operand} {a b : Bool} (ho : o.op = .binOp .eql t x y u) (ht : P.underlying t = some .bool) (ha : ρ x = .g (.bool a)) (hb : ρ y = .g (.bool b)) : PO P o ρ H (.g (.bool (a == b))) H :=
  PO_val fun c ρr hr hx => by
    have h1 := hx x (by simp [ho, Op.operands])
    have h2 := hx y (by simp [ho, Op.operands])
    rw [ha] at h1; rw [hb] at h2
    have e1 := RV_bool h1; have e2 := RV_bool h2
    exact ⟨.bool (a == b), by simp only [execOp, ho, e1, e2]; simp [eqGuard, binOp, run_equal_bool ht], .g _ _ (.bool _)⟩

theorem PO_neb {t u : TypeId} {x y : Operand} {a b : Bool} (ho : o.op = .binOp .neq t x y u) (ht : P.underlying t = some .bool) (ha : ρ x = .g (.bool a)) (hb : ρ y = .g (.bool b)) : PO P o ρ H (.g (.bool (a != b))) H :=
  PO_val fun c ρr hr hx => by
    have h1 := hx x (by simp [ho, Op.operands])
    have h2 := hx y (by simp [ho, Op.operands])
    rw [ha] at h1; rw [hb] at h2
    have e1 := RV_bool h1; have e2 := RV_bool h2
    exact ⟨.bool (a != b), by simp only [execOp, ho, e1, e2]; simp [eqGuard, binOp, run_equal_bool ht, bne], .g _ _ (.bool _)⟩

theorem PO_not {t : TypeId} {x : Operand} {b : Bool} (ho : o.op = .unOp .not t x) (ha : ρ x = .g (.bool b)) : PO P o ρ H (.g (.bool (!b))) H :=
  PO_val fun c ρr hr hx => by
    have h1 := hx x (by simp [ho, Op.operands])
    rw [ha] at h1
    exact ⟨.bool (!b), by simp [execOp, ho, RV_bool h1, Op.unary], .g _ _ (.bool _)⟩

theorem PO_neg {t : TypeId} {x : Operand} {k : IntKind} {n : Int} (ho : o.op = .unOp .neg t x) (ha : ρ x = .g (.int k n)) : PO P o ρ H (.g (.int k (k.wrap (0 - n)))) H :=
  PO_val fun c ρr hr hx => by
    have h1 := hx x (by simp [ho, Op.operands])
    rw [ha] at h1
    exact ⟨_, by simp [execOp, ho, RV_int h1, Op.unary, Op.intArith], .g _ _ (.int _ _)⟩

theorem PO_compl {t : TypeId} {x : Operand} {k : IntKind} {n : Int} (ho : o.op = .unOp .xor t x) (ha : ρ x = .g (.int k n)) :
    PO P o ρ H (.g (.int k (k.wrap (BitVec.ofInt k.bits (if k.signed then -1 else k.max) ^^^ BitVec.ofInt k.bits n).toNat))) H :=
  PO_val fun c ρr hr hx => by
    have h1 := hx x (by simp [ho, Op.operands])
    rw [ha] at h1
    exact ⟨_, by simp [execOp, ho, RV_int h1, Op.unary, Op.intBits], .g _ _ (.int _ _)⟩

/-! ### Slices that are read -/
/-- A slice's elements, however it is known. -/
def elems : PV → Option (List GV)
  | .g (.sl es) => some es
  | .own es _ => some es
  | .nils => some []
  | _ => none

theorem elems_ok {c : Ctx} {p : PV} {v : Value} (h : RV c p v) {es : List GV} (he : elems p = some es) : RG c.w c.stab (.sl es) v := by
  unfold elems at he
  split at he
  · cases he; cases h; assumption
  · cases he; cases h; assumption
  · cases he; cases h; exact .nil
  · cases he

theorem RG_len {w : World} {S : Nat → Nat → Prop} {es : List GV} {v : Value} (h : RG w S (.sl es) v) : ∃ a cap, v = .slice a es.length cap ∧ es.length ≤ cap ∧ cap ≤ maxLen ∧ (a = none → es = [] ∧ cap = 0) := by
  cases h with
  | nil => exact ⟨none, 0, rfl, Nat.le_refl _, by unfold maxLen; omega, fun _ => ⟨rfl, rfl⟩⟩
  | sl _ a cap size f ha hc hm hs hf hh => exact ⟨some a, cap, rfl, hc, hm, by simp⟩

theorem PO_len {x : Operand} {t : TypeId} {e : TypeId} {es : List GV} (ho : o.op = .call { callee := .builtin .len, args := #[x], argTypes := #[t] }) (ht : P.underlying t = some (.slice e)) (he : elems (ρ x) = some es) : PO P o ρ H (.g (.int .i64 es.length)) H :=
  PO_val fun c ρr hr hx => by
    obtain ⟨a, cap, hv, _⟩ := RG_len (elems_ok (hx x (by simp [ho, Op.operands, Call.operands])) he)
    exact ⟨.int .i64 es.length, by simp [execOp, ho, resolve, invoke, builtin, Builtin.len_, hv, run_underlying ht, goInt], .g _ _ (.int _ _)⟩

theorem PO_lens {x : Operand} {t : TypeId} {s : ByteArray} (ho : o.op = .call { callee := .builtin .len, args := #[x], argTypes := #[t] }) (ht : P.underlying t = some .string) (he : ρ x = .g (.str s)) : PO P o ρ H (.g (.int .i64 s.size)) H :=
  PO_val fun c ρr hr hx => by
    have h1 := hx x (by simp [ho, Op.operands, Call.operands])
    rw [he] at h1
    exact ⟨.int .i64 s.size, by simp [execOp, ho, resolve, invoke, builtin, Builtin.len_, RV_str h1, run_underlying ht, goInt], .g _ _ (.int _ _)⟩

theorem PO_indexAddr {x y : Operand} {t e : TypeId} {es : List GV} {k : IntKind} {i : Int} {n : Nat} {g : GV} (ho : o.op = .indexAddr t x y) (ht : P.underlying t = some (.slice e)) (hn : szB P e = some n) (he : elems (ρ x) = some es) (hi : ρ y = .g (.int k i))
    (h0 : 0 ≤ i) (hg : es[i.toNat]? = some g) (hc : g.cells.length = n) : PO P o ρ H (.pat g.cells) H :=
  PO_val fun c ρr hr hx => by
    have h1 := elems_ok (hx x (by simp [ho, Op.operands])) he
    have h2 := hx y (by simp [ho, Op.operands])
    rw [hi] at h2
    have e2 := RV_int h2
    have hlt := (List.getElem?_eq_some_iff.1 hg).1
    generalize hv : ρr x = v at h1
    cases h1 with
    | nil => simp at hg
    | sl _ a cap size f ha hcc hm hs hf hh =>
      have hsz : size = n := by rw [← hs i.toNat g hg, hc]
      subst hsz
      have hidx : 0 ≤ i ∧ i < (es.length : Int) := ⟨h0, by omega⟩
      have ha := ha (by rintro rfl; simp at hg)
      refine ⟨.pointer (some (a.add (i.toNat * size))), ?_, .pat _ _ (fun j => f (i.toNat * size + j)) (add_spot a _ ha) ?_ (fun j g' hg' => hh i.toNat g j g' hg hg')⟩
      · simp only [execOp, ho, hv, e2]
        simp [Instr.indexAt, asIntOf, run_underlying ht, hidx, run_sizeOf hn]
      · intro j hj
        rw [hc] at hj
        have hle : i.toNat * size + j < es.length * size := by
          calc i.toNat * size + j < i.toNat * size + size := by omega
            _ = (i.toNat + 1) * size := by rw [Nat.add_mul, Nat.one_mul]
            _ ≤ es.length * size := Nat.mul_le_mul_right _ hlt
        have h3 := hf _ hle
        rw [add_eq a _ ha] at h3
        rw [add_eq _ _ (add_spot a _ ha), add_block, add_off, Nat.add_assoc]
        exact h3

theorem PO_index {x y : Operand} {t : TypeId} {s : ByteArray} {k : IntKind} {i : Int} {b : UInt8} (ho : o.op = .index t x y) (ht : P.underlying t = some .string) (he : ρ x = .g (.str s)) (hi : ρ y = .g (.int k i))
    (h0 : 0 ≤ i) (hg : s[i.toNat]? = some b) : PO P o ρ H (.g (.int .u8 b.toNat)) H :=
  PO_val fun c ρr hr hx => by
    have h1 := hx x (by simp [ho, Op.operands])
    have h2 := hx y (by simp [ho, Op.operands])
    rw [he] at h1; rw [hi] at h2
    refine ⟨.int .u8 b.toNat, ?_, .g _ _ (.int _ _)⟩
    simp only [execOp, ho, RV_str h1, RV_int h2]
    simp [Instr.index, asIntOf, run_underlying ht, h0, hg]

theorem PO_extract {x : Operand} {i : Nat} {ps : List PV} {p : PV} (ho : o.op = .extract x i) (hx' : ρ x = .tuple ps) (hp : ps[i]? = some p) : PO P o ρ H p H :=
  PO_val fun c ρr hr hx => by
    have h1 := hx x (by simp [ho, Op.operands])
    rw [hx'] at h1
    generalize hv : ρr x = v at h1
    cases h1 with
    | tuple _ vs hl hh =>
      have hlt := (List.getElem?_eq_some_iff.1 hp).1
      have hlt' : i < vs.size := by omega
      refine ⟨vs[i], by simp [execOp, ho, hv, Instr.extract, hlt'], hh i p _ hp (by simp [hlt'])⟩

theorem PO_field {s : TypeId} {x : Operand} {k d : Nat} {ft : TypeId} {cs : List PV} {p : PV} (ho : o.op = .field s x k) (hf : fieldB P s k = some (d, ft)) (h1 : aggB P ft = some false) (hc : pvCells (ρ x) = some cs) (ha : ∃ u, ρ x = .g (.agg u) ∨ ∃ u, ρ x = .agg u) (hp : cs[d]? = some p) : PO P o ρ H p H :=
  PO_val fun c ρr hr hx => by
    have hx1 := hx x (by simp [ho, Op.operands])
    obtain ⟨e1, e2⟩ := pvCells_ok hx1 hc
    have hagg : ∃ vs, ρr x = .agg vs := by
      obtain ⟨u, h | ⟨u, h⟩⟩ := ha <;> rw [h] at hx1
      · generalize ρr x = v at hx1; cases hx1 with | g _ _ hg => cases hg; exact ⟨_, rfl⟩
      · generalize ρr x = v at hx1; cases hx1; exact ⟨_, rfl⟩
    obtain ⟨vs, hvs⟩ := hagg
    rw [hvs] at e1 e2
    simp only [Value.cells] at e1 e2
    have hlt : d < vs.size := by rw [← e1]; exact (List.getElem?_eq_some_iff.1 hp).1
    refine ⟨vs[d], ?_, (e2 d p _ hp (by simp [hlt])).1⟩
    unfold fieldB at hf
    split at hf
    · rename_i fs hu
      split at hf
      · rename_i f hff
        split at hf
        · simp only [Option.some.injEq, Prod.mk.injEq] at hf
          obtain ⟨rfl, rfl⟩ := hf
          simp [execOp, ho, hvs, Instr.field, run_underlying hu, hff, asAgg, part, run_isAgg h1, hlt]
        · cases hf
      · cases hf
    · cases hf
end
end Go.Pure
