/- A generic layer: values without memory, and code over them. -/
import Derived.Test.YtlcgcihghmeeoaaGreatFmtPureB
import Derived.Laws.MakeOwn
/- A generic layer: slices that are made empty, with room for so many. -/
namespace Go.Pure
open Go

section
variable {P : Program} {o : Oper} {ρ : Operand → PV} {H : PH}

end
end Go.Pure


/- A generic layer: nothing appended to a slice written out. -/
namespace Go.Pure
open Go

section
variable {P : Program} {o : Oper} {ρ : Operand → PV} {H : PH}
end
end Go.Pure


/- A generic layer: maps: made, filled, looked up in. -/
namespace Go.Pure
open Go

section
variable {P : Program} {o : Oper} {ρ : Operand → PV} {H : PH}

end

section
variable {P : Program} {K : List Nat} {o : Oper} {env : Env} {H : PH}
end
end Go.Pure


/- The program's plain types as values without memory: values, expressions, tests, columns, rules, tables, commands, trees; what comes in reads as one. -/
namespace Go.Pure
open Go

mutual
/-- How much a ground value holds. -/
def gbulk : GV → Nat
  | .str s => s.size + 1
  | .agg cs => gbulks cs
  | .sl es => gbulks es + 1
  | _ => 1
def gbulks : List GV → Nat
  | [] => 0
  | g :: r => gbulk g + gbulks r
end
/-- A value. -/
inductive VVal where
  | mk (kind : Int) (yes : Bool) (coef exp : Int) (text : ByteArray) (list : List VVal)
mutual
def VVal.g : VVal → GV
  | .mk kind yes coef exp text list => .agg [.int .i64 kind, .bool yes, .int .i64 coef, .int .i64 exp, .str text, .sl (VVal.gs list)]
def VVal.gs : List VVal → List GV
  | [] => []
  | v :: r => v.g :: VVal.gs r
end
/-- An expression. -/
inductive VExpr where
  | mk (kind : Int) (val : VVal) (name : ByteArray) (kids : List VExpr)
mutual
def VExpr.g : VExpr → GV
  | .mk kind val name kids => .agg (.int .i64 kind :: (val.g.cells ++ [.str name, .sl (VExpr.gs kids)]))
def VExpr.gs : List VExpr → List GV
  | [] => []
  | v :: r => v.g :: VExpr.gs r
end
/-- A test. -/
inductive VTest where
  | mk (kind : Int) (a b : VVal) (openA openB : Bool) (kids : List VTest)
mutual
def VTest.g : VTest → GV
  | .mk kind a b openA openB kids => .agg (.int .i64 kind :: (a.g.cells ++ (b.g.cells ++ [.bool openA, .bool openB, .sl (VTest.gs kids)])))
def VTest.gs : List VTest → List GV
  | [] => []
  | v :: r => v.g :: VTest.gs r
end
/-- A column. -/
inductive VCol where
  | mk (name : ByteArray) (kind : Int) (order : List VVal)
def VCol.g : VCol → GV
  | .mk name kind order => .agg [.str name, .int .i64 kind, .sl (VVal.gs order)]
def VCol.gs (l : List VCol) : List GV := l.map VCol.g
/-- A rule. -/
inductive VRule where
  | mk (tests : List VTest) (outs : List VExpr)
def VRule.g : VRule → GV
  | .mk tests outs => .agg [.sl (VTest.gs tests), .sl (VExpr.gs outs)]
def VRule.gs (l : List VRule) : List GV := l.map VRule.g
/-- A table. -/
inductive VTable where
  | mk (name : ByteArray) (policy : Int) (ins outs : List VCol) (rules : List VRule)
def VTable.g : VTable → GV
  | .mk name policy ins outs rules => .agg [.str name, .int .i64 policy, .sl (VCol.gs ins), .sl (VCol.gs outs), .sl (VRule.gs rules)]
/-- A command. -/
inductive VCmd where
  | mk (session seq kind : Int) (table : VTable) (name : ByteArray) (to : Int)
def VCmd.g : VCmd → GV
  | .mk session seq kind table name to => .agg ([.int .i64 session, .int .i64 seq, .int .i64 kind] ++ table.g.cells ++ [.str name, .int .i64 to])
def VCmd.gs (l : List VCmd) : List GV := l.map VCmd.g

theorem VVal.gs_eq : ∀ l, VVal.gs l = l.map VVal.g
  | [] => rfl
  | v :: r => by simp [VVal.gs, VVal.gs_eq r]
theorem VExpr.gs_eq : ∀ l, VExpr.gs l = l.map VExpr.g
  | [] => rfl
  | v :: r => by simp [VExpr.gs, VExpr.gs_eq r]
theorem VTest.gs_eq : ∀ l, VTest.gs l = l.map VTest.g
  | [] => rfl
  | v :: r => by simp [VTest.gs, VTest.gs_eq r]
theorem VVal.cells (v : VVal) : v.g.cells.length = 6 := by cases v; rfl
theorem VExpr.cells (v : VExpr) : v.g.cells.length = 9 := by
  obtain ⟨k, v, n, l⟩ := v; simp [VExpr.g, GV.cells]; have := VVal.cells v; simp [GV.cells] at this; omega
theorem VTest.cells (v : VTest) : v.g.cells.length = 16 := by
  obtain ⟨k, a, b, _, _, l⟩ := v; simp [VTest.g, GV.cells]; have := VVal.cells a; have := VVal.cells b; simp [GV.cells] at *; omega
theorem VCol.cells (v : VCol) : v.g.cells.length = 3 := by cases v; rfl
theorem VRule.cells (v : VRule) : v.g.cells.length = 2 := by cases v; rfl
theorem VTable.cells (v : VTable) : v.g.cells.length = 5 := by cases v; rfl
theorem VCmd.cells (v : VCmd) : v.g.cells.length = 10 := by obtain ⟨_, _, _, ⟨_, _, _, _, _⟩, _, _⟩ := v; rfl

theorem VVal.one (v : VVal) : 1 ≤ gbulk v.g := by cases v; simp [VVal.g, gbulk, gbulks] <;> try omega
theorem VExpr.one (v : VExpr) : 1 ≤ gbulk v.g := by cases v; simp [VExpr.g, gbulk, gbulks] <;> try omega
theorem VTest.one (v : VTest) : 1 ≤ gbulk v.g := by cases v; simp [VTest.g, gbulk, gbulks] <;> try omega
theorem VCol.one (v : VCol) : 1 ≤ gbulk v.g := by cases v; simp [VCol.g, gbulk, gbulks] <;> try omega
theorem VRule.one (v : VRule) : 1 ≤ gbulk v.g := by cases v; simp [VRule.g, gbulk, gbulks] <;> try omega
theorem VTable.one (v : VTable) : 1 ≤ gbulk v.g := by cases v; simp [VTable.g, gbulk, gbulks] <;> try omega
theorem VCmd.one (v : VCmd) : 1 ≤ gbulk v.g := by cases v; simp [VCmd.g, gbulk, gbulks] <;> try omega
theorem map_get {α : Type} {f : α → GV} {l : List α} {i : Nat} (h : i < l.length) : (l.map f)[((i : Int)).toNat]? = some (f l[i]) := by simp [h]
theorem map_take {α β : Type} {f : α → β} {l : List α} {i : Nat} (h : i < l.length) : (l.take (i + 1)).map f = (l.take i).map f ++ [f l[i]] := by
  rw [List.take_succ_eq_append_getElem h, List.map_append]; rfl

/-! ### What comes in -/
def GTs (P : Program) : List TypeId → List GV → Prop
  | [], [] => True
  | t :: ts, x :: xs => GT P t x ∧ GTs P ts xs
  | _, _ => False
theorem gts_of {P : Program} : ∀ (ts : List TypeId) (xs : List GV), xs.length = ts.length → (∀ (i : Nat) (t : TypeId) (x : GV), ts[i]? = some t → xs[i]? = some x → GT P t x) → GTs P ts xs
  | [], [], _, _ => trivial
  | [], _ :: _, h, _ => by simp at h
  | _ :: _, [], h, _ => by simp at h
  | t :: ts, x :: xs, hl, h => ⟨h 0 t x rfl rfl, gts_of ts xs (by simpa using hl) fun i t x ht hx => h (i + 1) t x (by simpa using ht) (by simpa using hx)⟩
def StructT (P : Program) (t : TypeId) (ts : List TypeId) : Prop := ∃ fs, P.underlying t = some (.struct fs) ∧ fs.toList.map (·.type) = ts
theorem StructT.inv {P : Program} {t : TypeId} {ts : List TypeId} {g : GV} (hu : StructT P t ts) (h : GT P t g) : ∃ xs : List GV, g = .agg (xs.flatMap GV.cells) ∧ GTs P ts xs := by
  obtain ⟨fs, hu, rfl⟩ := hu
  obtain ⟨xs, rfl, hl, hx⟩ := GT.agg_inv hu h
  refine ⟨xs, rfl, gts_of _ _ (by simpa using hl) fun i t x ht hx' => ?_⟩
  simp only [List.getElem?_map, Array.getElem?_toList, Option.map_eq_some_iff] at ht
  obtain ⟨f, hf, rfl⟩ := ht
  exact hx i f x hf hx'
theorem GTs.one {P : Program} {t : TypeId} {ts : List TypeId} {xs : List GV} (h : GTs P (t :: ts) xs) : ∃ x r, xs = x :: r ∧ GT P t x ∧ GTs P ts r := by
  cases xs with
  | nil => exact h.elim
  | cons x r => exact ⟨x, r, rfl, h.1, h.2⟩
theorem GTs.nil {P : Program} {xs : List GV} (h : GTs P [] xs) : xs = [] := by
  cases xs with
  | nil => rfl
  | cons x r => exact h.elim

theorem sizeOf_le_flat : ∀ (xs : List GV) (x : GV), x ∈ xs → SizeOf.sizeOf x ≤ SizeOf.sizeOf (GV.agg (xs.flatMap GV.cells))
  | y :: xs, x, h => by
    rcases List.mem_cons.1 h with rfl | h
    · have key : ∀ a b : List GV, SizeOf.sizeOf a ≤ SizeOf.sizeOf (a ++ b) := by
        intro a b
        induction a with
        | nil => cases b <;> simp <;> try omega
        | cons z a ih => simp; exact ih
      have := key x.cells (xs.flatMap GV.cells)
      simp only [List.flatMap_cons, GV.agg.sizeOf_spec]
      cases x <;> simp [GV.cells] at * <;> omega
    · have := sizeOf_le_flat xs x h
      have key : ∀ a b : List GV, SizeOf.sizeOf b ≤ SizeOf.sizeOf (a ++ b) := by
        intro a b
        induction a with
        | nil => simp
        | cons z a ih => simp; omega
      have := key y.cells (xs.flatMap GV.cells)
      simp only [List.flatMap_cons, GV.agg.sizeOf_spec] at *
      omega

/-- A list that comes in: each of its elements reads as something. -/
theorem list_inv {P : Program} {e : TypeId} {α : Type} (f : α → GV) : ∀ (es : List GV), (∀ x ∈ es, GT P e x) → (∀ x ∈ es, GT P e x → ∃ a, x = f a) → ∃ l : List α, es = l.map f
  | [], _, _ => ⟨[], rfl⟩
  | x :: es, h, k => by
    obtain ⟨l, rfl⟩ := list_inv f es (fun y hy => h y (List.mem_cons_of_mem _ hy)) fun y hy => k y (List.mem_cons_of_mem _ hy)
    obtain ⟨a, rfl⟩ := k x (by simp) (h x (by simp))
    exact ⟨a :: l, rfl⟩
theorem size_mem {es : List GV} {x : GV} (h : x ∈ es) : SizeOf.sizeOf x < SizeOf.sizeOf (GV.sl es) := by
  have := List.sizeOf_lt_of_mem h
  simp
  omega

section
variable {P : Program} {ti tj tb ts TV TD LV TE LE TT LT TC LC TR LR TB TM : TypeId}
theorem val_inv (hi : P.underlying ti = some (.int .i64)) (hj : P.underlying tj = some (.int .i64)) (hb : P.underlying tb = some .bool) (hs : P.underlying ts = some .string)
    (hV : StructT P TV [ti, tb, TD, ts, LV]) (hD : StructT P TD [tj, ti]) (hL : P.underlying LV = some (.slice TV)) : ∀ (m : Nat) (g : GV), SizeOf.sizeOf g ≤ m → GT P TV g → ∃ v : VVal, g = v.g
  | 0, g, hm, _ => by cases g <;> simp at hm
  | m + 1, g, hm, h => by
    obtain ⟨xs, rfl, hx⟩ := hV.inv h
    obtain ⟨a, xs, rfl, ha, hx⟩ := hx.one
    obtain ⟨b, xs, rfl, hb', hx⟩ := hx.one
    obtain ⟨c, xs, rfl, hc, hx⟩ := hx.one
    obtain ⟨d, xs, rfl, hd, hx⟩ := hx.one
    obtain ⟨e, xs, rfl, he, hx⟩ := hx.one
    obtain rfl := hx.nil
    have hsz := sizeOf_le_flat [a, b, c, d, e] e (by simp)
    obtain ⟨kind, rfl, _⟩ := GT.int_inv hi ha
    obtain ⟨yes, rfl⟩ := GT.bool_inv hb hb'
    obtain ⟨ys, rfl, hy⟩ := hD.inv hc
    obtain ⟨a, ys, rfl, ha, hy⟩ := hy.one
    obtain ⟨b, ys, rfl, hb', hy⟩ := hy.one
    obtain rfl := hy.nil
    obtain ⟨coef, rfl, _⟩ := GT.int_inv hj ha
    obtain ⟨exp, rfl, _⟩ := GT.int_inv hi hb'
    obtain ⟨text, rfl, _⟩ := GT.str_inv hs hd
    obtain ⟨es, rfl, _, hl⟩ := GT.sl_inv hL he
    obtain ⟨l, rfl⟩ := list_inv VVal.g es hl fun x hx hg => val_inv hi hj hb hs hV hD hL m x (by have := size_mem hx; omega) hg
    exact ⟨.mk kind yes coef exp text l, by simp [VVal.g, VVal.gs_eq, GV.cells]⟩
end
end Go.Pure


/- Numbers that come in are numbers of their kinds. -/
namespace Go.Pure
open Go

end Go.Pure


/- The program's types (of values) as values without memory; which of them are right, and how such a one is told by a number and a letter. -/
namespace Go.Pure
open Go

/-- A type. -/
inductive VTy where
  | mk (kind : Int) (elem : List VTy)
mutual
def VTy.g : VTy → GV
  | .mk kind elem => .agg [.int .i64 kind, .sl (VTy.gs elem)]
def VTy.gs : List VTy → List GV
  | [] => []
  | v :: r => v.g :: VTy.gs r
end
theorem VTy.gs_eq : ∀ l, VTy.gs l = l.map VTy.g
  | [] => rfl
  | v :: r => by simp [VTy.gs, VTy.gs_eq r]
theorem VTy.cells (v : VTy) : v.g.cells.length = 2 := by cases v; rfl

/-- A right type: so many lists, and what is in them. -/
def tyL : Nat → Int → VTy
  | 0, b => .mk b []
  | n + 1, b => .mk 5 [tyL n b]
/-- What is wrong with a type, when it is so deep already. -/
def wrongT : Nat → VTy → Int
  | n, .mk k es => if 10 < n then 4 else if k < 1 ∨ 6 < k then 1 else if k = 5 then (match es with | [e] => wrongT (n + 1) e | _ => 5) else (if es = [] then 0 else 5)
theorem wrongT_eq (n : Nat) (k : Int) (es : List VTy) : wrongT n (.mk k es) = if 10 < n then 4 else if k < 1 ∨ 6 < k then 1 else if k = 5 then (match es with | [e] => wrongT (n + 1) e | _ => 5) else (if es = [] then 0 else 5) := wrongT.eq_def n (.mk k es)
def baseK (b : Int) : Prop := b = 1 ∨ b = 2 ∨ b = 3 ∨ b = 4 ∨ b = 6
theorem wrongT_ok : ∀ (t : VTy) (n : Nat), wrongT n t = 0 → ∃ m b, n + m ≤ 10 ∧ baseK b ∧ t = tyL m b := by
  intro t
  induction t using VTy.rec (motive_2 := fun l => ∀ e ∈ l, ∀ n, wrongT n e = 0 → ∃ m b, n + m ≤ 10 ∧ baseK b ∧ e = tyL m b) with
  | mk k es ih =>
    intro n h
    rw [wrongT.eq_def] at h
    simp only at h
    split at h
    · cases h
    · rename_i h1
      split at h
      · cases h
      · rename_i h2
        split at h
        · rename_i h3
          subst h3
          split at h
          · rename_i e
            obtain ⟨m, b, h4, h5, h6⟩ := ih e (by simp) (n + 1) h
            exact ⟨m + 1, b, by omega, h5, by rw [h6]; rfl⟩
          · cases h
        · split at h
          · rename_i h4
            subst h4
            exact ⟨0, k, by omega, by unfold baseK; omega, rfl⟩
          · cases h
  | nil => rename_i e hm n h; cases hm
  | cons e l h1 h2 =>
    rename_i x hx n h
    rcases List.mem_cons.1 hx with rfl | hx
    · exact h1 n h
    · exact h2 x hx n h

/-! ### Fitting, joining: of so many lists of something -/
def fitsT : Nat → Int → Nat → Int → Bool
  | m, b, n, c => if (m = 0 ∧ b = 1) ∨ (n = 0 ∧ c = 6) then true else match m, n with
    | 0, 0 => decide (b = c)
    | m + 1, n + 1 => fitsT m b n c
    | _, _ => false
theorem fitsT_eq (m : Nat) (b : Int) (n : Nat) (c : Int) : fitsT m b n c = if (m = 0 ∧ b = 1) ∨ (n = 0 ∧ c = 6) then true else match m, n with
    | 0, 0 => decide (b = c)
    | m + 1, n + 1 => fitsT m b n c
    | _, _ => false := fitsT.eq_def m b n c
def joinT : Nat → Int → Nat → Int → Nat × Int
  | m, b, n, c => if fitsT m b n c = true then (n, c) else if fitsT n c m b = true then (m, b) else match m, n with
    | m + 1, n + 1 => ((joinT m b n c).1 + 1, (joinT m b n c).2)
    | _, _ => (0, 6)
theorem fits_refl : ∀ (n : Nat) (b : Int), fitsT n b n b = true
  | 0, b => by rw [fitsT.eq_def]; split <;> simp
  | n + 1, b => by rw [fitsT.eq_def]; simp [fits_refl n b]
theorem joinT_eq (m : Nat) (b : Int) (n : Nat) (c : Int) : joinT m b n c = if fitsT m b n c = true then (n, c) else if fitsT n c m b = true then (m, b) else match m, n with
    | m + 1, n + 1 => ((joinT m b n c).1 + 1, (joinT m b n c).2)
    | _, _ => (0, 6) := joinT.eq_def m b n c
theorem joinT_l {m n : Nat} {b c : Int} (h : fitsT m b n c = true) : joinT m b n c = (n, c) := by rw [joinT_eq, if_pos h]
theorem joinT_r {m n : Nat} {b c : Int} (h1 : fitsT m b n c = false) (h : fitsT n c m b = true) : joinT m b n c = (m, b) := by rw [joinT_eq, if_neg (by simp [h1]), if_pos h]
theorem joinT_z {n : Nat} {b c : Int} (h1 : fitsT 0 b n c = false) (h : fitsT n c 0 b = false) : joinT 0 b n c = (0, 6) := by rw [joinT_eq, if_neg (by simp [h1]), if_neg (by simp [h])]
theorem joinT_z' {m : Nat} {b c : Int} (h1 : fitsT m b 0 c = false) (h : fitsT 0 c m b = false) : joinT m b 0 c = (0, 6) := by
  rw [joinT_eq, if_neg (by simp [h1]), if_neg (by simp [h])]; cases m <;> rfl
theorem joinT_s {m n : Nat} {b c : Int} (h1 : fitsT (m + 1) b (n + 1) c = false) (h : fitsT (n + 1) c (m + 1) b = false) : joinT (m + 1) b (n + 1) c = ((joinT m b n c).1 + 1, (joinT m b n c).2) := by
  rw [joinT_eq, if_neg (by simp [h1]), if_neg (by simp [h])]
theorem join_base {b c : Int} (hb : baseK b) (hc : baseK c) : ∀ (m n : Nat), baseK (joinT m b n c).2 ∧ (joinT m b n c).1 ≤ m + n := by
  intro m
  induction m with
  | zero =>
    intro n
    cases h1 : fitsT 0 b n c with
    | true => rw [joinT_l h1]; exact ⟨hc, by simp⟩
    | false => cases h2 : fitsT n c 0 b with
      | true => rw [joinT_r h1 h2]; exact ⟨hb, by simp⟩
      | false => rw [joinT_z h1 h2]; simp [baseK]
  | succ m ih =>
    intro n
    cases h1 : fitsT (m + 1) b n c with
    | true => rw [joinT_l h1]; exact ⟨hc, by simp⟩
    | false => cases h2 : fitsT n c (m + 1) b with
      | true => rw [joinT_r h1 h2]; exact ⟨hb, by simp⟩
      | false => cases n with
        | zero => rw [joinT_z' h1 h2]; simp [baseK]
        | succ n =>
          have h := ih n
          rw [joinT_s h1 h2]
          exact ⟨h.1, by simp only; omega⟩

/-! ### The letters of a type -/
def letter (b : Int) : UInt8 := if b = 1 then 122 else if b = 2 then 98 else if b = 3 then 110 else if b = 4 then 116 else 97
def bstr (l : List UInt8) : ByteArray := ⟨l.toArray⟩
/-! ### Which values a type has; its name -/
mutual
def hasT : VVal → Nat → Int → Bool
  | .mk kind _ _ _ _ list, n, b =>
    if kind = 1 ∨ (n = 0 ∧ b = 6) then true
    else if kind = 2 then decide (n = 0 ∧ b = 2) else if kind = 3 then decide (n = 0 ∧ b = 3) else if kind = 4 then decide (n = 0 ∧ b = 4)
    else if kind = 5 then (match n with | 0 => false | n + 1 => hasTs list n b) else false
def hasTs : List VVal → Nat → Int → Bool
  | [], _, _ => true
  | v :: r, n, b => hasT v n b && hasTs r n b
end
end Go.Pure


/- Types' order: fitting is an order, joining its least upper bound. -/
namespace Go.Pure

theorem fzz (b c : Int) : (fitsT 0 b 0 c = true) ↔ (b = 1 ∨ c = 6 ∨ b = c) := by
  rw [fitsT_eq]; by_cases h : (0 = 0 ∧ b = 1) ∨ ((0 : Nat) = 0 ∧ c = 6)
  · rw [if_pos h]; simp only [true_iff]; omega
  · rw [if_neg h]; simp only [decide_eq_true_eq]; omega
theorem fzs (b c : Int) (n : Nat) : (fitsT 0 b (n + 1) c = true) ↔ b = 1 := by
  rw [fitsT_eq]; by_cases h : b = 1 <;> simp [h]
theorem fsz (b c : Int) (m : Nat) : (fitsT (m + 1) b 0 c = true) ↔ c = 6 := by
  rw [fitsT_eq]; by_cases h : c = 6 <;> simp [h]
theorem fss (b c : Int) (m n : Nat) : fitsT (m + 1) b (n + 1) c = fitsT m b n c := by
  rw [fitsT_eq]; simp
theorem fits_any (b : Int) (m : Nat) : fitsT m b 0 6 = true := by
  cases m with
  | zero => rw [fzz]; omega
  | succ m => rw [fsz]
theorem join_up {b c : Int} : ∀ m n : Nat, fitsT m b (joinT m b n c).1 (joinT m b n c).2 = true ∧ fitsT n c (joinT m b n c).1 (joinT m b n c).2 = true := by
  intro m
  induction m with
  | zero =>
    intro n
    cases h1 : fitsT 0 b n c with
    | true => rw [joinT_l h1]; exact ⟨h1, fits_refl _ _⟩
    | false => cases h2 : fitsT n c 0 b with
      | true => rw [joinT_r h1 h2]; exact ⟨fits_refl _ _, h2⟩
      | false => rw [joinT_z h1 h2]; exact ⟨fits_any _ _, fits_any _ _⟩
  | succ m ih =>
    intro n
    cases h1 : fitsT (m + 1) b n c with
    | true => rw [joinT_l h1]; exact ⟨h1, fits_refl _ _⟩
    | false => cases h2 : fitsT n c (m + 1) b with
      | true => rw [joinT_r h1 h2]; exact ⟨fits_refl _ _, h2⟩
      | false => cases n with
        | zero => rw [joinT_z' h1 h2]; exact ⟨fits_any _ _, fits_any _ _⟩
        | succ n => rw [joinT_s h1 h2, fss, fss]; exact ih n
end Go.Pure

