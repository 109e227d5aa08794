/- A generic layer: values without memory, and code over them. -/
import Derived.Test.YtffpepmfdjjjaaaPureC
/- The program's plain types as values without memory: values, expressions, tests, columns, rules, tables, commands, trees; what comes in reads as one. -/
namespace Go.Pure
open Go

mutual
/-- How much a ground value holds. -/
def gbulk : GV → Nat
  | .str s => s.size + 1
  | .agg cs => gbulks cs
  | .sl es => gbulks es + 1
  | _ => 1
def gbulks : List GV → Nat
  | [] => 0
  | g :: r => gbulk g + gbulks r
end
theorem gbulks_append : ∀ a b : List GV, gbulks (a ++ b) = gbulks a + gbulks b
  | [], b => by simp [gbulks]
  | x :: a, b => by simp [gbulks, gbulks_append a b, Nat.add_assoc]
theorem gbulk_cells (x : GV) : gbulks x.cells = gbulk x := by
  cases x <;> simp [GV.cells, gbulks, gbulk]
theorem gbulks_cells : ∀ xs : List GV, gbulks (xs.flatMap GV.cells) = gbulks xs
  | [] => by simp [gbulks]
  | x :: xs => by simp [gbulks, gbulks_append, gbulk_cells, gbulks_cells xs]
theorem gbulks_get : ∀ {l : List GV} {i : Nat} {x : GV}, l[i]? = some x → gbulk x ≤ gbulks l
  | y :: l, 0, x, h => by simp at h; subst h; simp [gbulks]
  | y :: l, i + 1, x, h => by have := gbulks_get (l := l) (i := i) (by simpa using h); simp only [gbulks]; omega
theorem gbulks_drop : ∀ (l : List GV) (i : Nat), gbulks (l.drop i) ≤ gbulks l
  | [], i => by simp
  | x :: l, 0 => by simp
  | x :: l, i + 1 => by have := gbulks_drop l i; simp only [List.drop_succ_cons, gbulks]; omega

/-- A value. -/
inductive VVal where
  | mk (kind : Int) (yes : Bool) (coef exp : Int) (text : ByteArray) (list : List VVal)
mutual
def VVal.g : VVal → GV
  | .mk kind yes coef exp text list => .agg [.int .i64 kind, .bool yes, .int .i64 coef, .int .i64 exp, .str text, .sl (VVal.gs list)]
def VVal.gs : List VVal → List GV
  | [] => []
  | v :: r => v.g :: VVal.gs r
end
/-- An expression. -/
inductive VExpr where
  | mk (kind : Int) (val : VVal) (name : ByteArray) (kids : List VExpr)
mutual
def VExpr.g : VExpr → GV
  | .mk kind val name kids => .agg (.int .i64 kind :: (val.g.cells ++ [.str name, .sl (VExpr.gs kids)]))
def VExpr.gs : List VExpr → List GV
  | [] => []
  | v :: r => v.g :: VExpr.gs r
end
/-- A test. -/
inductive VTest where
  | mk (kind : Int) (a b : VVal) (openA openB : Bool) (kids : List VTest)
mutual
def VTest.g : VTest → GV
  | .mk kind a b openA openB kids => .agg (.int .i64 kind :: (a.g.cells ++ (b.g.cells ++ [.bool openA, .bool openB, .sl (VTest.gs kids)])))
def VTest.gs : List VTest → List GV
  | [] => []
  | v :: r => v.g :: VTest.gs r
end
/-- A column. -/
inductive VCol where
  | mk (name : ByteArray) (kind : Int) (order : List VVal)
def VCol.g : VCol → GV
  | .mk name kind order => .agg [.str name, .int .i64 kind, .sl (VVal.gs order)]
def VCol.gs (l : List VCol) : List GV := l.map VCol.g
/-- A rule. -/
inductive VRule where
  | mk (tests : List VTest) (outs : List VExpr)
def VRule.g : VRule → GV
  | .mk tests outs => .agg [.sl (VTest.gs tests), .sl (VExpr.gs outs)]
def VRule.gs (l : List VRule) : List GV := l.map VRule.g
/-- A table. -/
inductive VTable where
  | mk (name : ByteArray) (policy : Int) (ins outs : List VCol) (rules : List VRule)
def VTable.g : VTable → GV
  | .mk name policy ins outs rules => .agg [.str name, .int .i64 policy, .sl (VCol.gs ins), .sl (VCol.gs outs), .sl (VRule.gs rules)]
/-- A command. -/
inductive VCmd where
  | mk (session seq kind : Int) (table : VTable) (name : ByteArray) (to : Int)
def VCmd.g : VCmd → GV
  | .mk session seq kind table name to => .agg ([.int .i64 session, .int .i64 seq, .int .i64 kind] ++ table.g.cells ++ [.str name, .int .i64 to])
def VCmd.gs (l : List VCmd) : List GV := l.map VCmd.g

theorem VVal.gs_eq : ∀ l, VVal.gs l = l.map VVal.g
  | [] => rfl
  | v :: r => by simp [VVal.gs, VVal.gs_eq r]
theorem VExpr.gs_eq : ∀ l, VExpr.gs l = l.map VExpr.g
  | [] => rfl
  | v :: r => by simp [VExpr.gs, VExpr.gs_eq r]
theorem VTest.gs_eq : ∀ l, VTest.gs l = l.map VTest.g
  | [] => rfl
  | v :: r => by simp [VTest.gs, VTest.gs_eq r]
theorem VVal.cells (v : VVal) : v.g.cells.length = 6 := by cases v; rfl
theorem VExpr.cells (v : VExpr) : v.g.cells.length = 9 := by
  obtain ⟨k, v, n, l⟩ := v; simp [VExpr.g, GV.cells]; have := VVal.cells v; simp [GV.cells] at this; omega
theorem VTest.cells (v : VTest) : v.g.cells.length = 16 := by
  obtain ⟨k, a, b, _, _, l⟩ := v; simp [VTest.g, GV.cells]; have := VVal.cells a; have := VVal.cells b; simp [GV.cells] at *; omega
theorem VCol.cells (v : VCol) : v.g.cells.length = 3 := by cases v; rfl
theorem VRule.cells (v : VRule) : v.g.cells.length = 2 := by cases v; rfl
theorem VTable.cells (v : VTable) : v.g.cells.length = 5 := by cases v; rfl
theorem VCmd.cells (v : VCmd) : v.g.cells.length = 10 := by obtain ⟨_, _, _, ⟨_, _, _, _, _⟩, _, _⟩ := v; rfl

theorem VVal.one (v : VVal) : 1 ≤ gbulk v.g := by cases v; simp [VVal.g, gbulk, gbulks] <;> try omega
theorem VExpr.one (v : VExpr) : 1 ≤ gbulk v.g := by cases v; simp [VExpr.g, gbulk, gbulks] <;> try omega
theorem VTest.one (v : VTest) : 1 ≤ gbulk v.g := by cases v; simp [VTest.g, gbulk, gbulks] <;> try omega
theorem VCol.one (v : VCol) : 1 ≤ gbulk v.g := by cases v; simp [VCol.g, gbulk, gbulks] <;> try omega
theorem VRule.one (v : VRule) : 1 ≤ gbulk v.g := by cases v; simp [VRule.g, gbulk, gbulks] <;> try omega
theorem VTable.one (v : VTable) : 1 ≤ gbulk v.g := by cases v; simp [VTable.g, gbulk, gbulks] <;> try omega
theorem VCmd.one (v : VCmd) : 1 ≤ gbulk v.g := by cases v; simp [VCmd.g, gbulk, gbulks] <;> try omega
theorem map_len {α : Type} {f : α → GV} (hf : ∀ x, 1 ≤ gbulk (f x)) : ∀ l : List α, l.length ≤ gbulks (l.map f)
  | [] => by simp
  | x :: l => by have := hf x; have := map_len hf l; simp [gbulks]; omega
theorem map_get {α : Type} {f : α → GV} {l : List α} {i : Nat} (h : i < l.length) : (l.map f)[((i : Int)).toNat]? = some (f l[i]) := by simp [h]
theorem map_bulk {α : Type} {f : α → GV} {l : List α} {i : Nat} (h : i < l.length) : gbulk (f l[i]) ≤ gbulks (l.map f) := gbulks_get (i := i) (by simp [h])
theorem map_take {α β : Type} {f : α → β} {l : List α} {i : Nat} (h : i < l.length) : (l.take (i + 1)).map f = (l.take i).map f ++ [f l[i]] := by
  rw [List.take_succ_eq_append_getElem h, List.map_append]; rfl

/-! ### What comes in -/
def GTs (P : Program) : List TypeId → List GV → Prop
  | [], [] => True
  | t :: ts, x :: xs => GT P t x ∧ GTs P ts xs
  | _, _ => False
theorem gts_of {P : Program} : ∀ (ts : List TypeId) (xs : List GV), xs.length = ts.length → (∀ (i : Nat) (t : TypeId) (x : GV), ts[i]? = some t → xs[i]? = some x → GT P t x) → GTs P ts xs
  | [], [], _, _ => trivial
  | [], _ :: _, h, _ => by simp at h
  | _ :: _, [], h, _ => by simp at h
  | t :: ts, x :: xs, hl, h => ⟨h 0 t x rfl rfl, gts_of ts xs (by simpa using hl) fun i t x ht hx => h (i + 1) t x (by simpa using ht) (by simpa using hx)⟩
def StructT (P : Program) (t : TypeId) (ts : List TypeId) : Prop := ∃ fs, P.underlying t = some (.struct fs) ∧ fs.toList.map (·.type) = ts
theorem StructT.inv {P : Program} {t : TypeId} {ts : List TypeId} {g : GV} (hu : StructT P t ts) (h : GT P t g) : ∃ xs : List GV, g = .agg (xs.flatMap GV.cells) ∧ GTs P ts xs := by
  obtain ⟨fs, hu, rfl⟩ := hu
  obtain ⟨xs, rfl, hl, hx⟩ := GT.agg_inv hu h
  refine ⟨xs, rfl, gts_of _ _ (by simpa using hl) fun i t x ht hx' => ?_⟩
  simp only [List.getElem?_map, Array.getElem?_toList, Option.map_eq_some_iff] at ht
  obtain ⟨f, hf, rfl⟩ := ht
  exact hx i f x hf hx'
theorem GTs.one {P : Program} {t : TypeId} {ts : List TypeId} {xs : List GV} (h : GTs P (t :: ts) xs) : ∃ x r, xs = x :: r ∧ GT P t x ∧ GTs P ts r := by
  cases xs with
  | nil => exact h.elim
  | cons x r => exact ⟨x, r, rfl, h.1, h.2⟩
theorem GTs.nil {P : Program} {xs : List GV} (h : GTs P [] xs) : xs = [] := by
  cases xs with
  | nil => rfl
  | cons x r => exact h.elim

theorem sizeOf_le_flat : ∀ (xs : List GV) (x : GV), x ∈ xs → SizeOf.sizeOf x ≤ SizeOf.sizeOf (GV.agg (xs.flatMap GV.cells))
  | y :: xs, x, h => by
    rcases List.mem_cons.1 h with rfl | h
    · have key : ∀ a b : List GV, SizeOf.sizeOf a ≤ SizeOf.sizeOf (a ++ b) := by
        intro a b
        induction a with
        | nil => cases b <;> simp <;> try omega
        | cons z a ih => simp; exact ih
      have := key x.cells (xs.flatMap GV.cells)
      simp only [List.flatMap_cons, GV.agg.sizeOf_spec]
      cases x <;> simp [GV.cells] at * <;> omega
    · have := sizeOf_le_flat xs x h
      have key : ∀ a b : List GV, SizeOf.sizeOf b ≤ SizeOf.sizeOf (a ++ b) := by
        intro a b
        induction a with
        | nil => simp
        | cons z a ih => simp; omega
      have := key y.cells (xs.flatMap GV.cells)
      simp only [List.flatMap_cons, GV.agg.sizeOf_spec] at *
      omega

/-- A list that comes in: each of its elements reads as something. -/
theorem list_inv {P : Program} {e : TypeId} {α : Type} (f : α → GV) : ∀ (es : List GV), (∀ x ∈ es, GT P e x) → (∀ x ∈ es, GT P e x → ∃ a, x = f a) → ∃ l : List α, es = l.map f
  | [], _, _ => ⟨[], rfl⟩
  | x :: es, h, k => by
    obtain ⟨l, rfl⟩ := list_inv f es (fun y hy => h y (List.mem_cons_of_mem _ hy)) fun y hy => k y (List.mem_cons_of_mem _ hy)
    obtain ⟨a, rfl⟩ := k x (by simp) (h x (by simp))
    exact ⟨a :: l, rfl⟩
theorem size_mem {es : List GV} {x : GV} (h : x ∈ es) : SizeOf.sizeOf x < SizeOf.sizeOf (GV.sl es) := by
  have := List.sizeOf_lt_of_mem h
  simp
  omega

section
variable {P : Program} {ti tj tb ts TV TD LV TE LE TT LT TC LC TR LR TB TM : TypeId}
theorem val_inv (hi : P.underlying ti = some (.int .i64)) (hj : P.underlying tj = some (.int .i64)) (hb : P.underlying tb = some .bool) (hs : P.underlying ts = some .string)
    (hV : StructT P TV [ti, tb, TD, ts, LV]) (hD : StructT P TD [tj, ti]) (hL : P.underlying LV = some (.slice TV)) : ∀ (m : Nat) (g : GV), SizeOf.sizeOf g ≤ m → GT P TV g → ∃ v : VVal, g = v.g
  | 0, g, hm, _ => by cases g <;> simp at hm
  | m + 1, g, hm, h => by
    obtain ⟨xs, rfl, hx⟩ := hV.inv h
    obtain ⟨a, xs, rfl, ha, hx⟩ := hx.one
    obtain ⟨b, xs, rfl, hb', hx⟩ := hx.one
    obtain ⟨c, xs, rfl, hc, hx⟩ := hx.one
    obtain ⟨d, xs, rfl, hd, hx⟩ := hx.one
    obtain ⟨e, xs, rfl, he, hx⟩ := hx.one
    obtain rfl := hx.nil
    have hsz := sizeOf_le_flat [a, b, c, d, e] e (by simp)
    obtain ⟨kind, rfl, _⟩ := GT.int_inv hi ha
    obtain ⟨yes, rfl⟩ := GT.bool_inv hb hb'
    obtain ⟨ys, rfl, hy⟩ := hD.inv hc
    obtain ⟨a, ys, rfl, ha, hy⟩ := hy.one
    obtain ⟨b, ys, rfl, hb', hy⟩ := hy.one
    obtain rfl := hy.nil
    obtain ⟨coef, rfl, _⟩ := GT.int_inv hj ha
    obtain ⟨exp, rfl, _⟩ := GT.int_inv hi hb'
    obtain ⟨text, rfl, _⟩ := GT.str_inv hs hd
    obtain ⟨es, rfl, _, hl⟩ := GT.sl_inv hL he
    obtain ⟨l, rfl⟩ := list_inv VVal.g es hl fun x hx hg => val_inv hi hj hb hs hV hD hL m x (by have := size_mem hx; omega) hg
    exact ⟨.mk kind yes coef exp text l, by simp [VVal.g, VVal.gs_eq, GV.cells]⟩
theorem vals_inv (hV : ∀ g, GT P TV g → ∃ v : VVal, g = v.g) (hL : P.underlying LV = some (.slice TV)) {g : GV} (h : GT P LV g) : ∃ l : List VVal, g = .sl (VVal.gs l) := by
  obtain ⟨es, rfl, _, hl⟩ := GT.sl_inv hL h
  obtain ⟨l, rfl⟩ := list_inv VVal.g es hl fun x _ hg => hV x hg
  exact ⟨l, by rw [VVal.gs_eq]⟩
theorem expr_inv (hi : P.underlying ti = some (.int .i64)) (hs : P.underlying ts = some .string) (hV : ∀ g, GT P TV g → ∃ v : VVal, g = v.g)
    (hE : StructT P TE [ti, TV, ts, LE]) (hL : P.underlying LE = some (.slice TE)) : ∀ (m : Nat) (g : GV), SizeOf.sizeOf g ≤ m → GT P TE g → ∃ v : VExpr, g = v.g
  | 0, g, hm, _ => by cases g <;> simp at hm
  | m + 1, g, hm, h => by
    obtain ⟨xs, rfl, hx⟩ := hE.inv h
    obtain ⟨a, xs, rfl, ha, hx⟩ := hx.one
    obtain ⟨b, xs, rfl, hb', hx⟩ := hx.one
    obtain ⟨c, xs, rfl, hc, hx⟩ := hx.one
    obtain ⟨d, xs, rfl, hd, hx⟩ := hx.one
    obtain rfl := hx.nil
    have hsz := sizeOf_le_flat [a, b, c, d] d (by simp)
    obtain ⟨kind, rfl, _⟩ := GT.int_inv hi ha
    obtain ⟨v, rfl⟩ := hV _ hb'
    obtain ⟨name, rfl, _⟩ := GT.str_inv hs hc
    obtain ⟨es, rfl, _, hl⟩ := GT.sl_inv hL hd
    obtain ⟨l, rfl⟩ := list_inv VExpr.g es hl fun x hx hg => expr_inv hi hs hV hE hL m x (by have := size_mem hx; omega) hg
    refine ⟨.mk kind v name l, ?_⟩
    simp only [VExpr.g, VExpr.gs_eq, List.flatMap_cons, List.flatMap_nil, List.append_nil]
    rfl
theorem exprs_inv (hV : ∀ g, GT P TE g → ∃ v : VExpr, g = v.g) (hL : P.underlying LE = some (.slice TE)) {g : GV} (h : GT P LE g) : ∃ l : List VExpr, g = .sl (VExpr.gs l) := by
  obtain ⟨es, rfl, _, hl⟩ := GT.sl_inv hL h
  obtain ⟨l, rfl⟩ := list_inv VExpr.g es hl fun x _ hg => hV x hg
  exact ⟨l, by rw [VExpr.gs_eq]⟩
theorem test_inv (hi : P.underlying ti = some (.int .i64)) (hb : P.underlying tb = some .bool) (hV : ∀ g, GT P TV g → ∃ v : VVal, g = v.g)
    (hT : StructT P TT [ti, TV, TV, tb, tb, LT]) (hL : P.underlying LT = some (.slice TT)) : ∀ (m : Nat) (g : GV), SizeOf.sizeOf g ≤ m → GT P TT g → ∃ v : VTest, g = v.g
  | 0, g, hm, _ => by cases g <;> simp at hm
  | m + 1, g, hm, h => by
    obtain ⟨xs, rfl, hx⟩ := hT.inv h
    obtain ⟨a, xs, rfl, ha, hx⟩ := hx.one
    obtain ⟨b, xs, rfl, hb', hx⟩ := hx.one
    obtain ⟨c, xs, rfl, hc, hx⟩ := hx.one
    obtain ⟨d, xs, rfl, hd, hx⟩ := hx.one
    obtain ⟨e, xs, rfl, he, hx⟩ := hx.one
    obtain ⟨f, xs, rfl, hf, hx⟩ := hx.one
    obtain rfl := hx.nil
    have hsz := sizeOf_le_flat [a, b, c, d, e, f] f (by simp)
    obtain ⟨kind, rfl, _⟩ := GT.int_inv hi ha
    obtain ⟨v, rfl⟩ := hV _ hb'
    obtain ⟨u, rfl⟩ := hV _ hc
    obtain ⟨o1, rfl⟩ := GT.bool_inv hb hd
    obtain ⟨o2, rfl⟩ := GT.bool_inv hb he
    obtain ⟨es, rfl, _, hl⟩ := GT.sl_inv hL hf
    obtain ⟨l, rfl⟩ := list_inv VTest.g es hl fun x hx hg => test_inv hi hb hV hT hL m x (by have := size_mem hx; omega) hg
    refine ⟨.mk kind v u o1 o2 l, ?_⟩
    simp only [VTest.g, VTest.gs_eq, List.flatMap_cons, List.flatMap_nil, List.append_nil]
    rfl
theorem tests_inv (hV : ∀ g, GT P TT g → ∃ v : VTest, g = v.g) (hL : P.underlying LT = some (.slice TT)) {g : GV} (h : GT P LT g) : ∃ l : List VTest, g = .sl (VTest.gs l) := by
  obtain ⟨es, rfl, _, hl⟩ := GT.sl_inv hL h
  obtain ⟨l, rfl⟩ := list_inv VTest.g es hl fun x _ hg => hV x hg
  exact ⟨l, by rw [VTest.gs_eq]⟩
theorem col_inv (hi : P.underlying ti = some (.int .i64)) (hs : P.underlying ts = some .string) (hV : ∀ g, GT P LV g → ∃ l : List VVal, g = .sl (VVal.gs l))
    (hC : StructT P TC [ts, ti, LV]) {g : GV} (h : GT P TC g) : ∃ v : VCol, g = v.g := by
  obtain ⟨xs, rfl, hx⟩ := hC.inv h
  obtain ⟨a, xs, rfl, ha, hx⟩ := hx.one
  obtain ⟨b, xs, rfl, hb, hx⟩ := hx.one
  obtain ⟨c, xs, rfl, hc, hx⟩ := hx.one
  obtain rfl := hx.nil
  obtain ⟨name, rfl, _⟩ := GT.str_inv hs ha
  obtain ⟨kind, rfl, _⟩ := GT.int_inv hi hb
  obtain ⟨l, rfl⟩ := hV _ hc
  exact ⟨.mk name kind l, rfl⟩
theorem cols_inv (hV : ∀ g, GT P TC g → ∃ v : VCol, g = v.g) (hL : P.underlying LC = some (.slice TC)) {g : GV} (h : GT P LC g) : ∃ l : List VCol, g = .sl (VCol.gs l) := by
  obtain ⟨es, rfl, _, hl⟩ := GT.sl_inv hL h
  obtain ⟨l, rfl⟩ := list_inv VCol.g es hl fun x _ hg => hV x hg
  exact ⟨l, rfl⟩
theorem rule_inv (hT : ∀ g, GT P LT g → ∃ l : List VTest, g = .sl (VTest.gs l)) (hE : ∀ g, GT P LE g → ∃ l : List VExpr, g = .sl (VExpr.gs l))
    (hR : StructT P TR [LT, LE]) {g : GV} (h : GT P TR g) : ∃ v : VRule, g = v.g := by
  obtain ⟨xs, rfl, hx⟩ := hR.inv h
  obtain ⟨a, xs, rfl, ha, hx⟩ := hx.one
  obtain ⟨b, xs, rfl, hb, hx⟩ := hx.one
  obtain rfl := hx.nil
  obtain ⟨t, rfl⟩ := hT _ ha
  obtain ⟨e, rfl⟩ := hE _ hb
  exact ⟨.mk t e, rfl⟩
theorem rules_inv (hV : ∀ g, GT P TR g → ∃ v : VRule, g = v.g) (hL : P.underlying LR = some (.slice TR)) {g : GV} (h : GT P LR g) : ∃ l : List VRule, g = .sl (VRule.gs l) := by
  obtain ⟨es, rfl, _, hl⟩ := GT.sl_inv hL h
  obtain ⟨l, rfl⟩ := list_inv VRule.g es hl fun x _ hg => hV x hg
  exact ⟨l, rfl⟩
theorem table_inv (hi : P.underlying ti = some (.int .i64)) (hs : P.underlying ts = some .string) (hC : ∀ g, GT P LC g → ∃ l : List VCol, g = .sl (VCol.gs l)) (hR : ∀ g, GT P LR g → ∃ l : List VRule, g = .sl (VRule.gs l))
    (hB : StructT P TB [ts, ti, LC, LC, LR]) {g : GV} (h : GT P TB g) : ∃ v : VTable, g = v.g := by
  obtain ⟨xs, rfl, hx⟩ := hB.inv h
  obtain ⟨a, xs, rfl, ha, hx⟩ := hx.one
  obtain ⟨b, xs, rfl, hb, hx⟩ := hx.one
  obtain ⟨c, xs, rfl, hc, hx⟩ := hx.one
  obtain ⟨d, xs, rfl, hd, hx⟩ := hx.one
  obtain ⟨e, xs, rfl, he, hx⟩ := hx.one
  obtain rfl := hx.nil
  obtain ⟨name, rfl, _⟩ := GT.str_inv hs ha
  obtain ⟨pol, rfl, _⟩ := GT.int_inv hi hb
  obtain ⟨l1, rfl⟩ := hC _ hc
  obtain ⟨l2, rfl⟩ := hC _ hd
  obtain ⟨l3, rfl⟩ := hR _ he
  exact ⟨.mk name pol l1 l2 l3, rfl⟩
theorem cmd_inv (hi : P.underlying ti = some (.int .i64)) (hs : P.underlying ts = some .string) (hT : ∀ g, GT P TB g → ∃ v : VTable, g = v.g)
    (hM : StructT P TM [ti, ti, ti, TB, ts, ti]) {g : GV} (h : GT P TM g) : ∃ v : VCmd, g = v.g := by
  obtain ⟨xs, rfl, hx⟩ := hM.inv h
  obtain ⟨a, xs, rfl, ha, hx⟩ := hx.one
  obtain ⟨b, xs, rfl, hb, hx⟩ := hx.one
  obtain ⟨c, xs, rfl, hc, hx⟩ := hx.one
  obtain ⟨d, xs, rfl, hd, hx⟩ := hx.one
  obtain ⟨e, xs, rfl, he, hx⟩ := hx.one
  obtain ⟨f, xs, rfl, hf, hx⟩ := hx.one
  obtain rfl := hx.nil
  obtain ⟨session, rfl, _⟩ := GT.int_inv hi ha
  obtain ⟨seq, rfl, _⟩ := GT.int_inv hi hb
  obtain ⟨kind, rfl, _⟩ := GT.int_inv hi hc
  obtain ⟨t, rfl⟩ := hT _ hd
  obtain ⟨name, rfl, _⟩ := GT.str_inv hs he
  obtain ⟨to, rfl, _⟩ := GT.int_inv hi hf
  refine ⟨.mk session seq kind t name to, ?_⟩
  obtain ⟨_, _, _, _, _⟩ := t
  rfl
theorem cmds_inv (hV : ∀ g, GT P TM g → ∃ v : VCmd, g = v.g) (hL : P.underlying LV = some (.slice TM)) {g : GV} (h : GT P LV g) : ∃ l : List VCmd, g = .sl (VCmd.gs l) := by
  obtain ⟨es, rfl, _, hl⟩ := GT.sl_inv hL h
  obtain ⟨l, rfl⟩ := list_inv VCmd.g es hl fun x _ hg => hV x hg
  exact ⟨l, rfl⟩
end
end Go.Pure

