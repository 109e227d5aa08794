/- A generic layer: values without memory, and code over them. -/
import Derived.Test.YtdicineiaifahaaGreatDoorPureC
/- The program's plain types as values without memory: values, expressions, tests, columns, rules, tables, commands, trees; what comes in reads as one. -/
namespace Go.Pure
open Go

mutual
def gbulk : GV → Nat
  | .str s => s.size + 1
  | .agg cs => gbulks cs
  | .sl es => gbulks es + 1
  | _ => 1
def gbulks : List GV → Nat
  | [] => 0
  | g :: r => gbulk g + gbulks r
end
inductive VVal where
  | mk (kind : Int) (yes : Bool) (coef exp : Int) (text : ByteArray) (list : List VVal)
mutual
def VVal.g : VVal → GV
  | .mk kind yes coef exp text list => .agg [.int .i64 kind, .bool yes, .int .i64 coef, .int .i64 exp, .str text, .sl (VVal.gs list)]
def VVal.gs : List VVal → List GV
  | [] => []
  | v :: r => v.g :: VVal.gs r
end
inductive VExpr where
  | mk (kind : Int) (val : VVal) (name : ByteArray) (kids : List VExpr)
mutual
def VExpr.g : VExpr → GV
  | .mk kind val name kids => .agg (.int .i64 kind :: (val.g.cells ++ [.str name, .sl (VExpr.gs kids)]))
def VExpr.gs : List VExpr → List GV
  | [] => []
  | v :: r => v.g :: VExpr.gs r
end
inductive VTest where
  | mk (kind : Int) (a b : VVal) (openA openB : Bool) (kids : List VTest)
mutual
def VTest.g : VTest → GV
  | .mk kind a b openA openB kids => .agg (.int .i64 kind :: (a.g.cells ++ (b.g.cells ++ [.bool openA, .bool openB, .sl (VTest.gs kids)])))
def VTest.gs : List VTest → List GV
  | [] => []
  | v :: r => v.g :: VTest.gs r
end
inductive VCol where
  | mk (name : ByteArray) (kind : Int) (order : List VVal)
def VCol.g : VCol → GV
  | .mk name kind order => .agg [.str name, .int .i64 kind, .sl (VVal.gs order)]
def VCol.gs (l : List VCol) : List GV := l.map VCol.g
inductive VRule where
  | mk (tests : List VTest) (outs : List VExpr)
def VRule.g : VRule → GV
  | .mk tests outs => .agg [.sl (VTest.gs tests), .sl (VExpr.gs outs)]
def VRule.gs (l : List VRule) : List GV := l.map VRule.g
inductive VTable where
  | mk (name : ByteArray) (policy : Int) (ins outs : List VCol) (rules : List VRule)
def VTable.g : VTable → GV
  | .mk name policy ins outs rules => .agg [.str name, .int .i64 policy, .sl (VCol.gs ins), .sl (VCol.gs outs), .sl (VRule.gs rules)]
inductive VCmd where
  | mk (session seq kind : Int) (table : VTable) (name : ByteArray) (to : Int)
def VCmd.g : VCmd → GV
  | .mk session seq kind table name to => .agg ([.int .i64 session, .int .i64 seq, .int .i64 kind] ++ table.g.cells ++ [.str name, .int .i64 to])
def VCmd.gs (l : List VCmd) : List GV := l.map VCmd.g

theorem VVal.gs_eq : ∀ l, VVal.gs l = l.map VVal.g
  | [] => rfl
  | v :: r => by simp [VVal.gs, VVal.gs_eq r]
theorem VExpr.gs_eq : ∀ l, VExpr.gs l = l.map VExpr.g
  | [] => rfl
  | v :: r => by simp [VExpr.gs, VExpr.gs_eq r]
theorem VTest.gs_eq : ∀ l, VTest.gs l = l.map VTest.g
  | [] => rfl
  | v :: r => by simp [VTest.gs, VTest.gs_eq r]
theorem VVal.cells (v : VVal) : v.g.cells.length = 6 := by cases v; rfl
theorem VExpr.cells (v : VExpr) : v.g.cells.length = 9 := by
  obtain ⟨k, v, n, l⟩ := v; simp [VExpr.g, GV.cells]; have := VVal.cells v; simp [GV.cells] at this; omega
theorem VTest.cells (v : VTest) : v.g.cells.length = 16 := by
  obtain ⟨k, a, b, _, _, l⟩ := v; simp [VTest.g, GV.cells]; have := VVal.cells a; have := VVal.cells b; simp [GV.cells] at *; omega
theorem VCol.cells (v : VCol) : v.g.cells.length = 3 := by cases v; rfl
theorem VRule.cells (v : VRule) : v.g.cells.length = 2 := by cases v; rfl
theorem VTable.cells (v : VTable) : v.g.cells.length = 5 := by cases v; rfl
theorem VCmd.cells (v : VCmd) : v.g.cells.length = 10 := by obtain ⟨_, _, _, ⟨_, _, _, _, _⟩, _, _⟩ := v; rfl

theorem VVal.one (v : VVal) : 1 ≤ gbulk v.g := by cases v; simp [VVal.g, gbulk, gbulks] <;> try omega
theorem VExpr.one (v : VExpr) : 1 ≤ gbulk v.g := by cases v; simp [VExpr.g, gbulk, gbulks] <;> try omega
theorem VTest.one (v : VTest) : 1 ≤ gbulk v.g := by cases v; simp [VTest.g, gbulk, gbulks] <;> try omega
theorem VCol.one (v : VCol) : 1 ≤ gbulk v.g := by cases v; simp [VCol.g, gbulk, gbulks] <;> try omega
theorem VRule.one (v : VRule) : 1 ≤ gbulk v.g := by cases v; simp [VRule.g, gbulk, gbulks] <;> try omega
theorem VTable.one (v : VTable) : 1 ≤ gbulk v.g := by cases v; simp [VTable.g, gbulk, gbulks] <;> try omega
theorem VCmd.one (v : VCmd) : 1 ≤ gbulk v.g := by cases v; simp [VCmd.g, gbulk, gbulks] <;> try omega
theorem map_get {α : Type} {f : α → GV} {l : List α} {i : Nat} (h : i < l.length) : (l.map f)[((i : Int)).toNat]? = some (f l[i]) := by simp [h]
theorem map_take {α β : Type} {f : α → β} {l : List α} {i : Nat} (h : i < l.length) : (l.take (i + 1)).map f = (l.take i).map f ++ [f l[i]] := by
  rw [List.take_succ_eq_append_getElem h, List.map_append]; rfl

/-! ### What comes in -/
def GTs (P : Program) : List TypeId → List GV → Prop
  | [], [] => True
  | t :: ts, x :: xs => GT P t x ∧ GTs P ts xs
  | _, _ => False
theorem gts_of {P : Program} : ∀ (ts : List TypeId) (xs : List GV), xs.length = ts.length → (∀ (i : Nat) (t : TypeId) (x : GV), ts[i]? = some t → xs[i]? = some x → GT P t x) → GTs P ts xs
  | [], [], _, _ => trivial
  | [], _ :: _, h, _ => by simp at h
  | _ :: _, [], h, _ => by simp at h
  | t :: ts, x :: xs, hl, h => ⟨h 0 t x rfl rfl, gts_of ts xs (by simpa using hl) fun i t x ht hx => h (i + 1) t x (by simpa using ht) (by simpa using hx)⟩
def StructT (P : Program) (t : TypeId) (ts : List TypeId) : Prop := ∃ fs, P.underlying t = some (.struct fs) ∧ fs.toList.map (·.type) = ts
theorem StructT.inv {P : Program} {t : TypeId} {ts : List TypeId} {g : GV} (hu : StructT P t ts) (h : GT P t g) : ∃ xs : List GV, g = .agg (xs.flatMap GV.cells) ∧ GTs P ts xs := by
  obtain ⟨fs, hu, rfl⟩ := hu
  obtain ⟨xs, rfl, hl, hx⟩ := GT.agg_inv hu h
  refine ⟨xs, rfl, gts_of _ _ (by simpa using hl) fun i t x ht hx' => ?_⟩
  simp only [List.getElem?_map, Array.getElem?_toList, Option.map_eq_some_iff] at ht
  obtain ⟨f, hf, rfl⟩ := ht
  exact hx i f x hf hx'
theorem GTs.one {P : Program} {t : TypeId} {ts : List TypeId} {xs : List GV} (h : GTs P (t :: ts) xs) : ∃ x r, xs = x :: r ∧ GT P t x ∧ GTs P ts r := by
  cases xs with
  | nil => exact h.elim
  | cons x r => exact ⟨x, r, rfl, h.1, h.2⟩
theorem GTs.nil {P : Program} {xs : List GV} (h : GTs P [] xs) : xs = [] := by
  cases xs with
  | nil => rfl
  | cons x r => exact h.elim

theorem sizeOf_le_flat : ∀ (xs : List GV) (x : GV), x ∈ xs → SizeOf.sizeOf x ≤ SizeOf.sizeOf (GV.agg (xs.flatMap GV.cells))
  | y :: xs, x, h => by
    rcases List.mem_cons.1 h with rfl | h
    · have key : ∀ a b : List GV, SizeOf.sizeOf a ≤ SizeOf.sizeOf (a ++ b) := by
        intro a b
        induction a with
        | nil => cases b <;> simp <;> try omega
        | cons z a ih => simp; exact ih
      have := key x.cells (xs.flatMap GV.cells)
      simp only [List.flatMap_cons, GV.agg.sizeOf_spec]
      cases x <;> simp [GV.cells] at * <;> omega
    · have := sizeOf_le_flat xs x h
      have key : ∀ a b : List GV, SizeOf.sizeOf b ≤ SizeOf.sizeOf (a ++ b) := by
        intro a b
        induction a with
        | nil => simp
        | cons z a ih => simp; omega
      have := key y.cells (xs.flatMap GV.cells)
      simp only [List.flatMap_cons, GV.agg.sizeOf_spec] at *
      omega

theorem list_inv {P : Program} {e : TypeId} {α : Type} (f : α → GV) : ∀ (es : List GV), (∀ x ∈ es, GT P e x) → (∀ x ∈ es, GT P e x → ∃ a, x = f a) → ∃ l : List α, es = l.map f
  | [], _, _ => ⟨[], rfl⟩
  | x :: es, h, k => by
    obtain ⟨l, rfl⟩ := list_inv f es (fun y hy => h y (List.mem_cons_of_mem _ hy)) fun y hy => k y (List.mem_cons_of_mem _ hy)
    obtain ⟨a, rfl⟩ := k x (by simp) (h x (by simp))
    exact ⟨a :: l, rfl⟩
theorem size_mem {es : List GV} {x : GV} (h : x ∈ es) : SizeOf.sizeOf x < SizeOf.sizeOf (GV.sl es) := by
  have := List.sizeOf_lt_of_mem h
  simp
  omega

section
variable {P : Program} {ti tj tb ts TV TD LV TE LE TT LT TC LC TR LR TB TM : TypeId}
theorem val_inv (hi : P.underlying ti = some (.int .i64)) (hj : P.underlying tj = some (.int .i64)) (hb : P.underlying tb = some .bool) (hs : P.underlying ts = some .string)
    (hV : StructT P TV [ti, tb, TD, ts, LV]) (hD : StructT P TD [tj, ti]) (hL : P.underlying LV = some (.slice TV)) : ∀ (m : Nat) (g : GV), SizeOf.sizeOf g ≤ m → GT P TV g → ∃ v : VVal, g = v.g
  | 0, g, hm, _ => by cases g <;> simp at hm
  | m + 1, g, hm, h => by
    obtain ⟨xs, rfl, hx⟩ := hV.inv h
    obtain ⟨a, xs, rfl, ha, hx⟩ := hx.one
    obtain ⟨b, xs, rfl, hb', hx⟩ := hx.one
    obtain ⟨c, xs, rfl, hc, hx⟩ := hx.one
    obtain ⟨d, xs, rfl, hd, hx⟩ := hx.one
    obtain ⟨e, xs, rfl, he, hx⟩ := hx.one
    obtain rfl := hx.nil
    have hsz := sizeOf_le_flat [a, b, c, d, e] e (by simp)
    obtain ⟨kind, rfl, _⟩ := GT.int_inv hi ha
    obtain ⟨yes, rfl⟩ := GT.bool_inv hb hb'
    obtain ⟨ys, rfl, hy⟩ := hD.inv hc
    obtain ⟨a, ys, rfl, ha, hy⟩ := hy.one
    obtain ⟨b, ys, rfl, hb', hy⟩ := hy.one
    obtain rfl := hy.nil
    obtain ⟨coef, rfl, _⟩ := GT.int_inv hj ha
    obtain ⟨exp, rfl, _⟩ := GT.int_inv hi hb'
    obtain ⟨text, rfl, _⟩ := GT.str_inv hs hd
    obtain ⟨es, rfl, _, hl⟩ := GT.sl_inv hL he
    obtain ⟨l, rfl⟩ := list_inv VVal.g es hl fun x hx hg => val_inv hi hj hb hs hV hD hL m x (by have := size_mem hx; omega) hg
    exact ⟨.mk kind yes coef exp text l, by simp [VVal.g, VVal.gs_eq, GV.cells]⟩
end
end Go.Pure


/- Numbers that come in are numbers of their kinds. -/
namespace Go.Pure
open Go

end Go.Pure


/- The program's types (of values) as values without memory; which of them are right, and how such a one is told by a number and a letter. -/
namespace Go.Pure
open Go

inductive VTy where
  | mk (kind : Int) (elem : List VTy)
mutual
def VTy.g : VTy → GV
  | .mk kind elem => .agg [.int .i64 kind, .sl (VTy.gs elem)]
def VTy.gs : List VTy → List GV
  | [] => []
  | v :: r => v.g :: VTy.gs r
end
theorem VTy.gs_eq : ∀ l, VTy.gs l = l.map VTy.g
  | [] => rfl
  | v :: r => by simp [VTy.gs, VTy.gs_eq r]
theorem VTy.cells (v : VTy) : v.g.cells.length = 2 := by cases v; rfl

/-! ### Fitting, joining: of so many lists of something -/
/-! ### The letters of a type -/
def letter (b : Int) : UInt8 := if b = 1 then 122 else if b = 2 then 98 else if b = 3 then 110 else if b = 4 then 116 else 97
def bstr (l : List UInt8) : ByteArray := ⟨l.toArray⟩
theorem bstr_toList (l : List UInt8) : (bstr l).toList = l := by simp [bstr]
/-! ### Which values a type has; its name -/
end Go.Pure


/- Lists and texts that come in are not longer than a machine holds. -/
namespace Go.Pure
open Go

mutual
def gsz : GV → Prop
  | .agg cs => gszs cs
  | .sl es => es.length ≤ maxLen ∧ gszs es
  | .str s => s.size ≤ maxLen
  | _ => True
def gszs : List GV → Prop
  | [] => True
  | g :: r => gsz g ∧ gszs r
end
theorem gszs_iff : ∀ {l : List GV}, gszs l ↔ ∀ x ∈ l, gsz x
  | [] => by simp [gszs]
  | x :: l => by simp [gszs, gszs_iff (l := l)]
theorem gsz_cells {x : GV} : gszs x.cells ↔ gsz x := by
  cases x <;> simp [GV.cells, gszs, gsz]
theorem GT.gsz {P : Program} {t : TypeId} {g : GV} (h : GT P t g) : gsz g := by
  induction h with
  | int t k n h hw => simp [Pure.gsz]
  | bool t b h => simp [Pure.gsz]
  | str t s h hs => simpa [Pure.gsz] using hs
  | sl t e es h hl he ih => simp only [Pure.gsz]; exact ⟨hl, gszs_iff.2 ih⟩
  | agg t fs xs h hl hx ih =>
    simp only [Pure.gsz]
    refine gszs_iff.2 fun c hc => ?_
    obtain ⟨x, hx', hc⟩ := List.mem_flatMap.1 hc
    obtain ⟨i, hi, rfl⟩ := List.getElem_of_mem hx'
    have hf : i < fs.size := by omega
    exact gszs_iff.1 (gsz_cells.2 (ih i fs[i] xs[i] (by simp [hf]) (by simp [hi]))) c hc
theorem VVal.gsz_list {kind : Int} {yes : Bool} {coef exp : Int} {text : ByteArray} {list : List VVal} (h : gsz (VVal.mk kind yes coef exp text list).g) : list.length ≤ maxLen ∧ ∀ v ∈ list, gsz v.g := by
  simp only [VVal.g, gsz, gszs, VVal.gs_eq, List.length_map] at h
  obtain ⟨_, _, _, _, _, ⟨h1, h2⟩, _⟩ := h
  exact ⟨h1, fun v hv => gszs_iff.1 h2 _ (List.mem_map_of_mem hv)⟩
end Go.Pure


/- Values: what is wrong with one; being the same; a value with what its kind has alone. -/
namespace Go.Pure
open Go

/-! ### What is known: yes (1), no (-1), nothing (0) -/
def toldV (n : Int) : VVal := if n = 0 then .mk 1 false 0 0 ⟨#[]⟩ [] else .mk 2 (decide (n > 0)) 0 0 ⟨#[]⟩ []
def tB (b : Bool) : Int := if b then 1 else -1
mutual
def eqV : VVal → VVal → Int
  | .mk k y c e t l, .mk k' y' c' e' t' l' =>
    if k = k' then (if k = 2 then tB (y == y') else if k = 3 then tB (decide (c = c' ∧ e = e')) else if k = 4 then tB (t.toList == t'.toList) else if k = 5 then (if l.length = l'.length then eqVs l l' 1 else -1) else 1)
    else if k = 1 ∨ k' = 1 then -1 else 0
def eqVs : List VVal → List VVal → Int → Int
  | x :: r, y :: s, a => eqVs r s (min a (eqV x y))
  | _, _, a => a
end
mutual
def sameV : VVal → VVal → Bool
  | .mk k y c e t l, .mk k' y' c' e' t' l' => decide (k = k') && (y == y') && decide (c = c' ∧ e = e') && (t.toList == t'.toList) && sameVs l l'
def sameVs : List VVal → List VVal → Bool
  | [], [] => true
  | x :: r, y :: s => sameV x y && sameVs r s
  | _, _ => false
end
theorem text_inj {a b : ByteArray} (h : a.toList = b.toList) : a = b := by
  have h1 : ∀ x : ByteArray, x = bstr x.data.toList := fun x => by cases x; simp [bstr]
  rw [h1 a, h1 b, bstr_toList, bstr_toList] at h
  rw [h1 a, h1 b, h]
mutual
theorem sameV_iff : ∀ a b : VVal, sameV a b = true ↔ a = b
  | .mk k y c e t l, .mk k' y' c' e' t' l' => by
    rw [sameV]
    simp only [Bool.and_eq_true, decide_eq_true_eq, beq_iff_eq, sameVs_iff l l', VVal.mk.injEq]
    constructor
    · rintro ⟨⟨⟨⟨h1, h2⟩, h3, h4⟩, h5⟩, h6⟩
      exact ⟨h1, h2, h3, h4, text_inj h5, h6⟩
    · rintro ⟨h1, h2, h3, h4, h5, h6⟩
      exact ⟨⟨⟨⟨h1, h2⟩, h3, h4⟩, by rw [h5]⟩, h6⟩
theorem sameVs_iff : ∀ a b : List VVal, sameVs a b = true ↔ a = b
  | [], [] => by simp [sameVs]
  | x :: r, y :: s => by
    rw [sameVs, Bool.and_eq_true, sameV_iff x y, sameVs_iff r s]
    simp
  | [], _ :: _ => by simp [sameVs]
  | _ :: _, [] => by simp [sameVs]
end
theorem eqV_eq (k : Int) (y : Bool) (c e : Int) (t : ByteArray) (l : List VVal) (k' : Int) (y' : Bool) (c' e' : Int) (t' : ByteArray) (l' : List VVal) : eqV (.mk k y c e t l) (.mk k' y' c' e' t' l') =
    if k = k' then (if k = 2 then tB (y == y') else if k = 3 then tB (decide (c = c' ∧ e = e')) else if k = 4 then tB (t.toList == t'.toList) else if k = 5 then (if l.length = l'.length then eqVs l l' 1 else -1) else 1)
    else if k = 1 ∨ k' = 1 then -1 else 0 := by rw [eqV]
def okV : VVal → Prop
  | .mk k _ _ _ _ l => (k = 1 ∨ k = 2 ∨ k = 3 ∨ k = 4 ∨ k = 5) ∧ (k = 5 → l.length ≤ 200 ∧ ∀ v ∈ l, okV v)
theorem okV_eq (k : Int) (y : Bool) (c e : Int) (t : ByteArray) (l : List VVal) : okV (.mk k y c e t l) ↔ (k = 1 ∨ k = 2 ∨ k = 3 ∨ k = 4 ∨ k = 5) ∧ (k = 5 → l.length ≤ 200 ∧ ∀ v ∈ l, okV v) := by rw [okV]
def tk (n : Int) : Int := if n = 0 then 1 else 2
def ty (n : Int) : Bool := if n = 0 then false else decide (n > 0)
theorem toldV_eq (n : Int) : toldV n = .mk (tk n) (ty n) 0 0 ⟨#[]⟩ [] := by
  unfold toldV tk ty
  split <;> rfl
theorem told_tB (b : Bool) : toldV (tB b) = .mk 2 b 0 0 ⟨#[]⟩ [] := by cases b <;> rfl
def truthV : VVal → Int
  | .mk k y _ _ _ _ => if k = 2 then (if y = true then 1 else -1) else 0
def rng (n : Int) : Prop := n = -1 ∨ n = 0 ∨ n = 1
theorem truth_told {n : Int} (h : rng n) : truthV (.mk (tk n) (ty n) 0 0 ⟨#[]⟩ []) = n := by
  rcases h with rfl | rfl | rfl <;> rfl
theorem rng_min {a b : Int} (ha : rng a) (hb : rng b) : rng (min a b) := by unfold rng at *; omega
theorem rng_tB (b : Bool) : rng (tB b) := by cases b <;> simp [rng, tB]
mutual
theorem eqV_rng : ∀ a b : VVal, rng (eqV a b)
  | .mk k y c e t l, .mk k' y' c' e' t' l' => by
    rw [eqV_eq]
    have h1 := rng_tB (y == y')
    have h2 := rng_tB (decide (c = c' ∧ e = e'))
    have h3 := rng_tB (t.toList == t'.toList)
    have h4 := eqVs_rng l l' 1 (by simp [rng])
    split
    · split
      · exact h1
      · split
        · exact h2
        · split
          · exact h3
          · split
            · split
              · exact h4
              · simp [rng]
            · simp [rng]
    · split <;> simp [rng]
theorem eqVs_rng : ∀ (a b : List VVal) (n : Int), rng n → rng (eqVs a b n)
  | x :: r, y :: s, n, h => by rw [eqVs]; exact eqVs_rng r s _ (rng_min h (eqV_rng x y))
  | [], [], n, h => h
  | [], _ :: _, n, h => h
  | _ :: _, [], n, h => h
end
end Go.Pure


/- What is wrong with a value: counted, looked through. -/
namespace Go.Pure
open Go

def wrongD (c e : Int) : Int := if 999999999999999999 < c ∨ c < -999999999999999999 ∨ 40 < e ∨ e < -40 then 3 else if c = 0 ∧ e ≠ 0 then 2 else if c ≠ 0 ∧ c.tmod 10 = 0 then 2 else 0
section
variable (V : ByteArray → Bool)
mutual
def lookV : VVal → Nat → Nat → Nat × Int
  | .mk k _ c e t l, n, d => if 2000 < n + 1 ∨ 20 < d then (n + 1, 4) else if k = 1 ∨ k = 2 then (n + 1, 0) else if k = 3 then (n + 1, wrongD c e)
    else if k = 4 then (n + 1, if 1000 < t.size then 4 else if V t = true then 0 else 2) else if k = 5 then (if 200 < l.length then (n + 1, 5) else lookVs l (n + 1) (d + 1)) else (n + 1, 1)
def lookVs : List VVal → Nat → Nat → Nat × Int
  | [], n, _ => (n, 0)
  | v :: r, n, d => if (lookV v n d).2 = 0 then lookVs r (lookV v n d).1 d else lookV v n d
end
variable {V}
theorem lookV_eq (k : Int) (y : Bool) (c e : Int) (t : ByteArray) (l : List VVal) (n d : Nat) : lookV V (.mk k y c e t l) n d = if 2000 < n + 1 ∨ 20 < d then (n + 1, 4) else if k = 1 ∨ k = 2 then (n + 1, 0) else if k = 3 then (n + 1, wrongD c e)
    else if k = 4 then (n + 1, if 1000 < t.size then 4 else if V t = true then 0 else 2) else if k = 5 then (if 200 < l.length then (n + 1, 5) else lookVs V l (n + 1) (d + 1)) else (n + 1, 1) := by rw [lookV]
mutual
theorem lookV_ok : ∀ (v : VVal) (n d : Nat), (lookV V v n d).2 = 0 → okV v ∧ (lookV V v n d).1 ≤ 2000
  | .mk k y c e t l, n, d, h => by
    rw [lookV_eq] at h ⊢
    rw [okV_eq]
    by_cases h1 : 2000 < n + 1 ∨ 20 < d
    · rw [if_pos h1] at h; cases h
    · rw [if_neg h1] at h ⊢
      by_cases h2 : k = 1 ∨ k = 2
      · rw [if_pos h2] at h ⊢
        exact ⟨⟨by omega, by omega⟩, by simp only; omega⟩
      · rw [if_neg h2] at h ⊢
        by_cases h3 : k = 3
        · rw [if_pos h3] at h ⊢
          exact ⟨⟨by omega, by omega⟩, by simp only; omega⟩
        · rw [if_neg h3] at h ⊢
          by_cases h4 : k = 4
          · rw [if_pos h4] at h ⊢
            exact ⟨⟨by omega, by omega⟩, by simp only; omega⟩
          · rw [if_neg h4] at h ⊢
            by_cases h5 : k = 5
            · rw [if_pos h5] at h ⊢
              by_cases h6 : 200 < l.length
              · rw [if_pos h6] at h; cases h
              · rw [if_neg h6] at h ⊢
                obtain ⟨q1, q2⟩ := lookVs_ok l (n + 1) (d + 1) (by omega) h
                exact ⟨⟨by omega, fun _ => ⟨by omega, q1⟩⟩, q2⟩
            · rw [if_neg h5] at h; cases h
theorem lookVs_ok : ∀ (l : List VVal) (n d : Nat), n ≤ 2000 → (lookVs V l n d).2 = 0 → (∀ v ∈ l, okV v) ∧ (lookVs V l n d).1 ≤ 2000
  | [], n, d, hn, h => ⟨by simp, hn⟩
  | v :: r, n, d, hn, h => by
    rw [lookVs] at h ⊢
    by_cases h1 : (lookV V v n d).2 = 0
    · rw [if_pos h1] at h ⊢
      obtain ⟨q1, q2⟩ := lookV_ok v n d h1
      obtain ⟨q3, q4⟩ := lookVs_ok r _ d q2 h
      refine ⟨fun x hx => ?_, q4⟩
      rcases List.mem_cons.1 hx with rfl | hx
      · exact q1
      · exact q3 x hx
    · rw [if_neg h1] at h; exact absurd h h1
end
end
theorem gsz_mk {k : Int} {y : Bool} {c e : Int} {t : ByteArray} {l : List VVal} (ht : t.size ≤ maxLen) (hl : l.length ≤ maxLen) (h : ∀ v ∈ l, gsz v.g) : gsz (VVal.mk k y c e t l).g := by
  simp only [VVal.g, gsz, gszs, VVal.gs_eq, List.length_map, true_and, and_true]
  refine ⟨ht, hl, gszs_iff.2 fun x hx => ?_⟩
  obtain ⟨v, hv, rfl⟩ := List.mem_map.1 hx
  exact h v hv
end Go.Pure


namespace Go.Pure
def cmpI (a b : Int) : Int := if a < b then -1 else if b < a then 1 else 0
theorem cmpI_scale {a b k : Int} (hk : 0 < k) : cmpI (a * k) (b * k) = cmpI a b := by
  have h1 : ∀ x y : Int, x * k < y * k ↔ x < y := fun x y => ⟨fun h => Int.lt_of_mul_lt_mul_right h (Int.le_of_lt hk), fun h => Int.mul_lt_mul_of_pos_right h hk⟩
  unfold cmpI
  simp only [h1]

def decN (c e : Int) : Int := c * 10 ^ (e + 40).toNat
def decU (c e m : Int) : Int := c * ((10 ^ (e - m).toNat : Nat) : Int)
theorem decN_units {c e m : Int} (h : -40 ≤ m) (hm : m ≤ e) : decN c e = decU c e m * 10 ^ (m + 40).toNat := by
  unfold decN decU
  rw [Int.mul_assoc, Int.natCast_pow, show ((10 : Nat) : Int) = 10 from rfl, ← Int.pow_add, show (e - m).toNat + (m + 40).toNat = (e + 40).toNat by omega]
def cmpD (c e d f : Int) : Int := cmpI (decU c e (min e f)) (decU d f (min e f))
theorem ten_pos (k : Nat) : (0 : Int) < 10 ^ k := Int.pow_pos (by decide)
theorem cmpD_eq {c e d f : Int} (he : -40 ≤ e) (hf : -40 ≤ f) : cmpD c e d f = cmpI (decN c e) (decN d f) := by
  unfold cmpD
  rw [decN_units (m := min e f) (c := c) (e := e) (by omega) (by omega), decN_units (m := min e f) (c := d) (e := f) (by omega) (by omega), cmpI_scale (ten_pos _)]
theorem wrongD_ok {c e : Int} (h : wrongD c e = 0) : (-999999999999999999 ≤ c ∧ c ≤ 999999999999999999 ∧ -40 ≤ e ∧ e ≤ 40) ∧ (c = 0 → e = 0) ∧ (c ≠ 0 → c.tmod 10 ≠ 0) := by
  unfold wrongD at h
  split at h
  · cases h
  · split at h
    · cases h
    · split at h
      · cases h
      · refine ⟨by omega, fun h0 => ?_, fun h0 => ?_⟩
        · rename_i h1 _
          exact Classical.byContradiction fun h2 => h1 ⟨h0, h2⟩
        · rename_i h2
          exact fun h3 => h2 ⟨h0, h3⟩
/-! Texts -/
def lessV : VVal → VVal → Int
  | .mk k _ c e t _, .mk k' _ c' e' t' _ => if k = 3 ∧ k' = 3 then (if wrongD c e ≠ 0 ∨ wrongD c' e' ≠ 0 then 0 else tB (decide (cmpD c e c' e' < 0))) else if k = 4 ∧ k' = 4 then tB (Op.bytesLess t.toList t'.toList) else 0
theorem lessV_eq (k : Int) (y : Bool) (c e : Int) (t : ByteArray) (l : List VVal) (k' : Int) (y' : Bool) (c' e' : Int) (t' : ByteArray) (l' : List VVal) : lessV (.mk k y c e t l) (.mk k' y' c' e' t' l') =
    if k = 3 ∧ k' = 3 then (if wrongD c e ≠ 0 ∨ wrongD c' e' ≠ 0 then 0 else tB (decide (cmpD c e c' e' < 0))) else if k = 4 ∧ k' = 4 then tB (Op.bytesLess t.toList t'.toList) else 0 := rfl
theorem lessV_rng (a b : VVal) : lessV a b = 0 ∨ lessV a b = 1 ∨ lessV a b = -1 := by
  obtain ⟨k, y, c, e, t, l⟩ := a
  obtain ⟨k', y', c', e', t', l'⟩ := b
  have h : ∀ b : Bool, tB b = 0 ∨ tB b = 1 ∨ tB b = -1 := by intro b; cases b <;> decide
  rw [lessV_eq]
  by_cases h1 : k = 3 ∧ k' = 3
  · rw [if_pos h1]
    by_cases h2 : wrongD c e ≠ 0 ∨ wrongD c' e' ≠ 0
    · exact .inl (by rw [if_pos h2])
    · rw [if_neg h2]; exact h _
  · rw [if_neg h1]
    by_cases h2 : k = 4 ∧ k' = 4
    · rw [if_pos h2]; exact h _
    · exact .inl (by rw [if_neg h2])
theorem lookV_num {V : ByteArray → Bool} {y : Bool} {c e : Int} {t : ByteArray} {l : List VVal} (h : (lookV V (.mk 3 y c e t l) 0 1).2 = 0) : wrongD c e = 0 := by
  rw [lookV_eq] at h
  simpa using h
end Go.Pure


/- Ratios in lowest terms; a decimal number as a ratio; which of two is less. -/
namespace Go.Pure
open Go

def qI (x : Int) (g : Nat) : Int := if x < 0 then -((x.natAbs / g : Nat) : Int) else ((x.natAbs / g : Nat) : Int)
theorem qI_abs (x : Int) (g : Nat) : (qI x g).natAbs = x.natAbs / g := by
  unfold qI
  generalize x.natAbs / g = q
  split <;> omega
theorem qI_mul {x : Int} {g : Nat} (h : g ∣ x.natAbs) : qI x g * (g : Int) = x := by
  have h1 : x.natAbs / g * g = x.natAbs := Nat.div_mul_cancel h
  have h2 : ((x.natAbs / g : Nat) : Int) * (g : Int) = (x.natAbs : Int) := by rw [← Int.natCast_mul, h1]
  unfold qI
  split
  · rw [Int.neg_mul, h2]; omega
  · rw [h2]; omega
theorem qI_neg {x : Int} {g : Nat} (h : g ∣ x.natAbs) (hg : 0 < g) : decide (qI x g < 0) = decide (x < 0) := by
  by_cases hx : x < 0
  · rw [decide_eq_true hx]
    refine decide_eq_true ?_
    have h1 : 0 < x.natAbs / g := Nat.div_pos (Nat.le_of_dvd (by omega) h) hg
    unfold qI
    rw [if_pos hx]
    generalize x.natAbs / g = q at *
    omega
  · rw [decide_eq_false hx]
    refine decide_eq_false ?_
    unfold qI
    rw [if_neg hx]
    generalize x.natAbs / g = q
    omega
def gI (x : Int) (y : Nat) : Nat := Nat.gcd x.natAbs y
theorem gI_left (x : Int) (y : Nat) : gI x y ∣ x.natAbs := Nat.gcd_dvd_left _ _
theorem gI_right (x : Int) (y : Nat) : gI x y ∣ y := Nat.gcd_dvd_right _ _
theorem gI_pos (x : Int) {y : Nat} (h : 0 < y) : 0 < gI x y := Nat.gcd_pos_of_pos_right _ h
theorem gI_one (x : Int) : gI x 1 = 1 := Nat.gcd_one_right _
def topD (c e : Int) : Int := c * 10 ^ e.toNat
def botD (e : Int) : Nat := 10 ^ (-e).toNat
theorem botD_pos (e : Int) : 0 < botD e := Nat.pow_pos (by decide)
theorem top_bot {c e : Int} (h : -40 ≤ e) : topD c e * 10 ^ 40 = decN c e * (botD e : Int) := by
  unfold topD botD decN
  rw [Int.natCast_pow, show ((10 : Nat) : Int) = 10 from rfl, Int.mul_assoc, Int.mul_assoc, ← Int.pow_add, ← Int.pow_add]
  congr 2
  omega
def cmpQ (a : Int) (b : Nat) (x : Int) (y : Nat) : Int := if b = y then cmpI a x else cmpI (a * (y : Int)) (x * (b : Int))
theorem cmpQ_eq {a x : Int} {b y : Nat} (hb : 0 < b) : cmpQ a b x y = cmpI (a * (y : Int)) (x * (b : Int)) := by
  unfold cmpQ
  split
  · rename_i h
    subst h
    rw [cmpI_scale (by omega)]
  · rfl
theorem cmpQ_dec {c e d f : Int} (he : -40 ≤ e) (hf : -40 ≤ f) :
    cmpQ (qI (topD c e) (gI (topD c e) (botD e))) (botD e / gI (topD c e) (botD e)) (qI (topD d f) (gI (topD d f) (botD f))) (botD f / gI (topD d f) (botD f)) = cmpI (decN c e) (decN d f) := by
  have p1 := gI_pos (topD c e) (botD_pos e)
  have p2 := gI_pos (topD d f) (botD_pos f)
  have l1 := qI_mul (gI_left (topD c e) (botD e))
  have l2 := qI_mul (gI_left (topD d f) (botD f))
  have r1 := Nat.div_mul_cancel (gI_right (topD c e) (botD e))
  have r2 := Nat.div_mul_cancel (gI_right (topD d f) (botD f))
  have q1 : 0 < botD e / gI (topD c e) (botD e) := Nat.div_pos (Nat.le_of_dvd (botD_pos e) (gI_right _ _)) p1
  have t1 := top_bot (c := c) he
  have t2 := top_bot (c := d) hf
  have bp1 := botD_pos e
  have bp2 := botD_pos f
  rw [cmpQ_eq q1]
  generalize qI (topD c e) (gI (topD c e) (botD e)) = a at *
  generalize qI (topD d f) (gI (topD d f) (botD f)) = x at *
  generalize botD e / gI (topD c e) (botD e) = b at *
  generalize botD f / gI (topD d f) (botD f) = y at *
  generalize gI (topD c e) (botD e) = g at *
  generalize gI (topD d f) (botD f) = h at *
  generalize topD c e = N at *
  generalize topD d f = M at *
  generalize botD e = D at *
  generalize botD f = E at *
  generalize decN c e = u at *
  generalize decN d f = v at *
  subst l1 l2 r1 r2
  have k1 : (0 : Int) < ((g * h : Nat) : Int) := by have := Nat.mul_pos p1 p2; omega
  have k2 : (0 : Int) < (10 : Int) ^ 40 := Int.pow_pos (by decide)
  have k3 : (0 : Int) < (((b * g) * (y * h) : Nat) : Int) := by have := Nat.mul_pos bp1 bp2; omega
  rw [← cmpI_scale (a := a * (y : Int)) k1, ← cmpI_scale (a := a * (y : Int) * ((g * h : Nat) : Int)) k2, ← cmpI_scale (a := u) (b := v) k3]
  have e1 : a * (y : Int) * ((g * h : Nat) : Int) * 10 ^ 40 = u * (((b * g) * (y * h) : Nat) : Int) := by
    have : a * (y : Int) * ((g * h : Nat) : Int) * 10 ^ 40 = (a * (g : Int) * 10 ^ 40) * ((y * h : Nat) : Int) := by
      push_cast
      simp only [Int.mul_assoc, Int.mul_comm, Int.mul_left_comm]
    rw [this, t1]
    push_cast
    simp only [Int.mul_assoc]
  have e2 : x * (b : Int) * ((g * h : Nat) : Int) * 10 ^ 40 = v * (((b * g) * (y * h) : Nat) : Int) := by
    have : x * (b : Int) * ((g * h : Nat) : Int) * 10 ^ 40 = (x * (h : Int) * 10 ^ 40) * ((b * g : Nat) : Int) := by
      push_cast
      simp only [Int.mul_assoc, Int.mul_comm, Int.mul_left_comm]
    rw [this, t2]
    push_cast
    simp only [Int.mul_assoc, Int.mul_comm, Int.mul_left_comm]
  rw [e1, e2]
end Go.Pure

