/- A generic layer: values without memory, and code over them. -/
import Derived.Test.YtlibajlfojkohaaPureB
import Derived.Laws.MakeOwn
/- A generic layer: slices that are made empty, with room for so many. -/
namespace Go.Pure
open Go

section
variable {P : Program} {o : Oper} {ρ : Operand → PV} {H : PH}

end
end Go.Pure


/- A generic layer: nothing appended to a slice written out. -/
namespace Go.Pure
open Go

section
variable {P : Program} {o : Oper} {ρ : Operand → PV} {H : PH}
end
end Go.Pure


/- A generic layer: maps: made, filled, looked up in. -/
namespace Go.Pure
open Go

section
variable {P : Program} {o : Oper} {ρ : Operand → PV} {H : PH}

theorem PO_makeMap {t : TypeId} (ho : o.op = .makeMap t none) : PO P o ρ H (.mp H.mu.length) ⟨H.bx, H.tk, H.mu ++ [.map []]⟩ := by
  intro c ρr hr hx
  have hrun : (execOp ρr o).run P c.w = .ok (.value (.map (some c.w.heap.size))) (c.w.alloc (.map #[] 0)) := by
    simp [execOp, ho, Instr.makeMap, newObj, Sem.run]
  unfold OpGoes
  rw [hrun]
  have hmok : MOk P ⟨c.σ, c.τ, c.μ ++ [⟨true, c.w.heap.size, 0, 0, 0, 0⟩], c.hid, c.w.alloc (.map #[] 0)⟩ ⟨true, c.w.heap.size, 0, 0, 0, 0⟩ (.map []) :=
    ⟨rfl, rfl, #[], [], List.Perm.refl _, Go.heap_alloc_new c.w _, rfl, fun i k v n h => by simp at h⟩
  obtain ⟨r1, r2⟩ := hr.addMu (Ext.alloc c.w (.map #[] 0)) (t := ⟨true, c.w.heap.size, 0, 0, 0, 0⟩) (o := .map []) (fun _ => ⟨Nat.le_refl _, by simp⟩) hmok
  refine ⟨_, rfl, r1, r2, .mp H.mu.length _ ⟨true, c.w.heap.size, 0, 0, 0, 0⟩ ?_ rfl (fun _ => rfl)⟩
  show (c.μ ++ [_])[H.mu.length]? = _
  rw [← hr.mlen]; simp

theorem PO_insert {t kt et : TypeId} {d : TypeDesc} {m key val : Operand} {id : Nat} {k v : GV} {es : List (GV × GV)} (ho : o.op = .insert t m key val) (ht : P.underlying t = some (.map kt et)) (hkt : P.underlying kt = some d) (hf : keyFit d k = true)
    (e1 : ρ m = .mp id) (e2 : ρ key = .g k) (e3 : ρ val = .g v) (hm : H.mu[id]? = some (.map es)) (hfr : lookAll k es = some none) : PO P o ρ H undefP ⟨H.bx, H.tk, H.mu.set id (.map (es ++ [(k, v)]))⟩ := by
  have h := PO_ins (x := ⟨id, k, v⟩) (P := P) (o := o) (ρ := ρ) (H := H) ⟨t, m, key, val, kt, et, d, ho, ht, hkt, hf, e1, e2, e3⟩ hm hfr
  have : Ins.ap ⟨id, k, v⟩ H = ⟨H.bx, H.tk, H.mu.set id (.map (es ++ [(k, v)]))⟩ := by unfold Ins.ap; rw [hm]
  rwa [this] at h

def zeroG1 : Value → Option GV
  | .int k n => some (.int k n)
  | .bool b => some (.bool b)
  | .string s => some (.str s)
  | .slice none 0 0 => some (.sl [])
  | .nilFunc => some (.raw .nilFunc)
  | _ => none
def zeroGs : List Value → Option (List GV)
  | [] => some []
  | v :: r => match zeroG1 v, zeroGs r with
    | some g, some l => some (g :: l)
    | _, _ => none
def zeroG : Value → Option GV
  | .agg cs => (zeroGs cs.toList).map .agg
  | v => zeroG1 v
theorem zeroG1_ok {v : Value} {g : GV} (h : zeroG1 v = some g) (w : World) (S : Nat → Nat → Prop) : RG w S g v ∧ v.oneCell' = true := by
  unfold zeroG1 at h
  split at h <;> cases h
  · exact ⟨.int _ _, rfl⟩
  · exact ⟨.bool _, rfl⟩
  · exact ⟨.str _, rfl⟩
  · exact ⟨.nil, rfl⟩
  · exact ⟨.raw _, rfl⟩
theorem zeroGs_ok (w : World) (S : Nat → Nat → Prop) : ∀ {vs : List Value} {gs : List GV}, zeroGs vs = some gs → gs.length = vs.length ∧ ∀ (i : Nat) (g : GV) (v : Value), gs[i]? = some g → vs[i]? = some v → RG w S g v ∧ v.oneCell' = true
  | [], gs, h => by cases h; exact ⟨rfl, fun i g v hg => by simp at hg⟩
  | v :: r, gs, h => by
    simp only [zeroGs] at h
    split at h
    · rename_i g l h1 h2
      cases h
      obtain ⟨l1, l2⟩ := zeroGs_ok w S h2
      refine ⟨by simp [l1], fun i g' v' hg hv => ?_⟩
      cases i with
      | zero => simp at hg hv; subst hg; subst hv; exact zeroG1_ok h1 w S
      | succ i => exact l2 i g' v' (by simpa using hg) (by simpa using hv)
    · cases h
theorem zeroG_ok {v : Value} {g : GV} (h : zeroG v = some g) (w : World) (S : Nat → Nat → Prop) : RG w S g v := by
  unfold zeroG at h
  split at h
  · rename_i cs
    rw [Option.map_eq_some_iff] at h
    obtain ⟨gs, h1, rfl⟩ := h
    obtain ⟨l1, l2⟩ := zeroGs_ok w S h1
    refine .agg _ _ (by simpa using l1) (fun u hu => ?_) (fun i g v hg hv => (l2 i g v hg (by simpa using hv)).1)
    obtain ⟨i, hi⟩ := List.getElem?_of_mem hu
    have hlt : i < gs.length := by rw [l1]; exact (List.getElem?_eq_some_iff.1 hi).1
    exact (l2 i gs[i] u (List.getElem?_eq_getElem hlt) hi).2
  · exact (zeroG1_ok h w S).1

/-- What a look-up comes to. -/
def lookV (ok : Bool) (r : Option GV) (z : GV) : PV := match r with
  | some g => bif ok then .tuple [.g g, .g (.bool true)] else .g g
  | none => bif ok then .tuple [.g z, .g (.bool false)] else .g z

theorem PO_lookup {t kt et : TypeId} {d : TypeDesc} {m key : Operand} {ok : Bool} {id : Nat} {k : GV} {es : List (GV × GV)} {r : Option GV} {z : Value} {zg : GV} (ho : o.op = .lookup t m key ok) (ht : P.underlying t = some (.map kt et)) (hkt : P.underlying kt = some d)
    (hz : zeroB P et = some z) (hzg : zeroG z = some zg) (e1 : ρ m = .mp id) (e2 : ρ key = .g k) (hf : keyFit d k = true) (hm : H.mu[id]? = some (.map es)) (hl : lookAll k es = some r) : PO P o ρ H (lookV ok r zg) H :=
  PO_val fun c ρr hr hxx => by
    have x1 := hxx m (by simp [ho, Op.operands])
    have x2 := hxx key (by simp [ho, Op.operands])
    rw [e1] at x1; rw [e2] at x2
    have hid : id < c.μ.length := by rw [hr.mlen]; exact (List.getElem?_eq_some_iff.1 hm).1
    have htk := List.getElem?_eq_getElem hid
    generalize c.μ[id] = tk at htk
    obtain ⟨g0, lv, ents, es', hp, a1, a2, a3⟩ := hr.mu id tk _ htk hm
    generalize hmr : ρr m = mv at x1
    generalize hkr : ρr key = kv at x2
    cases x1 with
    | mp _ _ t' ht' h1 hv =>
    rw [htk] at ht'
    cases ht'
    have hmv := hv g0
    subst hmv
    cases x2 with
    | g _ _ hkv =>
    obtain ⟨f1, f2⟩ := findNow_of hf hkv es' ents.toList 0 (by simp [a2]) (fun j e n he hn => by
      obtain ⟨k1, k2, _⟩ := a3 j e.1 e.2 n he (by simpa using hn); exact ⟨k1, k2⟩)
    rw [← lookAll_perm hp] at f1 f2
    have two : ∀ (g : GV) (v : Value) (b : Bool), RG c.w c.stab g v → RV c (.tuple [.g g, .g (.bool b)]) (.tuple #[v, .bool b]) := fun g v b h => by
      refine .tuple _ _ rfl fun i p u hp hu => ?_
      match i with
      | 0 => simp at hp hu; subst hp; subst hu; exact .g _ _ h
      | 1 => simp at hp hu; subst hp; subst hu; exact .g _ _ (.bool b)
      | i + 2 => simp at hp
    cases r with
    | none =>
      have hfind := f1 hl
      have hzr := zeroG_ok hzg c.w c.stab
      cases ok with
      | true => exact ⟨.tuple #[z, .bool false], by simp [execOp, ho, hmr, hkr, Instr.lookup, Sem.run_bind, run_underlying ht, MapKept.run_getObj_map a1, run_checkKey_fit hkt hf hkv, run_findKey_of hkt hfind, run_zero hz], two _ _ _ hzr⟩
      | false => exact ⟨z, by simp [execOp, ho, hmr, hkr, Instr.lookup, Sem.run_bind, run_underlying ht, MapKept.run_getObj_map a1, run_checkKey_fit hkt hf hkv, run_findKey_of hkt hfind, run_zero hz], .g _ _ hzr⟩
    | some g =>
      obtain ⟨j, val, hfind, hval⟩ := f2 g hl
      cases ok with
      | true => exact ⟨.tuple #[val, .bool true], by simp [execOp, ho, hmr, hkr, Instr.lookup, Sem.run_bind, run_underlying ht, MapKept.run_getObj_map a1, run_checkKey_fit hkt hf hkv, run_findKey_of hkt hfind], two _ _ _ hval⟩
      | false => exact ⟨val, by simp [execOp, ho, hmr, hkr, Instr.lookup, Sem.run_bind, run_underlying ht, MapKept.run_getObj_map a1, run_checkKey_fit hkt hf hkv, run_findKey_of hkt hfind], .g _ _ hval⟩
end

section
variable {P : Program} {K : List Nat} {o : Oper} {env : Env} {H : PH}
end
end Go.Pure


/- The program's plain types as values without memory: values, expressions, tests, columns, rules, tables, commands, trees; what comes in reads as one. -/
namespace Go.Pure
open Go

mutual
/-- How much a ground value holds. -/
def gbulk : GV → Nat
  | .str s => s.size + 1
  | .agg cs => gbulks cs
  | .sl es => gbulks es + 1
  | _ => 1
def gbulks : List GV → Nat
  | [] => 0
  | g :: r => gbulk g + gbulks r
end
/-- A value. -/
inductive VVal where
  | mk (kind : Int) (yes : Bool) (coef exp : Int) (text : ByteArray) (list : List VVal)
mutual
def VVal.g : VVal → GV
  | .mk kind yes coef exp text list => .agg [.int .i64 kind, .bool yes, .int .i64 coef, .int .i64 exp, .str text, .sl (VVal.gs list)]
def VVal.gs : List VVal → List GV
  | [] => []
  | v :: r => v.g :: VVal.gs r
end
/-- An expression. -/
inductive VExpr where
  | mk (kind : Int) (val : VVal) (name : ByteArray) (kids : List VExpr)
mutual
def VExpr.g : VExpr → GV
  | .mk kind val name kids => .agg (.int .i64 kind :: (val.g.cells ++ [.str name, .sl (VExpr.gs kids)]))
def VExpr.gs : List VExpr → List GV
  | [] => []
  | v :: r => v.g :: VExpr.gs r
end
/-- A test. -/
inductive VTest where
  | mk (kind : Int) (a b : VVal) (openA openB : Bool) (kids : List VTest)
mutual
def VTest.g : VTest → GV
  | .mk kind a b openA openB kids => .agg (.int .i64 kind :: (a.g.cells ++ (b.g.cells ++ [.bool openA, .bool openB, .sl (VTest.gs kids)])))
def VTest.gs : List VTest → List GV
  | [] => []
  | v :: r => v.g :: VTest.gs r
end
/-- A column. -/
inductive VCol where
  | mk (name : ByteArray) (kind : Int) (order : List VVal)
def VCol.g : VCol → GV
  | .mk name kind order => .agg [.str name, .int .i64 kind, .sl (VVal.gs order)]
def VCol.gs (l : List VCol) : List GV := l.map VCol.g
/-- A rule. -/
inductive VRule where
  | mk (tests : List VTest) (outs : List VExpr)
def VRule.g : VRule → GV
  | .mk tests outs => .agg [.sl (VTest.gs tests), .sl (VExpr.gs outs)]
def VRule.gs (l : List VRule) : List GV := l.map VRule.g
/-- A table. -/
inductive VTable where
  | mk (name : ByteArray) (policy : Int) (ins outs : List VCol) (rules : List VRule)
def VTable.g : VTable → GV
  | .mk name policy ins outs rules => .agg [.str name, .int .i64 policy, .sl (VCol.gs ins), .sl (VCol.gs outs), .sl (VRule.gs rules)]
/-- A command. -/
inductive VCmd where
  | mk (session seq kind : Int) (table : VTable) (name : ByteArray) (to : Int)
def VCmd.g : VCmd → GV
  | .mk session seq kind table name to => .agg ([.int .i64 session, .int .i64 seq, .int .i64 kind] ++ table.g.cells ++ [.str name, .int .i64 to])
def VCmd.gs (l : List VCmd) : List GV := l.map VCmd.g

theorem VVal.gs_eq : ∀ l, VVal.gs l = l.map VVal.g
  | [] => rfl
  | v :: r => by simp [VVal.gs, VVal.gs_eq r]
theorem VExpr.gs_eq : ∀ l, VExpr.gs l = l.map VExpr.g
  | [] => rfl
  | v :: r => by simp [VExpr.gs, VExpr.gs_eq r]
theorem VTest.gs_eq : ∀ l, VTest.gs l = l.map VTest.g
  | [] => rfl
  | v :: r => by simp [VTest.gs, VTest.gs_eq r]
theorem VVal.cells (v : VVal) : v.g.cells.length = 6 := by cases v; rfl
theorem VExpr.cells (v : VExpr) : v.g.cells.length = 9 := by
  obtain ⟨k, v, n, l⟩ := v; simp [VExpr.g, GV.cells]; have := VVal.cells v; simp [GV.cells] at this; omega
theorem VTest.cells (v : VTest) : v.g.cells.length = 16 := by
  obtain ⟨k, a, b, _, _, l⟩ := v; simp [VTest.g, GV.cells]; have := VVal.cells a; have := VVal.cells b; simp [GV.cells] at *; omega
theorem VCol.cells (v : VCol) : v.g.cells.length = 3 := by cases v; rfl
theorem VRule.cells (v : VRule) : v.g.cells.length = 2 := by cases v; rfl
theorem VTable.cells (v : VTable) : v.g.cells.length = 5 := by cases v; rfl
theorem VCmd.cells (v : VCmd) : v.g.cells.length = 10 := by obtain ⟨_, _, _, ⟨_, _, _, _, _⟩, _, _⟩ := v; rfl

theorem VVal.one (v : VVal) : 1 ≤ gbulk v.g := by cases v; simp [VVal.g, gbulk, gbulks] <;> try omega
theorem VExpr.one (v : VExpr) : 1 ≤ gbulk v.g := by cases v; simp [VExpr.g, gbulk, gbulks] <;> try omega
theorem VTest.one (v : VTest) : 1 ≤ gbulk v.g := by cases v; simp [VTest.g, gbulk, gbulks] <;> try omega
theorem VCol.one (v : VCol) : 1 ≤ gbulk v.g := by cases v; simp [VCol.g, gbulk, gbulks] <;> try omega
theorem VRule.one (v : VRule) : 1 ≤ gbulk v.g := by cases v; simp [VRule.g, gbulk, gbulks] <;> try omega
theorem VTable.one (v : VTable) : 1 ≤ gbulk v.g := by cases v; simp [VTable.g, gbulk, gbulks] <;> try omega
theorem VCmd.one (v : VCmd) : 1 ≤ gbulk v.g := by cases v; simp [VCmd.g, gbulk, gbulks] <;> try omega
theorem map_get {α : Type} {f : α → GV} {l : List α} {i : Nat} (h : i < l.length) : (l.map f)[((i : Int)).toNat]? = some (f l[i]) := by simp [h]
theorem map_take {α β : Type} {f : α → β} {l : List α} {i : Nat} (h : i < l.length) : (l.take (i + 1)).map f = (l.take i).map f ++ [f l[i]] := by
  rw [List.take_succ_eq_append_getElem h, List.map_append]; rfl

/-! ### What comes in -/
def GTs (P : Program) : List TypeId → List GV → Prop
  | [], [] => True
  | t :: ts, x :: xs => GT P t x ∧ GTs P ts xs
  | _, _ => False
theorem gts_of {P : Program} : ∀ (ts : List TypeId) (xs : List GV), xs.length = ts.length → (∀ (i : Nat) (t : TypeId) (x : GV), ts[i]? = some t → xs[i]? = some x → GT P t x) → GTs P ts xs
  | [], [], _, _ => trivial
  | [], _ :: _, h, _ => by simp at h
  | _ :: _, [], h, _ => by simp at h
  | t :: ts, x :: xs, hl, h => ⟨h 0 t x rfl rfl, gts_of ts xs (by simpa using hl) fun i t x ht hx => h (i + 1) t x (by simpa using ht) (by simpa using hx)⟩
def StructT (P : Program) (t : TypeId) (ts : List TypeId) : Prop := ∃ fs, P.underlying t = some (.struct fs) ∧ fs.toList.map (·.type) = ts
theorem StructT.inv {P : Program} {t : TypeId} {ts : List TypeId} {g : GV} (hu : StructT P t ts) (h : GT P t g) : ∃ xs : List GV, g = .agg (xs.flatMap GV.cells) ∧ GTs P ts xs := by
  obtain ⟨fs, hu, rfl⟩ := hu
  obtain ⟨xs, rfl, hl, hx⟩ := GT.agg_inv hu h
  refine ⟨xs, rfl, gts_of _ _ (by simpa using hl) fun i t x ht hx' => ?_⟩
  simp only [List.getElem?_map, Array.getElem?_toList, Option.map_eq_some_iff] at ht
  obtain ⟨f, hf, rfl⟩ := ht
  exact hx i f x hf hx'
theorem GTs.one {P : Program} {t : TypeId} {ts : List TypeId} {xs : List GV} (h : GTs P (t :: ts) xs) : ∃ x r, xs = x :: r ∧ GT P t x ∧ GTs P ts r := by
  cases xs with
  | nil => exact h.elim
  | cons x r => exact ⟨x, r, rfl, h.1, h.2⟩
theorem GTs.nil {P : Program} {xs : List GV} (h : GTs P [] xs) : xs = [] := by
  cases xs with
  | nil => rfl
  | cons x r => exact h.elim

theorem sizeOf_le_flat : ∀ (xs : List GV) (x : GV), x ∈ xs → SizeOf.sizeOf x ≤ SizeOf.sizeOf (GV.agg (xs.flatMap GV.cells))
  | y :: xs, x, h => by
    rcases List.mem_cons.1 h with rfl | h
    · have key : ∀ a b : List GV, SizeOf.sizeOf a ≤ SizeOf.sizeOf (a ++ b) := by
        intro a b
        induction a with
        | nil => cases b <;> simp <;> try omega
        | cons z a ih => simp; exact ih
      have := key x.cells (xs.flatMap GV.cells)
      simp only [List.flatMap_cons, GV.agg.sizeOf_spec]
      cases x <;> simp [GV.cells] at * <;> omega
    · have := sizeOf_le_flat xs x h
      have key : ∀ a b : List GV, SizeOf.sizeOf b ≤ SizeOf.sizeOf (a ++ b) := by
        intro a b
        induction a with
        | nil => simp
        | cons z a ih => simp; omega
      have := key y.cells (xs.flatMap GV.cells)
      simp only [List.flatMap_cons, GV.agg.sizeOf_spec] at *
      omega

/-- A list that comes in: each of its elements reads as something. -/
theorem list_inv {P : Program} {e : TypeId} {α : Type} (f : α → GV) : ∀ (es : List GV), (∀ x ∈ es, GT P e x) → (∀ x ∈ es, GT P e x → ∃ a, x = f a) → ∃ l : List α, es = l.map f
  | [], _, _ => ⟨[], rfl⟩
  | x :: es, h, k => by
    obtain ⟨l, rfl⟩ := list_inv f es (fun y hy => h y (List.mem_cons_of_mem _ hy)) fun y hy => k y (List.mem_cons_of_mem _ hy)
    obtain ⟨a, rfl⟩ := k x (by simp) (h x (by simp))
    exact ⟨a :: l, rfl⟩
theorem size_mem {es : List GV} {x : GV} (h : x ∈ es) : SizeOf.sizeOf x < SizeOf.sizeOf (GV.sl es) := by
  have := List.sizeOf_lt_of_mem h
  simp
  omega

section
variable {P : Program} {ti tj tb ts TV TD LV TE LE TT LT TC LC TR LR TB TM : TypeId}
theorem val_inv (hi : P.underlying ti = some (.int .i64)) (hj : P.underlying tj = some (.int .i64)) (hb : P.underlying tb = some .bool) (hs : P.underlying ts = some .string)
    (hV : StructT P TV [ti, tb, TD, ts, LV]) (hD : StructT P TD [tj, ti]) (hL : P.underlying LV = some (.slice TV)) : ∀ (m : Nat) (g : GV), SizeOf.sizeOf g ≤ m → GT P TV g → ∃ v : VVal, g = v.g
  | 0, g, hm, _ => by cases g <;> simp at hm
  | m + 1, g, hm, h => by
    obtain ⟨xs, rfl, hx⟩ := hV.inv h
    obtain ⟨a, xs, rfl, ha, hx⟩ := hx.one
    obtain ⟨b, xs, rfl, hb', hx⟩ := hx.one
    obtain ⟨c, xs, rfl, hc, hx⟩ := hx.one
    obtain ⟨d, xs, rfl, hd, hx⟩ := hx.one
    obtain ⟨e, xs, rfl, he, hx⟩ := hx.one
    obtain rfl := hx.nil
    have hsz := sizeOf_le_flat [a, b, c, d, e] e (by simp)
    obtain ⟨kind, rfl, _⟩ := GT.int_inv hi ha
    obtain ⟨yes, rfl⟩ := GT.bool_inv hb hb'
    obtain ⟨ys, rfl, hy⟩ := hD.inv hc
    obtain ⟨a, ys, rfl, ha, hy⟩ := hy.one
    obtain ⟨b, ys, rfl, hb', hy⟩ := hy.one
    obtain rfl := hy.nil
    obtain ⟨coef, rfl, _⟩ := GT.int_inv hj ha
    obtain ⟨exp, rfl, _⟩ := GT.int_inv hi hb'
    obtain ⟨text, rfl, _⟩ := GT.str_inv hs hd
    obtain ⟨es, rfl, _, hl⟩ := GT.sl_inv hL he
    obtain ⟨l, rfl⟩ := list_inv VVal.g es hl fun x hx hg => val_inv hi hj hb hs hV hD hL m x (by have := size_mem hx; omega) hg
    exact ⟨.mk kind yes coef exp text l, by simp [VVal.g, VVal.gs_eq, GV.cells]⟩
end
end Go.Pure


/- Numbers that come in are numbers of their kinds. -/
namespace Go.Pure
open Go

end Go.Pure


/- The program's types (of values) as values without memory; which of them are right, and how such a one is told by a number and a letter. -/
namespace Go.Pure
open Go

/-- A type. -/
inductive VTy where
  | mk (kind : Int) (elem : List VTy)
mutual
def VTy.g : VTy → GV
  | .mk kind elem => .agg [.int .i64 kind, .sl (VTy.gs elem)]
def VTy.gs : List VTy → List GV
  | [] => []
  | v :: r => v.g :: VTy.gs r
end
theorem VTy.gs_eq : ∀ l, VTy.gs l = l.map VTy.g
  | [] => rfl
  | v :: r => by simp [VTy.gs, VTy.gs_eq r]
theorem VTy.cells (v : VTy) : v.g.cells.length = 2 := by cases v; rfl

/-- A right type: so many lists, and what is in them. -/
def tyL : Nat → Int → VTy
  | 0, b => .mk b []
  | n + 1, b => .mk 5 [tyL n b]
/-- What is wrong with a type, when it is so deep already. -/
def wrongT : Nat → VTy → Int
  | n, .mk k es => if 10 < n then 4 else if k < 1 ∨ 6 < k then 1 else if k = 5 then (match es with | [e] => wrongT (n + 1) e | _ => 5) else (if es = [] then 0 else 5)
theorem wrongT_eq (n : Nat) (k : Int) (es : List VTy) : wrongT n (.mk k es) = if 10 < n then 4 else if k < 1 ∨ 6 < k then 1 else if k = 5 then (match es with | [e] => wrongT (n + 1) e | _ => 5) else (if es = [] then 0 else 5) := wrongT.eq_def n (.mk k es)
def baseK (b : Int) : Prop := b = 1 ∨ b = 2 ∨ b = 3 ∨ b = 4 ∨ b = 6
theorem wrongT_ok : ∀ (t : VTy) (n : Nat), wrongT n t = 0 → ∃ m b, n + m ≤ 10 ∧ baseK b ∧ t = tyL m b := by
  intro t
  induction t using VTy.rec (motive_2 := fun l => ∀ e ∈ l, ∀ n, wrongT n e = 0 → ∃ m b, n + m ≤ 10 ∧ baseK b ∧ e = tyL m b) with
  | mk k es ih =>
    intro n h
    rw [wrongT.eq_def] at h
    simp only at h
    split at h
    · cases h
    · rename_i h1
      split at h
      · cases h
      · rename_i h2
        split at h
        · rename_i h3
          subst h3
          split at h
          · rename_i e
            obtain ⟨m, b, h4, h5, h6⟩ := ih e (by simp) (n + 1) h
            exact ⟨m + 1, b, by omega, h5, by rw [h6]; rfl⟩
          · cases h
        · split at h
          · rename_i h4
            subst h4
            exact ⟨0, k, by omega, by unfold baseK; omega, rfl⟩
          · cases h
  | nil => rename_i e hm n h; cases hm
  | cons e l h1 h2 =>
    rename_i x hx n h
    rcases List.mem_cons.1 hx with rfl | hx
    · exact h1 n h
    · exact h2 x hx n h

/-! ### Fitting, joining: of so many lists of something -/
def fitsT : Nat → Int → Nat → Int → Bool
  | m, b, n, c => if (m = 0 ∧ b = 1) ∨ (n = 0 ∧ c = 6) then true else match m, n with
    | 0, 0 => decide (b = c)
    | m + 1, n + 1 => fitsT m b n c
    | _, _ => false
theorem fitsT_eq (m : Nat) (b : Int) (n : Nat) (c : Int) : fitsT m b n c = if (m = 0 ∧ b = 1) ∨ (n = 0 ∧ c = 6) then true else match m, n with
    | 0, 0 => decide (b = c)
    | m + 1, n + 1 => fitsT m b n c
    | _, _ => false := fitsT.eq_def m b n c
def joinT : Nat → Int → Nat → Int → Nat × Int
  | m, b, n, c => if fitsT m b n c = true then (n, c) else if fitsT n c m b = true then (m, b) else match m, n with
    | m + 1, n + 1 => ((joinT m b n c).1 + 1, (joinT m b n c).2)
    | _, _ => (0, 6)
theorem fits_refl : ∀ (n : Nat) (b : Int), fitsT n b n b = true
  | 0, b => by rw [fitsT.eq_def]; split <;> simp
  | n + 1, b => by rw [fitsT.eq_def]; simp [fits_refl n b]
theorem joinT_eq (m : Nat) (b : Int) (n : Nat) (c : Int) : joinT m b n c = if fitsT m b n c = true then (n, c) else if fitsT n c m b = true then (m, b) else match m, n with
    | m + 1, n + 1 => ((joinT m b n c).1 + 1, (joinT m b n c).2)
    | _, _ => (0, 6) := joinT.eq_def m b n c
theorem joinT_l {m n : Nat} {b c : Int} (h : fitsT m b n c = true) : joinT m b n c = (n, c) := by rw [joinT_eq, if_pos h]
theorem joinT_r {m n : Nat} {b c : Int} (h1 : fitsT m b n c = false) (h : fitsT n c m b = true) : joinT m b n c = (m, b) := by rw [joinT_eq, if_neg (by simp [h1]), if_pos h]
theorem joinT_z {n : Nat} {b c : Int} (h1 : fitsT 0 b n c = false) (h : fitsT n c 0 b = false) : joinT 0 b n c = (0, 6) := by rw [joinT_eq, if_neg (by simp [h1]), if_neg (by simp [h])]
theorem joinT_z' {m : Nat} {b c : Int} (h1 : fitsT m b 0 c = false) (h : fitsT 0 c m b = false) : joinT m b 0 c = (0, 6) := by
  rw [joinT_eq, if_neg (by simp [h1]), if_neg (by simp [h])]; cases m <;> rfl
theorem joinT_s {m n : Nat} {b c : Int} (h1 : fitsT (m + 1) b (n + 1) c = false) (h : fitsT (n + 1) c (m + 1) b = false) : joinT (m + 1) b (n + 1) c = ((joinT m b n c).1 + 1, (joinT m b n c).2) := by
  rw [joinT_eq, if_neg (by simp [h1]), if_neg (by simp [h])]
theorem join_base {b c : Int} (hb : baseK b) (hc : baseK c) : ∀ (m n : Nat), baseK (joinT m b n c).2 ∧ (joinT m b n c).1 ≤ m + n := by
  intro m
  induction m with
  | zero =>
    intro n
    cases h1 : fitsT 0 b n c with
    | true => rw [joinT_l h1]; exact ⟨hc, by simp⟩
    | false => cases h2 : fitsT n c 0 b with
      | true => rw [joinT_r h1 h2]; exact ⟨hb, by simp⟩
      | false => rw [joinT_z h1 h2]; simp [baseK]
  | succ m ih =>
    intro n
    cases h1 : fitsT (m + 1) b n c with
    | true => rw [joinT_l h1]; exact ⟨hc, by simp⟩
    | false => cases h2 : fitsT n c (m + 1) b with
      | true => rw [joinT_r h1 h2]; exact ⟨hb, by simp⟩
      | false => cases n with
        | zero => rw [joinT_z' h1 h2]; simp [baseK]
        | succ n =>
          have h := ih n
          rw [joinT_s h1 h2]
          exact ⟨h.1, by simp only; omega⟩

/-! ### The letters of a type -/
def letter (b : Int) : UInt8 := if b = 1 then 122 else if b = 2 then 98 else if b = 3 then 110 else if b = 4 then 116 else 97
def codeL : Nat → Int → List UInt8
  | 0, b => [letter b]
  | n + 1, b => 76 :: codeL n b
def bstr (l : List UInt8) : ByteArray := ⟨l.toArray⟩
theorem letter_inj {b c : Int} (hb : baseK b) (hc : baseK c) (h : letter b = letter c) : b = c := by
  rcases hb with rfl | rfl | rfl | rfl | rfl <;> rcases hc with rfl | rfl | rfl | rfl | rfl <;> first | rfl | (exfalso; revert h; decide)
theorem letter_noL {b : Int} (hb : baseK b) : letter b ≠ 76 := by
  rcases hb with rfl | rfl | rfl | rfl | rfl <;> decide
theorem codeL_inj {b c : Int} (hb : baseK b) (hc : baseK c) : ∀ {m n : Nat}, codeL m b = codeL n c → m = n ∧ b = c
  | 0, 0, h => ⟨rfl, letter_inj hb hc (by simpa [codeL] using h)⟩
  | 0, n + 1, h => by simp only [codeL, List.cons.injEq] at h; exact absurd h.1 (letter_noL hb)
  | m + 1, 0, h => by simp only [codeL, List.cons.injEq] at h; exact absurd h.1.symm (letter_noL hc)
  | m + 1, n + 1, h => by
    simp only [codeL, List.cons.injEq, true_and] at h
    obtain ⟨h1, h2⟩ := codeL_inj hb hc h
    exact ⟨by omega, h2⟩
theorem codeL_len : ∀ (n : Nat) (b : Int), (codeL n b).length = n + 1
  | 0, _ => rfl
  | n + 1, b => by simp [codeL, codeL_len n b]

theorem bstr_toList (l : List UInt8) : (bstr l).toList = l := by simp [bstr]
theorem bstr_cat (a b : List UInt8) : bstr a ++ bstr b = bstr (a ++ b) := by
  apply ByteArray.ext; simp [bstr, ByteArray.data_append]
theorem bstr_size (a : List UInt8) : (bstr a).size = a.length := by simp [bstr, ByteArray.size]
theorem bstr_tail (x : UInt8) (a : List UInt8) : (bstr (x :: a)).extract 1 (bstr (x :: a)).size = bstr a := by
  apply ByteArray.ext; simp [bstr, ByteArray.data_extract, ByteArray.size]
theorem bstr_head (x : UInt8) (a : List UInt8) : (bstr (x :: a))[((0 : Int)).toNat]? = some x := by
  show (bstr (x :: a))[0]? = some x
  rw [getElem?_def, dif_pos (by rw [bstr_size]; simp)]
  rfl
theorem letter_nat {b : Int} (hb : baseK b) : ((letter b).toNat : Int) ≠ 76 := by
  rcases hb with rfl | rfl | rfl | rfl | rfl <;> decide
theorem code_is {b : Int} (hb : baseK b) (n : Nat) {k : Int} (hk : baseK k) : ((bstr (codeL n b)).toList == (bstr (codeL 0 k)).toList) = decide (n = 0 ∧ b = k) := by
  rw [bstr_toList, bstr_toList]
  by_cases h : codeL n b = codeL 0 k
  · obtain ⟨h1, h2⟩ := codeL_inj hb hk h
    rw [decide_eq_true ⟨h1, h2⟩, h]; simp
  · rw [decide_eq_false fun ⟨h1, h2⟩ => h (by rw [h1, h2])]; simp [h]
theorem code_eq {b c : Int} (hb : baseK b) (hc : baseK c) (m n : Nat) : ((bstr (codeL m b)).toList == (bstr (codeL n c)).toList) = decide (m = n ∧ b = c) := by
  rw [bstr_toList, bstr_toList]
  by_cases h : codeL m b = codeL n c
  · obtain ⟨h1, h2⟩ := codeL_inj hb hc h
    rw [decide_eq_true ⟨h1, h2⟩, h]; simp
  · rw [decide_eq_false fun ⟨h1, h2⟩ => h (by rw [h1, h2])]; simp [h]
theorem code_tail (n : Nat) (b : Int) : (bstr (codeL (n + 1) b)).extract 1 (bstr (codeL (n + 1) b)).size = bstr (codeL n b) := bstr_tail 76 (codeL n b)
theorem code_head (n : Nat) (b : Int) : (bstr (codeL n b))[((0 : Int)).toNat]? = some (if n = 0 then letter b else 76) := by
  cases n with
  | zero => exact bstr_head _ _
  | succ n => rw [if_neg (by omega)]; exact bstr_head _ _

/-! ### Which values a type has; its name -/
mutual
def hasT : VVal → Nat → Int → Bool
  | .mk kind _ _ _ _ list, n, b =>
    if kind = 1 ∨ (n = 0 ∧ b = 6) then true
    else if kind = 2 then decide (n = 0 ∧ b = 2) else if kind = 3 then decide (n = 0 ∧ b = 3) else if kind = 4 then decide (n = 0 ∧ b = 4)
    else if kind = 5 then (match n with | 0 => false | n + 1 => hasTs list n b) else false
def hasTs : List VVal → Nat → Int → Bool
  | [], _, _ => true
  | v :: r, n, b => hasT v n b && hasTs r n b
end
def nameL : Nat → Int → List UInt8
  | 0, b => if b = 1 then [110, 117, 108, 108] else if b = 2 then [98, 111, 111, 108, 101, 97, 110] else if b = 3 then [110, 117, 109, 98, 101, 114] else if b = 4 then [116, 101, 120, 116] else [97, 110, 121]
  | n + 1, b => [108, 105, 115, 116, 32, 111, 102, 32] ++ nameL n b
theorem nameL_len : ∀ (n : Nat) (b : Int), (nameL n b).length ≤ 8 * n + 7
  | 0, b => by unfold nameL; split; simp; split; simp; split; simp; split <;> simp
  | n + 1, b => by have := nameL_len n b; simp only [nameL, List.length_append, List.length_cons, List.length_nil]; omega
end Go.Pure

