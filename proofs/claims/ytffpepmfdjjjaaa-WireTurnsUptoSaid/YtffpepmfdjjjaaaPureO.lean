/- A generic layer: what a law's arguments read as; from a law's contract to its row. -/
import Derived.Test.YtffpepmfdjjjaaaPureN
import Derived.ProofKit
import Derived.OpenVars
import Derived.JoinedCond
namespace Go.Pure
open Go Go.ChangeShapes Go.WideShapes Go.RowKit

/-- What a type's values are like. -/
inductive GT (P : Program) : TypeId → GV → Prop where
  | int (t : TypeId) (k : IntKind) (n : Int) (h : P.underlying t = some (.int k)) (hw : (Lit.int k n).wf = true) : GT P t (.int k n)
  | bool (t : TypeId) (b : Bool) (h : P.underlying t = some .bool) : GT P t (.bool b)
  | str (t : TypeId) (s : ByteArray) (h : P.underlying t = some .string) (hs : s.size ≤ maxLen) : GT P t (.str s)
  | sl (t e : TypeId) (es : List GV) (h : P.underlying t = some (.slice e)) (hl : es.length ≤ maxLen) (he : ∀ x ∈ es, GT P e x) : GT P t (.sl es)
  | agg (t : TypeId) (fs : Array Field) (xs : List GV) (h : P.underlying t = some (.struct fs)) (hl : xs.length = fs.size) (hx : ∀ (i : Nat) (f : Field) (x : GV), fs[i]? = some f → xs[i]? = some x → GT P f.type x) :
      GT P t (.agg (xs.flatMap GV.cells))

/-- A datum against a ground value. -/
inductive DG {H : Type} : DataW H → GV → Prop where
  | int (k : IntKind) (n : Int) : DG (.lit (.int k n)) (.int k n)
  | bool (b : Bool) : DG (.lit (.bool b)) (.bool b)
  | str (s : ByteArray) : DG (.lit (.string s.data.toList)) (.str s)
  | nil : DG .nil (.sl [])
  | sl (ds sp : List (DataW H)) (es : List GV) (hl : ds.length = es.length) (h : ∀ (i : Nat) (d : DataW H) (x : GV), ds[i]? = some d → es[i]? = some x → DG d x) : DG (.slice ds sp) (.sl es)
  | agg (ds : List (DataW H)) (xs : List GV) (hl : ds.length = xs.length) (h : ∀ (i : Nat) (d : DataW H) (x : GV), ds[i]? = some d → xs[i]? = some x → DG d x) : DG (.agg ds) (.agg (xs.flatMap GV.cells))

def tiles (P : Program) : List Field → Nat → Option Nat
  | [], n => some n
  | f :: r, n => bif f.offset == n then tiles P r (n + P.cellsOf f.type) else none

def plainB (P : Program) (set : List Nat) : Bool := set.all fun t =>
  match P.underlying t with
  | some (.int _) | some .bool | some .string => P.cellsOf t == 1
  | some (.slice e) => P.cellsOf t == 1 && (set.contains e && Nat.ble 1 (P.cellsOf e))
  | some (.struct fs) => tiles P fs.toList 0 == some (P.cellsOf t) && fs.toList.all fun f => set.contains f.type
  | _ => false

/-- Cells against cells, ground. -/
def GCs (w : World) (gs : List GV) (vs : List Value) : Prop :=
  gs.length = vs.length ∧ ∀ (i : Nat) (g : GV) (v : Value), gs[i]? = some g → vs[i]? = some v → RG w (fun _ _ => True) g v ∧ v.oneCell' = true

theorem GCs.append {w : World} {a b : List GV} {us vs : List Value} (h1 : GCs w a us) (h2 : GCs w b vs) : GCs w (a ++ b) (us ++ vs) := by
  refine ⟨by simp [h1.1, h2.1], fun i g v hg hv => ?_⟩
  by_cases hi : i < a.length
  · rw [List.getElem?_append_left hi] at hg
    rw [List.getElem?_append_left (by rw [← h1.1]; exact hi)] at hv
    exact h1.2 i g v hg hv
  · rw [List.getElem?_append_right (by omega)] at hg
    rw [List.getElem?_append_right (by rw [← h1.1]; omega), ← h1.1] at hv
    exact h2.2 _ g v hg hv

theorem GCs.one {w : World} {g : GV} {v : Value} (h : RG w (fun _ _ => True) g v) (h1 : v.oneCell' = true) : GCs w [g] [v] := by
  refine ⟨rfl, fun i g' v' hg hv => ?_⟩
  cases i with
  | zero => simp at hg hv; subst hg; subst hv; exact ⟨h, h1⟩
  | succ i => simp at hg

section
variable {H : Type} {enc : TypeId × Value → H} {P : Program} {w : World} {base : Nat} {spare : Nat → Bool} {held : Bool}

theorem addr_addAdd (a : Addr) (m n : Nat) : (a.add m).add n = a.add (m + n) := by
  unfold Addr.add
  split
  · subst_vars; simp
  · split
    · subst_vars; simp_all
    · simp_all [Nat.add_assoc]

theorem choose_lt' {α : Type} [Inhabited α] {n : Nat} {Q : Nat → α → Prop} (h : ∀ i, i < n → ∃ x, Q i x) : ∃ F : Nat → α, ∀ i, i < n → Q i (F i) := by
  refine ⟨fun i => if hi : i < n then Classical.choose (h i hi) else default, fun i hi => ?_⟩
  simp only [hi, dif_pos]
  exact Classical.choose_spec (h i hi)

/-- A struct's cells, field by field. -/
theorem tiled {cs : List Value} {m : Nat} (hcs : cs.length = m) : ∀ (l : List Field) (n0 : Nat) (xs : List (DataW H × List MemPlace)), tiles P l n0 = some m → xs.length = l.length →
    (∀ (i : Nat) (f : Field) (x : DataW H × List MemPlace), l[i]? = some f → xs[i]? = some x → ∃ g, DG x.1 g ∧ GT P f.type g ∧ GCs w g.cells ((cs.drop f.offset).take (P.cellsOf f.type)) ∧ ((cs.drop f.offset).take (P.cellsOf f.type)).length = P.cellsOf f.type) →
    ∃ gs : List GV, gs.length = l.length ∧ (∀ (i : Nat) (d : DataW H) (x : GV), (xs.map (·.1))[i]? = some d → gs[i]? = some x → DG d x) ∧
      (∀ (i : Nat) (f : Field) (x : GV), l[i]? = some f → gs[i]? = some x → GT P f.type x) ∧ GCs w (gs.flatMap GV.cells) (cs.drop n0)
  | [], n0, xs, ht, hl, _ => by
    simp only [tiles, Option.some.injEq] at ht
    refine ⟨[], rfl, by simp, by simp, ?_⟩
    rw [List.drop_eq_nil_of_le (by omega)]
    exact ⟨rfl, by simp⟩
  | f :: r, n0, [], ht, hl, _ => by simp at hl
  | f :: r, n0, x :: xs, ht, hl, h => by
    simp only [tiles] at ht
    cases hb : f.offset == n0 with
    | false => rw [hb] at ht; cases ht
    | true =>
      rw [hb] at ht
      have hoff : f.offset = n0 := by simpa using hb
      obtain ⟨gs, e1, e2, e3, e4⟩ := tiled hcs r _ xs ht (by simpa using hl) (fun i f' x' h1 h2 => h (i + 1) f' x' (by simpa using h1) (by simpa using h2))
      obtain ⟨g, g1, g2, g3, g4⟩ := h 0 f x rfl rfl
      refine ⟨g :: gs, by simp [e1], ?_, ?_, ?_⟩
      · intro i d y hd hy
        cases i with
        | zero => simp at hd hy; subst hd; subst hy; exact g1
        | succ i => exact e2 i d y (by simpa using hd) (by simpa using hy)
      · intro i f' y hd hy
        cases i with
        | zero => simp at hd hy; subst hd; subst hy; exact g2
        | succ i => exact e3 i f' y (by simpa using hd) (by simpa using hy)
      · rw [hoff] at g3
        have := g3.append e4
        rw [← List.drop_drop, List.take_append_drop] at this
        simpa using this

theorem trod_g {set : List Nat} (hset : plainB P set = true) : ∀ (fuel : Nat) (t : TypeId) (cs : List Value) (x : DataW H × List MemPlace), t ∈ set → DataW.trod enc P w base spare held fuel t cs = some x →
    ∃ g, DG x.1 g ∧ GT P t g ∧ GCs w g.cells cs ∧ cs.length = P.cellsOf t
  | 0, t, cs, x, _, h => by simp [DataW.trod] at h
  | fuel + 1, t, cs, x, hmem, h => by
    have hp := List.all_eq_true.1 hset t hmem
    cases hu : P.underlying t with
    | none => rw [hu] at hp; cases hp
    | some d =>
      rw [hu] at hp
      cases d with
      | int k =>
        obtain ⟨n, rfl, rfl, hw⟩ := DataW.trod_int hu h
        exact ⟨.int k n, .int k n, .int t k n hu hw, GCs.one (.int k n) rfl, by simpa using (beq_iff_eq.1 hp).symm⟩
      | bool =>
        obtain ⟨b, rfl, rfl⟩ := DataW.trod_bool hu h
        exact ⟨.bool b, .bool b, .bool t b hu, GCs.one (.bool b) rfl, by simpa using (beq_iff_eq.1 hp).symm⟩
      | string =>
        obtain ⟨s, rfl, rfl, hs⟩ := DataW.trod_string hu h
        exact ⟨.str s, .str s, .str t s hu hs, GCs.one (.str s) rfl, by simpa using (beq_iff_eq.1 hp).symm⟩
      | slice e =>
        simp only [Bool.and_eq_true] at hp
        have he : e ∈ set := by simpa using hp.2.1
        have hpos : 0 < P.cellsOf e := Nat.le_of_ble_eq_true hp.2.2
        rcases DataW.trod_slice hu h with ⟨rfl, rfl⟩ | ⟨a, len, cap, elems, rest, n, hn, rfl, rfl, hb, hl, hm, hlen, hel, _, _⟩
        · exact ⟨.sl [], .nil, .sl t e [] hu (by simp) (by simp), GCs.one .nil rfl, by simpa using (beq_iff_eq.1 hp.1).symm⟩
        · obtain rfl : fuel = n := by omega
          -- each element
          have hE : ∀ i, i < len → ∃ (g : GV) (y : DataW H × List MemPlace) (cs' : List Value), elems[i]? = some y ∧ w.cells? base (a.add (i * P.cellsOf e)) (P.cellsOf e) = some cs' ∧ DG y.1 g ∧ GT P e g ∧ GCs w g.cells cs' := by
            intro i hi
            have h1 := hel i hi
            have h2 : elems[i]? = some (elems[i]'(by omega)) := List.getElem?_eq_getElem _
            rw [h2, Option.bind_eq_some_iff] at h1
            obtain ⟨cs', hc, ht⟩ := h1
            obtain ⟨g, g1, g2, g3, _⟩ := trod_g hset fuel e cs' _ he ht
            exact ⟨g, _, cs', h2, hc, g1, g2, g3⟩
          -- as functions of the index
          have hF : ∃ F : Nat → GV, ∀ i, i < len → ∃ (y : DataW H × List MemPlace) (cs' : List Value), elems[i]? = some y ∧ w.cells? base (a.add (i * P.cellsOf e)) (P.cellsOf e) = some cs' ∧ DG y.1 (F i) ∧ GT P e (F i) ∧ GCs w (F i).cells cs' :=
            choose_lt' hE
          obtain ⟨F, hF⟩ := hF
          refine ⟨.sl ((List.range len).map F), ?_, ?_, ?_, by simpa using (beq_iff_eq.1 hp.1).symm⟩
          · refine .sl _ _ _ (by simp [hlen]) fun i d x hd hx => ?_
            simp only [List.getElem?_map, Option.map_eq_some_iff] at hd hx
            obtain ⟨y, hy, rfl⟩ := hd
            obtain ⟨i', hi', rfl⟩ := hx
            obtain ⟨hlt, rfl⟩ := List.getElem?_eq_some_iff.1 hi'
            rw [List.getElem_range]
            have hlt' : i < len := by simpa using hlt
            obtain ⟨y', cs', e1, _, e3, _⟩ := hF i hlt'
            rw [hy] at e1
            cases e1
            exact e3
          · refine .sl t e _ hu (by simp; omega) fun x hx => ?_
            simp only [List.mem_map, List.mem_range] at hx
            obtain ⟨i, hi, rfl⟩ := hx
            obtain ⟨_, _, _, _, _, e4, _⟩ := hF i hi
            exact e4
          · -- the slice itself
            have hcells : ∀ (A : Addr) (n : Nat) (cs' : List Value), w.cells? base A n = some cs' → cs'.length = n ∧ ∀ j (hj : j < n), w.cell? (A.add j) = some (cs'[j]?.getD undef) := by
              intro A n cs' hc
              obtain ⟨_, hcl, hat⟩ := World.cells?_some hc
              refine ⟨hcl, fun j hj => ?_⟩
              have hj' : j < cs'.length := by rw [hcl]; exact hj
              rw [hat j hj, List.getElem?_eq_getElem hj']
              rfl
            have hsz : ∀ i, i < len → (F i).cells.length = P.cellsOf e := by
              intro i hi
              obtain ⟨_, cs', _, e2, _, _, e5⟩ := hF i hi
              rw [e5.1, (hcells _ _ _ e2).1]
            have hspot : 0 < len → a.spot = none := by
              intro h0
              obtain ⟨_, cs', _, e2, _, _, _⟩ := hF 0 h0
              have := (hcells _ _ _ e2).2 0 hpos
              simp only [Nat.zero_mul] at this
              have e3 : (a.add 0).add 0 = a := rfl
              rw [e3] at this
              unfold World.cell? at this
              split at this
              · split at this
                · cases this
                · rename_i hs; cases hsp : a.spot with
                  | none => rfl
                  | some _ => rw [hsp] at hs; simp at hs
              · cases this
            have hone : GCs w [GV.sl ((List.range len).map F)] [Value.slice (some a) len cap] := by
              refine GCs.one ?_ rfl
              have hlen' : ((List.range len).map F).length = len := by simp
              have := RG.sl (w := w) (S := fun _ _ => True) ((List.range len).map F) a cap (P.cellsOf e) (fun k => (w.cell? (a.add k)).getD undef) (fun hne => hspot (Nat.pos_of_ne_zero fun h0 => hne (by rw [h0]; rfl))) (by rw [hlen']; exact hl) hm ?_ ?_ ?_
              · rw [hlen'] at this; exact this
              · intro i x hx
                simp only [List.getElem?_map, Option.map_eq_some_iff] at hx
                obtain ⟨i', hi', rfl⟩ := hx
                obtain ⟨hlt, rfl⟩ := List.getElem?_eq_some_iff.1 hi'
                rw [List.getElem_range]
                exact hsz i (by simpa using hlt)
              · intro k hk
                rw [hlen'] at hk
                have hpos : 0 < P.cellsOf e := Nat.pos_of_ne_zero fun h0 => by rw [h0] at hk; omega
                have hdiv : k / P.cellsOf e < len := Nat.div_lt_of_lt_mul (by rw [Nat.mul_comm]; exact hk)
                have hmod : k % P.cellsOf e < P.cellsOf e := Nat.mod_lt _ hpos
                obtain ⟨y, cs', e1, e2, _, _, e5⟩ := hF _ hdiv
                have e6 := (hcells _ _ _ e2).2 _ hmod
                have e7 : (a.add (k / P.cellsOf e * P.cellsOf e)).add (k % P.cellsOf e) = a.add k := by
                  rw [addr_addAdd]; congr 1; rw [Nat.mul_comm]; exact Nat.div_add_mod k _
                rw [e7] at e6
                refine ⟨by rw [e6]; rfl, trivial, ?_⟩
                rw [e6]
                have hj : k % P.cellsOf e < cs'.length := by rw [(hcells _ _ _ e2).1]; exact hmod
                have hj2 : k % P.cellsOf e < (F (k / P.cellsOf e)).cells.length := by rw [e5.1]; exact hj
                have := (e5.2 _ _ cs'[k % P.cellsOf e] (List.getElem?_eq_getElem hj2) (List.getElem?_eq_getElem hj)).2
                simpa [hj] using this
              · intro i x j g hx hg
                simp only [List.getElem?_map, Option.map_eq_some_iff] at hx
                obtain ⟨i', hi', rfl⟩ := hx
                obtain ⟨hlt, rfl⟩ := List.getElem?_eq_some_iff.1 hi'
                rw [List.getElem_range] at hg
                have hlt' : i < len := by simpa using hlt
                obtain ⟨y, cs', e1, e2, _, _, e5⟩ := hF i hlt'
                have hj : j < P.cellsOf e := by rw [← hsz i hlt']; exact (List.getElem?_eq_some_iff.1 hg).1
                have e6 := (hcells _ _ _ e2).2 j hj
                rw [addr_addAdd] at e6
                show RG w _ g ((w.cell? (a.add (i * P.cellsOf e + j))).getD undef)
                rw [e6]
                have hj' : j < cs'.length := by rw [(hcells _ _ _ e2).1]; exact hj
                have := (e5.2 j g cs'[j] hg (List.getElem?_eq_getElem hj')).1
                simpa [hj'] using this
            exact hone
      | struct fs =>
        simp only [Bool.and_eq_true] at hp
        obtain ⟨xs, n, hn, rfl, hlen, hxl, hf⟩ := DataW.trod_struct hu h
        obtain rfl : fuel = n := by omega
        obtain ⟨gs, e1, e2, e3, e4⟩ := tiled (w := w) (P := P) (cs := cs) hlen fs.toList 0 xs (by simpa using hp.1) (by simpa using hxl) (fun i f x hi hx => by
          have hfi : fs[i]? = some f := by simpa using hi
          have hms : f.type ∈ set := by
            have := List.all_eq_true.1 hp.2 f (List.mem_of_getElem? hi)
            simpa using this
          have h1 := hf i f hfi
          rw [hx] at h1
          obtain ⟨g, g1, g2, g3, g4⟩ := trod_g hset fuel f.type _ _ hms h1
          exact ⟨g, g1, g2, g3, g4⟩)
        refine ⟨.agg (gs.flatMap GV.cells), .agg _ _ (by simp [e1, hxl]) e2, .agg t fs gs hu (by simpa using e1) (fun i f x hi hx => e3 i f x (by simpa using hi) hx), by simpa [GV.cells] using e4, hlen⟩
      | _ => simp at hp
end
end Go.Pure
