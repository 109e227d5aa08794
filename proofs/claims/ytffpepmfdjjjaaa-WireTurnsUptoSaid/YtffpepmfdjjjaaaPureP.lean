/- A generic layer: from a law's contract to what its row asks. -/
import Derived.Test.YtffpepmfdjjjaaaPureO
namespace Go.Pure
open Go Go.ChangeShapes Go.WideShapes Go.RowKit

section
variable {H : Type} {enc : TypeId × Value → H} {P : Program} {w : World}

theorem GCs.uncell {g : GV} {v : Value} (h : GCs w [g] [v]) : RG w (fun _ _ => True) g v := (h.2 0 g v rfl rfl).1

/-- An argument, as a ground value. -/
theorem rv_param {set : List Nat} (hset : plainB P set = true) {t : TypeId} (hmem : t ∈ set) {r : Reach} {b0 : Nat} {v : Value} {d : DataW H} {ps : List MemPlace} {spare : Nat → Bool} {held : Bool} {base : Nat}
    (hval : Value.okWide P w r b0 t v) (hd : DataW.Trod enc P w base spare held t v d ps) : ∃ g, DG d g ∧ GT P t g ∧ RG w (fun _ _ => True) g v := by
  obtain ⟨fuel, hf⟩ := hd
  obtain ⟨g, h1, h2, h3, h4⟩ := trod_g hset fuel t _ _ hmem hf
  refine ⟨g, h1, h2, ?_⟩
  cases h2 with
  | int _ k n hu hw => obtain ⟨m, rfl⟩ := okWide_int hu hval; exact h3.uncell
  | bool _ b hu => obtain ⟨m, rfl⟩ := okWide_bool hu hval; exact h3.uncell
  | str _ s hu hs =>
    have : ∃ s', v = .string s' := by
      simp only [Value.okWide, hu, Cell.okWide] at hval
      cases v <;> simp_all [Cell.ok]
    obtain ⟨s', rfl⟩ := this
    exact h3.uncell
  | sl _ e es hu hl he =>
    have : ∃ a n m, v = .slice a n m := by
      simp only [Value.okWide, hu, Cell.okWide] at hval
      cases v <;> simp_all [Cell.ok]
    obtain ⟨a, n, m, rfl⟩ := this
    exact h3.uncell
  | agg _ fs xs hu hl hx =>
    obtain ⟨cs, rfl, _⟩ := okWide_struct hu hval
    refine .agg _ cs (by simpa [GV.cells, Value.cells] using h3.1) (fun v hv => ?_) (fun i g v hg hv => ?_)
    · obtain ⟨i, hi⟩ := List.getElem?_of_mem hv
      have hlt := (List.getElem?_eq_some_iff.1 hi).1
      have h5 : i < (GV.agg (xs.flatMap GV.cells)).cells.length := by rw [h3.1]; exact hlt
      exact (h3.2 i _ v (List.getElem?_eq_getElem h5) hi).2
    · exact (h3.2 i g v hg (by simpa [Value.cells] using hv)).1

theorem rvs_params {set : List Nat} (hset : plainB P set = true) {r : Reach} {b0 : Nat} {spare : Nat → Bool} {held : Bool} {base : Nat} : ∀ (ts : List TypeId) (vs : List Value) (ds : List (DataW H)) (ps : List MemPlace),
    (∀ t ∈ ts, t ∈ set) → (∀ (j : Nat) t v, ts[j]? = some t → vs[j]? = some v → Value.okWide P w r b0 t v) → DataW.TrodAll enc P w base spare held ts vs ds ps →
    ∃ gs : List GV, gs.length = vs.length ∧ gs.length = ts.length ∧ gs.length = ds.length ∧ (∀ (i : Nat) (d : DataW H) (g : GV), ds[i]? = some d → gs[i]? = some g → DG d g) ∧
      (∀ (i : Nat) (t : TypeId) (g : GV), ts[i]? = some t → gs[i]? = some g → GT P t g) ∧ (∀ (i : Nat) (g : GV) (v : Value), gs[i]? = some g → vs[i]? = some v → RG w (fun _ _ => True) g v)
  | [], vs, ds, ps, _, _, h => by
    obtain ⟨rfl, rfl, rfl⟩ := trodAll_nil h
    exact ⟨[], by simp⟩
  | t :: ts, vs, ds, ps, hm, hv, h => by
    obtain ⟨v, vs1, d, ds1, a, b, rfl, rfl, rfl, h1, h2⟩ := trodAll_cons h
    obtain ⟨gs, e1, e2, e3, e4, e5, e6⟩ := rvs_params hset ts vs1 ds1 b (fun t ht => hm t (by simp [ht])) (fun j t v ht hv' => hv (j + 1) t v (by simpa using ht) (by simpa using hv')) h2
    obtain ⟨g, g1, g2, g3⟩ := rv_param hset (hm t (by simp)) (hv 0 t v rfl rfl) h1
    refine ⟨g :: gs, by simp [e1], by simp [e2], by simp [e3], ?_, ?_, ?_⟩
    · intro i x y hx hy
      cases i with
      | zero => simp at hx hy; subst hx; subst hy; exact g1
      | succ i => exact e4 i x y (by simpa using hx) (by simpa using hy)
    · intro i x y hx hy
      cases i with
      | zero => simp at hx hy; subst hx; subst hy; exact g2
      | succ i => exact e5 i x y (by simpa using hx) (by simpa using hy)
    · intro i x y hx hy
      cases i with
      | zero => simp at hx hy; subst hx; subst hy; exact g3
      | succ i => exact e6 i x y (by simpa using hx) (by simpa using hy)

theorem trodAll_stays (hl : laidOutB P = true) {W W' : World} {sp : Nat → Bool} : ∀ (ts : List TypeId) (vs : List Value) (ds : List (DataW H)) (ps : List MemPlace),
    (∀ t ∈ ts, P.readableRec t = true ∧ t < P.types.size) → (∀ p ∈ ps, W.sameAt W' p) → (∀ p ∈ ps, sp p.block = true) →
    DataW.TrodAll enc P W 0 (fun _ => true) true ts vs ds ps → DataW.TrodAll enc P W' 0 sp true ts vs ds ps
  | [], vs, ds, ps, _, _, _, h => by
    obtain ⟨rfl, rfl, rfl⟩ := trodAll_nil h
    exact h
  | t :: ts, vs, ds, ps, hr, hs, hp, h => by
    obtain ⟨v, vs1, d, ds1, a, b, rfl, rfl, rfl, h1, h2⟩ := trodAll_cons h
    exact ⟨a, b, WideElems.Trod_stays hl (hr t (by simp)).1 (hr t (by simp)).2 h1 (fun p hp' => hs p (by simp [hp'])) (fun p hp' => hp p (by simp [hp'])),
      trodAll_stays hl ts vs1 ds1 b (fun t ht => hr t (by simp [ht])) (fun p hp' => hs p (by simp [hp'])) (fun p hp' => hp p (by simp [hp'])) h2, rfl⟩

/-- What is done to memory, seen from without. -/
theorem Evo.below {w w' : World} {c' : Ctx} (h : Evo ⟨[], [], [], fun _ _ => False, w⟩ c') (hw : c'.w = w') : Below w.heap.size w w' := by
  subst hw
  exact ⟨h.os, h.tape, h.output, h.size, fun k hk => h.frame k hk (by simp) (by simp) (by simp)⟩

theorem rel_nil (P : Program) (w : World) : Rel P ⟨[], [], [], fun _ _ => False, w⟩ ⟨[], [], []⟩ :=
  ⟨rfl, by simp, rfl, by simp, by simp, by simp, by simp, by simp, by simp, by simp, by simp, rfl, by simp, by simp, by simp, by simp, by simp, by simp⟩

/-- FROM A LAW'S CONTRACT TO WHAT ITS ROW ASKS: it returns true, and the arguments read as they did. -/
theorem law_calls {set : List Nat} {f : FuncId} {fn : Func} {s : ChangeSpec} {B : TypeId} (hset : plainB P set = true) (hts : (fn.params.toList.all fun t => set.contains t && (P.readableRec t && decide (t < P.types.size))) = true)
    (hl : laidOutB P = true) (hvars : s.vars = []) (hres : fn.resultTypes = #[B]) (hB : P.underlying B = some .bool)
    (hfn : ∀ ds : List (DataW H), ds.length = fn.params.size → s.fn H ds = { results := [.lit (.bool true)], args := ds, vars := [] })
    (W : World) (base : Nat) (args : Array Value) (ds gs : List (DataW H)) (before : List MemPlace)
    (hval : ∀ (j : Nat) t v, fn.params[j]? = some t → args[j]? = some v → Value.okWide P W .any base t v)
    (hW : DataW.Whole enc P fn.params.toList s.vars false W args.toList ds gs before)
    (hpc : ∀ xs : List GV, xs.length = fn.params.size → xs.length = ds.length → (∀ (i : Nat) (d : DataW H) (g : GV), ds[i]? = some d → xs[i]? = some g → DG d g) →
      (∀ (i : Nat) (t : TypeId) (g : GV), fn.params[i]? = some t → xs[i]? = some g → GT P t g) → PC P f (xs.map .g) ⟨[], [], []⟩ (.g (.bool true)) ⟨[], [], []⟩) :
    Calls P f args W fun e W' => ∃ v, e = .returned v ∧ s.post enc P fn false true false false W args v W' := by
  have hW' := hW
  obtain ⟨p, q, hA, hV, hbe, hfz, hnd⟩ := hW
  rw [hvars] at hV
  obtain ⟨rfl, rfl⟩ := trodVars_none hV
  have hall := List.all_eq_true.1 hts
  have hmem : ∀ t ∈ fn.params.toList, t ∈ set := fun t ht => by have := hall t ht; simp only [Bool.and_eq_true] at this; simpa using this.1
  have hrd : ∀ t ∈ fn.params.toList, P.readableRec t = true ∧ t < P.types.size := fun t ht => by have := hall t ht; simp only [Bool.and_eq_true, decide_eq_true_eq] at this; exact this.2
  obtain ⟨xs, e1, e2, e3, e4, e5, e6⟩ := rvs_params hset fn.params.toList args.toList ds p hmem (fun j t v ht hv => hval j t v (by simpa using ht) (by simpa using hv)) hA
  have hc := hpc xs (by simpa using e2) e3 e4 (fun i t g ht hg => e5 i t g (by simpa using ht) hg) ⟨[], [], [], fun _ _ => False, W⟩ args (rel_nil P W)
    ⟨by simpa using e1, fun i pv v hp hv => by
      simp only [List.getElem?_map, Option.map_eq_some_iff] at hp
      obtain ⟨g, hg, rfl⟩ := hp
      refine .g _ _ ((e6 i g v hg (by simpa using hv)).mono ?_)
      intro a v _ _ hcell
      exact ⟨hcell, by simp [Ctx.stab]⟩⟩
  refine hc.mono fun e W1 ⟨rv, c', he, hw, hr, hE, hv⟩ => ?_
  subst he
  have hb : Below W.heap.size W W1 := hE.below hw
  cases hv with
  | g x v hx =>
  cases hx
  have hlt : ∀ x ∈ before, x.block < W.heap.size := fun x hx => hW'.lt x hx
  have hpb : p = before := by rw [hbe]; simp
  subst hpb
  refine ⟨_, rfl, ds, [], p, [], p, [], hW', ?_, ?_, ?_, Below.frame hb _, fun h => by cases h⟩
  · rw [hres, List.append_nil, hfn ds (by rw [← e3]; simpa using e2)]
    exact ⟨[], [], shut_bool hB _, rfl, rfl⟩
  · rw [List.append_nil, hfn ds (by rw [← e3]; simpa using e2)]
    exact trodAll_stays hl _ _ _ _ hrd (fun x hx => hb.same (hlt x hx)) (fun x hx => by simpa using hlt x hx) hA
  · rw [hvars, List.append_nil, hfn ds (by rw [← e3]; simpa using e2)]
    rfl
end
end Go.Pure
