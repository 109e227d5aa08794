/- A generic layer: a function's contract out of its body. -/
import Derived.Test.YtffpepmfdjjjaaaPureE
namespace Go.Pure
open Go

/-- A value that names boxes and arrays of small numbers alone. -/
inductive RefsIn (nb nt nm : Nat) : PV → Prop where
  | g (x : GV) : RefsIn nb nt nm (.g x)
  | own (es : List GV) (id : Nat) (h : id < nt) : RefsIn nb nt nm (.own es id)
  | ptr (b off : Nat) (h : b < nb) : RefsIn nb nt nm (.ptr b off)
  | nilp : RefsIn nb nt nm .nilp
  | nils : RefsIn nb nt nm .nils
  | pat (cs : List GV) : RefsIn nb nt nm (.pat cs)
  | clo (fn : Fn) (ps qs : List PV) (h1 : ∀ p ∈ ps, RefsIn nb nt nm p) (h2 : ∀ p ∈ qs, RefsIn nb nt nm p) : RefsIn nb nt nm (.clo fn ps qs)
  | agg (cs : List PV) (h : ∀ p ∈ cs, RefsIn nb nt nm p) : RefsIn nb nt nm (.agg cs)
  | tuple (cs : List PV) (h : ∀ p ∈ cs, RefsIn nb nt nm p) : RefsIn nb nt nm (.tuple cs)
  | mar (id n : Nat) (h : id < nm) : RefsIn nb nt nm (.mar id n)
  | mref (id n i off : Nat) (h : id < nm) : RefsIn nb nt nm (.mref id n i off)
  | mp (id : Nat) (h : id < nm) : RefsIn nb nt nm (.mp id)
  | any : RefsIn nb nt nm .any

/-- What is dropped at a function's end. -/
def Ctx.cut (c : Ctx) (nb nt nm : Nat) : Ctx := ⟨c.σ.take nb, c.τ.take nt, c.μ.take nm, c.hid, c.w⟩

theorem cut_stab {c : Ctx} {nb nt nm b p : Nat} (h : c.stab b p) : (c.cut nb nt nm).stab b p :=
  ⟨h.1, fun hm => h.2.1 (List.mem_of_mem_take hm), fun t ht lv => h.2.2.1 t (List.mem_of_mem_take ht) lv, fun t ht lv => h.2.2.2 t (List.mem_of_mem_take ht) lv⟩

theorem RG.cut {c : Ctx} {nb nt nm : Nat} {g : GV} {v : Value} (h : RG c.w c.stab g v) : RG (c.cut nb nt nm).w (c.cut nb nt nm).stab g v :=
  h.mono fun _ _ _ hs hc => ⟨hc, cut_stab hs⟩

theorem RV.cut {c : Ctx} {nb nt nm : Nat} {p : PV} {v : Value} (h : RV c p v) (hp : RefsIn nb nt nm p) : RV (c.cut nb nt nm) p v := by
  induction h with
  | g x v h => exact .g _ _ h.cut
  | own es id v t h ht hs hl hv =>
    cases hp with
    | own _ _ hid => exact .own es id v t h.cut (by simp only [Ctx.cut]; rw [List.getElem?_take, if_pos hid]; exact ht) hs hl hv
  | ptr b off blk h =>
    cases hp with
    | ptr _ _ hb => exact .ptr _ _ _ (by simp only [Ctx.cut]; rw [List.getElem?_take, if_pos hb]; exact h)
  | nilp => exact .nilp
  | nils => exact .nils
  | pat cs a f ha hf h => exact .pat cs a f ha (fun k hk => ⟨(hf k hk).1, cut_stab (hf k hk).2.1, (hf k hk).2.2⟩) (fun j g hj => (h j g hj).cut)
  | clo fn ps qs us vs hpl hq _ _ h1 h2 =>
    cases hp with
    | clo _ _ _ e1 e2 => exact .clo fn ps qs us vs hpl hq (fun i p v hp' hv => h1 i p v hp' hv (e1 p (List.mem_of_getElem? hp'))) (fun i p v hp' hv => h2 i p v hp' hv (e2 p (List.mem_of_getElem? hp')))
  | agg cs vs hl h1 _ ih =>
    cases hp with
    | agg _ e => exact .agg cs vs hl h1 fun i p v hp' hv => ih i p v hp' hv (e p (List.mem_of_getElem? hp'))
  | tuple cs vs hl _ ih =>
    cases hp with
    | tuple _ e => exact .tuple cs vs hl fun i p v hp' hv => ih i p v hp' hv (e p (List.mem_of_getElem? hp'))
  | mar id n v t ht hn h1 hv =>
    cases hp with
    | mar _ _ hb => exact .mar id n v t (by simp only [Ctx.cut]; rw [List.getElem?_take, if_pos hb]; exact ht) hn h1 hv
  | mref id n i off v t ht hn h1 hv =>
    cases hp with
    | mref _ _ _ _ hb => exact .mref id n i off v t (by simp only [Ctx.cut]; rw [List.getElem?_take, if_pos hb]; exact ht) hn h1 hv
  | mp id v t ht h1 hv =>
    cases hp with
    | mp _ hb => exact .mp id v t (by simp only [Ctx.cut]; rw [List.getElem?_take, if_pos hb]; exact ht) h1 hv
  | any v => exact .any v

section
variable {P : Program}

theorem Rel.cut {c : Ctx} {H H' : PH} (hr : Rel P c H) (h1 : ∃ x, H.bx = H'.bx ++ x) (h2 : ∃ y, H.tk = H'.tk ++ y) (h3 : ∃ z, H.mu = H'.mu ++ z) (hR : ∀ cs ∈ H'.bx, ∀ p ∈ cs, RefsIn H'.bx.length H'.tk.length H'.mu.length p) :
    Rel P (c.cut H'.bx.length H'.tk.length H'.mu.length) H' := by
  obtain ⟨x, hx⟩ := h1
  obtain ⟨y, hy⟩ := h2
  obtain ⟨z, hz⟩ := h3
  have hl := hr.len
  rw [hx] at hl
  have ht := hr.tk
  rw [hy] at ht
  refine ⟨?_, ?_, ?_, fun t ht lv => hr.tb t (List.mem_of_mem_take ht) lv, hr.nd.sublist (List.take_sublist _ _), ?_, fun t ht lv hm => hr.st t (List.mem_of_mem_take ht) lv (List.mem_of_mem_take hm), hr.hidlt, fun t ht lv => hr.thid t (List.mem_of_mem_take ht) lv, fun b hb => hr.shid b (List.mem_of_mem_take hb), fun t ht lv => hr.dead t (List.mem_of_mem_take ht) lv, ?_, ?_, fun t ht lv => hr.mlt t (List.mem_of_mem_take ht) lv, ?_, fun t ht lv hm => hr.ms t (List.mem_of_mem_take ht) lv (List.mem_of_mem_take hm), fun t ht lv t' ht' lv' => hr.mt t (List.mem_of_mem_take ht) lv t' (List.mem_of_mem_take ht') lv', fun t ht lv => hr.mhid t (List.mem_of_mem_take ht) lv⟩
  · simp [Ctx.cut, hl]
  · intro i b cs hb hcs
    simp only [Ctx.cut, List.getElem?_take] at hb
    split at hb
    · rename_i hi
      obtain ⟨vals, T, e1, e2, e3⟩ := hr.bx i b cs hb (by rw [hx, List.getElem?_append_left hi]; exact hcs)
      exact ⟨vals, T, e1, e2, fun j p v hp hv => ⟨(e3 j p v hp hv).1.cut (hR cs (List.mem_of_getElem? hcs) p (List.mem_of_getElem? hp)), (e3 j p v hp hv).2⟩⟩
    · cases hb
  · simp only [Ctx.cut, List.map_take, ht]
    simp
  · intro i j t t' hi hj
    simp only [Ctx.cut, List.getElem?_take] at hi hj
    split at hi
    · split at hj
      · exact hr.td i j t t' hi hj
      · cases hj
    · cases hi
  · have := hr.mlen
    rw [hz] at this
    simp [Ctx.cut, this]
  · intro i t o hi ho
    simp only [Ctx.cut, List.getElem?_take] at hi
    split at hi
    · rename_i hlt
      have := hr.mu i t o hi (by rw [hz, List.getElem?_append_left hlt]; exact ho)
      cases o with
      | gone n => exact this
      | arr n e es =>
        obtain ⟨a1, a2, a3, a4⟩ := this
        refine ⟨a1, a2, a3, a4.imp id ?_⟩
        rintro ⟨lv, cur, b1, b2, b3, b4, b5, b6⟩
        exact ⟨lv, cur, b1, b2, b3, b4, b5, fun i x j g v hx hg hv => ⟨(b6 i x j g v hx hg hv).1.cut, (b6 i x j g v hx hg hv).2⟩⟩
      | map es =>
        obtain ⟨a1, lv, ents, b1, b2, b3⟩ := this
        exact ⟨a1, lv, ents, b1, b2, fun i k v n hk hn => ⟨(b3 i k v n hk hn).1.cut, (b3 i k v n hk hn).2.1.cut, (b3 i k v n hk hn).2.2⟩⟩
    · cases hi
  · intro i j t t' hi hj
    simp only [Ctx.cut, List.getElem?_take] at hi hj
    split at hi
    · split at hj
      · exact hr.md i j t t' hi hj
      · cases hj
    · cases hi

theorem Evo.cut {c0 c : Ctx} (hE : Evo c0 c) {nb nt nm : Nat} (hb : c0.σ.length ≤ nb) (ht : c0.τ.length ≤ nt) (hm : c0.μ.length ≤ nm) : Evo c0 (c.cut nb nt nm) := by
  obtain ⟨n, hn, hn'⟩ := hE.sig
  refine ⟨hE.os, hE.tape, hE.output, hE.size, hE.hid, ⟨n.take (nb - c0.σ.length), ?_, fun b hb' => hn' b (List.mem_of_mem_take hb')⟩, fun id t hid => ?_, fun id t hid => ?_, fun t ht' lv => hE.munew t (List.mem_of_mem_take ht') lv, fun t ht' lv => hE.toknew t (List.mem_of_mem_take ht') lv, fun a v ha hs hc => ⟨(hE.keep a v ha hs hc).1, cut_stab (hE.keep a v ha hs hc).2⟩, hE.frame⟩
  · simp only [Ctx.cut, hn, List.take_append]
    rw [List.take_of_length_le hb]
  · obtain ⟨t', h1, h2⟩ := hE.tok id t hid
    refine ⟨t', ?_, h2⟩
    have := (List.getElem?_eq_some_iff.1 hid).1
    simp only [Ctx.cut]
    rw [List.getElem?_take, if_pos (by omega)]
    exact h1
  · obtain ⟨t', h1, h2⟩ := hE.mu id t hid
    refine ⟨t', ?_, h2⟩
    have := (List.getElem?_eq_some_iff.1 hid).1
    simp only [Ctx.cut]
    rw [List.getElem?_take, if_pos (by omega)]
    exact h1

/-- What a result's place holds. -/
def resV (P : Program) (env : Env) (H : PH) : ResultVar → Option PV
  | .tmp t => some (env t)
  | .cell a t =>
    match env a with
    | .ptr b off =>
      match H.bx[b]? with
      | some cs =>
        match aggB P t with
        | some true => match szB P t with
          | some n => if off + n ≤ cs.length then some (.agg ((cs.drop off).take n)) else none
          | none => none
        | some false => cs[off]?
        | none => none
      | none => none
    | _ => none

def resSem (tmps : Array Value) : ResultVar → Sem Value
  | .tmp t => pure (tmps.getD t undef)
  | .cell x t => do loadVar t (← asAddr (tmps.getD x undef))

theorem resV_ok {c : Ctx} {H : PH} {N : Nat} {env : Env} {a : Act} (hr : Rel P c H) (he : ER c N env a) {r : ResultVar} {p : PV} (h : resV P env H r = some p) :
    ∃ v, (resSem a.tmps r).run P c.w = .ok v c.w ∧ RV c p v := by
  cases r with
  | tmp t =>
    simp only [resV, Option.some.injEq] at h
    subst h
    exact ⟨_, rfl, he.slot t⟩
  | cell x t =>
    simp only [resV] at h
    split at h
    · rename_i b off hb
      have hs := he.slot x
      rw [hb] at hs
      generalize hv : a.tmps.getD x undef = u at hs
      cases hs with
      | ptr _ _ blk hblk =>
        split at h
        · rename_i cs hcs
          obtain ⟨vals, e1, e2, e3⟩ := loadCells_box hr hblk hcs
          split at h
          · rename_i hagg
            split at h
            · rename_i n hn
              split at h
              · rename_i hle
                simp only [Option.some.injEq] at h
                subst h
                have hl := run_loadVar_agg (w := c.w) hagg hn ⟨blk, off, none⟩ (fun j => vals.getD (off + j) undef) (fun j hj => by rw [add_eq _ _ rfl]; exact e2 (off + j) (by omega))
                refine ⟨_, by simp only [resSem, hv, asAddr, Sem.run_bind, Sem.run_pure, Result.andThen_ok, hl]; rfl, .agg _ _ (by simp; omega) ?_ ?_⟩
                · intro v hv
                  simp at hv
                  obtain ⟨j, hj, rfl⟩ := hv
                  have := (e3 (off + j) (cs[off + j]'(by omega)) (by simp)).2
                  simpa [Array.getD_eq_getD_getElem?] using this
                · intro i p v hi hv
                  simp [List.getElem?_take] at hi hv
                  obtain ⟨hlt, hi⟩ := hi
                  obtain ⟨i', h0, rfl⟩ := hv
                  obtain ⟨h0, rfl⟩ := List.getElem?_eq_some_iff.1 h0
                  rw [List.getElem_range]
                  have := (e3 (off + i) p hi).1
                  simpa [Array.getD_eq_getD_getElem?] using this
              · cases h
            · cases h
          · rename_i hagg
            have := e2 off (by rw [e1]; exact (List.getElem?_eq_some_iff.1 h).1)
            exact ⟨_, by simp only [resSem, hv, asAddr, Sem.run_bind, Sem.run_pure, Result.andThen_ok, run_loadVar_one hagg _ _ this], (e3 off p h).1⟩
          · cases h
        · cases h
    · cases h

/-- A function's result, of the values in its results' places. -/
def retV : List PV → PV
  | [p] => p
  | ps => .tuple ps

def resVs (P : Program) (env : Env) (H : PH) : List ResultVar → Option (List PV)
  | [] => some []
  | r :: rs => match resV P env H r, resVs P env H rs with
    | some p, some ps => some (pack p :: ps)
    | _, _ => none

theorem resVs_ok {c : Ctx} {H : PH} {N : Nat} {env : Env} {a : Act} (hr : Rel P c H) (he : ER c N env a) : ∀ {rs : List ResultVar} {ps : List PV}, resVs P env H rs = some ps →
    ∃ vs : List Value, (rs.mapM (resSem a.tmps)).run P c.w = .ok vs c.w ∧ ps.length = vs.length ∧
      ∀ (i : Nat) (p : PV) (v : Value), ps[i]? = some p → vs[i]? = some v → RV c p v
  | [], ps, h => by simp [resVs] at h; subst h; exact ⟨[], by simp, rfl, by simp⟩
  | r :: rs, ps, h => by
    simp only [resVs] at h
    split at h
    · rename_i p ps' h1 h2
      simp only [Option.some.injEq] at h
      subst h
      obtain ⟨v, e1, e2⟩ := resV_ok hr he h1
      obtain ⟨vs, f1, f2, f3⟩ := resVs_ok hr he h2
      refine ⟨v :: vs, ?_, by simp [f2], fun i q u hq hu => ?_⟩
      · simp only [List.mapM_cons, Sem.run_bind, e1, f1, Result.andThen_ok, Sem.run_pure]
      · cases i with
        | zero => simp at hq hu; subst hq; subst hu; exact pack_ok e2
        | succ i => exact f3 i q u (by simpa using hq) (by simpa using hu)
    · cases h

/-- As they are, with their arrays. -/
def resRs (P : Program) (env : Env) (H : PH) : List ResultVar → Option (List PV)
  | [] => some []
  | r :: rs => match resV P env H r, resRs P env H rs with
    | some p, some ps => some (p :: ps)
    | _, _ => none

theorem resRs_ok {c : Ctx} {H : PH} {N : Nat} {env : Env} {a : Act} (hr : Rel P c H) (he : ER c N env a) : ∀ {rs : List ResultVar} {ps : List PV}, resRs P env H rs = some ps →
    ∃ vs : List Value, (rs.mapM (resSem a.tmps)).run P c.w = .ok vs c.w ∧ ps.length = vs.length ∧
      ∀ (i : Nat) (p : PV) (v : Value), ps[i]? = some p → vs[i]? = some v → RV c p v
  | [], ps, h => by simp [resRs] at h; subst h; exact ⟨[], by simp, rfl, by simp⟩
  | r :: rs, ps, h => by
    simp only [resRs] at h
    split at h
    · rename_i p ps' h1 h2
      simp only [Option.some.injEq] at h
      subst h
      obtain ⟨v, e1, e2⟩ := resV_ok hr he h1
      obtain ⟨vs, f1, f2, f3⟩ := resRs_ok hr he h2
      refine ⟨v :: vs, ?_, by simp [f2], fun i q u hq hu => ?_⟩
      · simp only [List.mapM_cons, Sem.run_bind, e1, f1, Result.andThen_ok, Sem.run_pure]
      · cases i with
        | zero => simp at hq hu; subst hq; subst hu; exact e2
        | succ i => exact f3 i q u (by simpa using hq) (by simpa using hu)
    · cases h

/-- How a body must end. -/
def Ret (P : Program) (rs : List ResultVar) (H : PH) (v : PV) (H' : PH) (e : Exit) (env : Env) (H2 : PH) : Prop :=
  (e = .normal ∨ e = .ret) ∧ ∃ ps, (resVs P env H2 rs = some ps ∨ resRs P env H2 rs = some ps) ∧ retV ps = v ∧ (∃ x, H2.bx = H'.bx ++ x) ∧ (∃ y, H2.tk = H'.tk ++ y) ∧ (∃ z, H2.mu = H'.mu ++ z) ∧
    H.bx.length ≤ H'.bx.length ∧ H.tk.length ≤ H'.tk.length ∧ H.mu.length ≤ H'.mu.length ∧ RefsIn H'.bx.length H'.tk.length H'.mu.length v ∧ ∀ cs ∈ H'.bx, ∀ p ∈ cs, RefsIn H'.bx.length H'.tk.length H'.mu.length p

/-- The slots at a function's beginning. -/
def env0 (args : List PV) : Env := fun t => args.getD t undefP

theorem PC_of_PW {f : FuncId} {fn : Func} {code : Code} {N : Nat} {rs : List ResultVar} {args : List PV} {H H' : PH} {v : PV} (hf : P.funcs[f]? = some fn) (hb : fn.body = some code) (hn : fn.ntmps = N)
    (hrs : fn.results = rs.toArray) (hl : args.length ≤ N) (h : PW P N code (Ret P rs H v H') (env0 args) H) : PC P f args H v H' := by
  intro c vs hr ha
  have hsz : vs.size ≤ N := by rw [← ha.1]; exact hl
  refine calls_of_wp hf hb (wp_mono (h c _ hr ?_) ?_)
  · refine ⟨rfl, by simp [hn]; omega, fun t => ?_⟩
    simp only [env0, List.getD, Array.getD_eq_getD_getElem?]
    by_cases ht : t < vs.size
    · have ht' : t < args.length := by rw [ha.1]; exact ht
      rw [Array.getElem?_append_left ht]
      have := ha.2 t args[t] vs[t] (List.getElem?_eq_getElem ht') (Array.getElem?_eq_getElem ht)
      simpa [ht, ht'] using this
    · have ht' : ¬ t < args.length := by rw [ha.1]; exact ht
      rw [List.getElem?_eq_none (by omega), Array.getElem?_append_right (by omega)]
      simp only [Option.getD_none]
      have : ((Array.replicate (fn.ntmps - vs.size) undef)[t - vs.size]?).getD undef = undef := by
        by_cases h2 : t - vs.size < fn.ntmps - vs.size
        · simp [h2]
        · simp [h2]
      rw [this]
      exact .g _ _ (.raw _)
  · rintro e a w' ⟨c', env', H2, ⟨he, ps, h1, h2, h3, h4, h4m, h5, h6, h6m, h7, h8⟩, rfl, hr', hE, he'⟩
    obtain ⟨us, e1, e2, e3⟩ := h1.elim (fun h1 => resVs_ok hr' he' h1) (fun h1 => resRs_ok hr' he' h1)
    have hcut := hr'.cut h3 h4 h4m h8
    have hEcut := hE.cut (nb := H'.bx.length) (nt := H'.tk.length) (by rw [hr.len]; exact h5) (by have := congrArg List.length hr.tk; simp at this; omega) (nm := H'.mu.length) (by rw [hr.mlen]; exact h6m)
    have key : ∃ rv, (results fn a.tmps).run P c'.w = .ok rv c'.w ∧ RV c' v rv := by
      refine ⟨if h : us.toArray.size = 1 then us.toArray[0] else .tuple us.toArray, ?_, ?_⟩
      · have : results fn a.tmps = (do let vs ← fn.results.mapM (resSem a.tmps); pure (if h : vs.size = 1 then vs[0] else .tuple vs)) := by
          unfold results
          congr 1
        rw [this]
        simp only [hrs, Sem.run_bind, List.mapM_toArray, Sem.run_map, e1, Result.andThen_ok, Sem.run_pure]
      · rw [← h2]
        match ps, us, e2, e3 with
        | [p], [u], _, e3 => simpa [retV] using e3 0 p u rfl rfl
        | [], [], _, e3 => simpa [retV] using RV.tuple (c := c') [] #[] rfl (by simp)
        | p :: q :: ps, u :: u' :: us, e2, e3 =>
          have : ¬ (u :: u' :: us).toArray.size = 1 := by simp
          rw [dif_neg this]
          exact .tuple _ _ (by simpa using e2) (fun i p v hp hv => e3 i p v hp (by simpa using hv))
    obtain ⟨rv, g1, g2⟩ := key
    have fin : a.defers = [] ∧ ∃ v', (results fn a.tmps).run P c'.w = .ok v' c'.w ∧ ∃ rv c'', Ending.returned v' = .returned rv ∧ c''.w = c'.w ∧ Rel P c'' H' ∧ Evo c c'' ∧ RV c'' v rv :=
      ⟨he'.defers, rv, g1, rv, c'.cut H'.bx.length H'.tk.length H'.mu.length, rfl, rfl, hcut, hEcut, g2.cut h7⟩
    rcases he with rfl | rfl
    · exact fin
    · exact fin
end
end Go.Pure
