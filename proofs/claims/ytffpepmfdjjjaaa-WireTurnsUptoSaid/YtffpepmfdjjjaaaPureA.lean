/- A generic layer: values without memory, and what it means that a value of the machine reads as one. -/
import Derived.Calls
import Derived.Orders
import Derived.Tactics
import Derived.Laws.AppendOwn
import Derived.Below
namespace Go.Pure
open Go

/-- Ground values: data without identity. 'raw': a value that holds no memory (a function's name, undef). -/
inductive GV where
  | int (k : IntKind) (n : Int)
  | bool (b : Bool)
  | str (s : ByteArray)
  | raw (v : Value)
  | agg (cs : List GV)
  | sl (es : List GV)
  deriving Inhabited

def GV.cells : GV → List GV
  | .agg cs => cs
  | g => [g]

/-- What a value of the machine reads as, where the cells that satisfy S don't change. -/
inductive RG (w : World) (S : Nat → Nat → Prop) : GV → Value → Prop where
  | int (k : IntKind) (n : Int) : RG w S (.int k n) (.int k n)
  | bool (b : Bool) : RG w S (.bool b) (.bool b)
  | str (s : ByteArray) : RG w S (.str s) (.string s)
  | raw (v : Value) : RG w S (.raw v) v
  | agg (cs : List GV) (vs : Array Value) (hl : cs.length = vs.size) (h1 : ∀ v ∈ vs.toList, v.oneCell' = true)
      (h : ∀ (i : Nat) (g : GV) (v : Value), cs[i]? = some g → vs[i]? = some v → RG w S g v) : RG w S (.agg cs) (.agg vs)
  | nil : RG w S (.sl []) (.slice none 0 0)
  | sl (es : List GV) (a : Addr) (cap size : Nat) (f : Nat → Value) (ha : es ≠ [] → a.spot = none) (hc : es.length ≤ cap) (hm : cap ≤ maxLen)
      (hs : ∀ (i : Nat) (e : GV), es[i]? = some e → e.cells.length = size)
      (hf : ∀ k, k < es.length * size → w.cell? (a.add k) = some (f k) ∧ S a.block (a.off + k) ∧ (f k).oneCell' = true)
      (h : ∀ (i : Nat) (e : GV) (j : Nat) (g : GV), es[i]? = some e → e.cells[j]? = some g → RG w S g (f (i * size + j))) :
      RG w S (.sl es) (.slice (some a) es.length cap)

theorem add_block (a : Addr) (k : Nat) : (a.add k).block = a.block := by unfold Addr.add; split <;> rfl
theorem add_off (a : Addr) (k : Nat) : (a.add k).off = a.off + k := by unfold Addr.add; split <;> simp_all
theorem add_spot (a : Addr) (k : Nat) (h : a.spot = none) : (a.add k).spot = none := by unfold Addr.add; split <;> simp_all
theorem add_eq (a : Addr) (k : Nat) (h : a.spot = none) : a.add k = ⟨a.block, a.off + k, none⟩ := by
  unfold Addr.add; split
  · subst_vars; cases a; simp_all
  · rfl

/-- Stable cells stay, and stay stable. -/
def Keeps (w w' : World) (S S' : Nat → Nat → Prop) : Prop :=
  ∀ (a : Addr) (v : Value), a.spot = none → S a.block a.off → w.cell? a = some v → w'.cell? a = some v ∧ S' a.block a.off

theorem RG.mono {w w' : World} {S S' : Nat → Nat → Prop} (hk : Keeps w w' S S') {g : GV} {v : Value} (h : RG w S g v) : RG w' S' g v := by
  induction h with
  | int k n => exact .int k n
  | bool b => exact .bool b
  | str s => exact .str s
  | raw v => exact .raw v
  | agg cs vs hl h1 _ ih => exact .agg cs vs hl h1 ih
  | nil => exact .nil
  | sl es a cap size f ha hc hm hs hf _ ih =>
    refine .sl es a cap size f ha hc hm hs (fun k hk' => ?_) ih
    obtain ⟨h1, h2, h3⟩ := hf k hk'
    have := hk (a.add k) (f k) (add_spot a k (ha (by rintro rfl; simp at hk'))) (by rw [add_block, add_off]; exact h2) h1
    rw [add_block, add_off] at this
    exact ⟨this.1, this.2, h3⟩

/-- Values in a frame or in a box: ground ones, slices that may still be appended to, addresses of boxes, closures. -/
inductive PV where
  | g (x : GV)
  | own (es : List GV) (id : Nat)
  | ptr (b : Nat) (off : Nat)
  | nilp
  | nils
  | pat (cs : List GV)
  | clo (fn : Fn) (first cap : List PV)
  | agg (cs : List PV)
  | tuple (cs : List PV)
  | mar (id n : Nat)
  | mref (id n i off : Nat)
  | mp (id : Nat)
  | any
  deriving Inhabited

/-- An array that is being filled: its block, its elements' type, their size, the capacity, how many elements count. -/
structure Tok where
  live : Bool
  g : Nat
  e : TypeId
  size : Nat
  cap : Nat
  hw : Nat

/-- An array or a map that may be written: is it there (not nil, not given up), its block, its elements' size, how often it has moved, how many elements, the capacity. -/
structure MTok where
  live : Bool
  g : Nat
  size : Nat
  gen : Nat
  len : Nat
  cap : Nat

/-- Where boxes and arrays lie; which places somebody further out may write; the world. -/
structure Ctx where
  σ : List Nat
  τ : List Tok
  μ : List MTok
  hid : Nat → Nat → Prop
  w : World

def Ctx.stab (c : Ctx) (b p : Nat) : Prop := ¬ c.hid b p ∧ b ∉ c.σ ∧ (∀ t ∈ c.τ, t.live = true → t.g = b → p < t.hw * t.size) ∧ ∀ t ∈ c.μ, t.live = true → t.g ≠ b

inductive RV (c : Ctx) : PV → Value → Prop where
  | g (x : GV) (v : Value) (h : RG c.w c.stab x v) : RV c (.g x) v
  | own (es : List GV) (id : Nat) (v : Value) (t : Tok) (h : RG c.w c.stab (.sl es) v) (ht : c.τ[id]? = some t)
      (hs : ∀ (i : Nat) (e : GV), es[i]? = some e → e.cells.length = t.size) (hl : es.length ≤ t.hw)
      (hv : es.length = t.hw → (t.live = true ∧ v = .slice (some ⟨t.g, 0, none⟩) es.length t.cap) ∨ (es = [] ∧ v = .slice none 0 0)) : RV c (.own es id) v
  | ptr (b off : Nat) (blk : Nat) (h : c.σ[b]? = some blk) : RV c (.ptr b off) (.pointer (some ⟨blk, off, none⟩))
  | nilp : RV c .nilp (.pointer none)
  | nils : RV c .nils (.slice none 0 0)
  | pat (cs : List GV) (a : Addr) (f : Nat → Value) (ha : a.spot = none)
      (hf : ∀ k, k < cs.length → c.w.cell? (a.add k) = some (f k) ∧ c.stab a.block (a.off + k) ∧ (f k).oneCell' = true)
      (h : ∀ (j : Nat) (g : GV), cs[j]? = some g → RG c.w c.stab g (f j)) : RV c (.pat cs) (.pointer (some a))
  | clo (fn : Fn) (ps qs : List PV) (us vs : Array Value) (hp : ps.length = us.size) (hq : qs.length = vs.size)
      (h1 : ∀ (i : Nat) (p : PV) (v : Value), ps[i]? = some p → us[i]? = some v → RV c p v)
      (h2 : ∀ (i : Nat) (p : PV) (v : Value), qs[i]? = some p → vs[i]? = some v → RV c p v) : RV c (.clo fn ps qs) (.func fn us vs)
  | agg (cs : List PV) (vs : Array Value) (hl : cs.length = vs.size) (h1 : ∀ v ∈ vs.toList, v.oneCell' = true)
      (h : ∀ (i : Nat) (p : PV) (v : Value), cs[i]? = some p → vs[i]? = some v → RV c p v) : RV c (.agg cs) (.agg vs)
  | tuple (cs : List PV) (vs : Array Value) (hl : cs.length = vs.size)
      (h : ∀ (i : Nat) (p : PV) (v : Value), cs[i]? = some p → vs[i]? = some v → RV c p v) : RV c (.tuple cs) (.tuple vs)
  | mar (id n : Nat) (v : Value) (t : MTok) (ht : c.μ[id]? = some t) (hn : n ≤ t.gen) (h1 : v.oneCell' = true) (hv : n = t.gen → (t.live = true ∧ v = .slice (some ⟨t.g, 0, none⟩) t.len t.cap) ∨ (t.live = false ∧ v = .slice none 0 0)) : RV c (.mar id n) v
  | mref (id n i off : Nat) (a : Addr) (t : MTok) (ht : c.μ[id]? = some t) (hn : n ≤ t.gen) (h1 : a.spot = none) (hv : n = t.gen → a = ⟨t.g, i * t.size + off, none⟩) : RV c (.mref id n i off) (.pointer (some a))
  | mp (id : Nat) (v : Value) (t : MTok) (ht : c.μ[id]? = some t) (h1 : v.oneCell' = true) (hv : t.gen = 0 → v = .map (some t.g)) : RV c (.mp id) v
  | any (v : Value) : RV c .any v

/-- What a step may do to memory. -/
structure Evo (c c' : Ctx) : Prop where
  os : c'.w.os = c.w.os
  tape : c'.w.tape = c.w.tape
  output : c'.w.output = c.w.output
  size : c.w.heap.size ≤ c'.w.heap.size
  hid : c'.hid = c.hid
  sig : ∃ n, c'.σ = c.σ ++ n ∧ ∀ b ∈ n, c.w.heap.size ≤ b
  tok : ∀ (id : Nat) (t : Tok), c.τ[id]? = some t → ∃ t', c'.τ[id]? = some t' ∧ t'.size = t.size ∧ t'.e = t.e ∧ (t' = t ∨ t.hw < t'.hw)
  mu : ∀ (id : Nat) (t : MTok), c.μ[id]? = some t → ∃ t', c'.μ[id]? = some t' ∧ t'.size = t.size ∧ (t' = t ∨ t.gen < t'.gen)
  munew : ∀ t' ∈ c'.μ, t'.live = true → (∃ t ∈ c.μ, t.live = true ∧ t.g = t'.g) ∨ c.w.heap.size ≤ t'.g
  toknew : ∀ t' ∈ c'.τ, t'.live = true → (∃ t ∈ c.τ, t.live = true ∧ t.g = t'.g) ∨ c.w.heap.size ≤ t'.g
  keep : Keeps c.w c'.w c.stab c'.stab
  frame : ∀ b, b < c.w.heap.size → b ∉ c.σ → (∀ t ∈ c.τ, t.live = true → t.g ≠ b) → (∀ t ∈ c.μ, t.live = true → t.g ≠ b) → c'.w.heap[b]? = c.w.heap[b]?

theorem Evo.refl (c : Ctx) : Evo c c :=
  ⟨rfl, rfl, rfl, Nat.le_refl _, rfl, ⟨[], by simp⟩, fun _ t h => ⟨t, h, rfl, rfl, .inl rfl⟩, fun _ t h => ⟨t, h, rfl, .inl rfl⟩, fun t h hl => .inl ⟨t, h, hl, rfl⟩, fun t h hl => .inl ⟨t, h, hl, rfl⟩, fun _ _ _ hs hc => ⟨hc, hs⟩, fun _ _ _ _ _ => rfl⟩

theorem Evo.trans {a b c : Ctx} (h : Evo a b) (k : Evo b c) : Evo a c := by
  obtain ⟨n, hn, hn'⟩ := h.sig
  obtain ⟨m, hm, hm'⟩ := k.sig
  refine ⟨k.os.trans h.os, k.tape.trans h.tape, k.output.trans h.output, Nat.le_trans h.size k.size, k.hid.trans h.hid, ⟨n ++ m, by rw [hm, hn, List.append_assoc], ?_⟩, ?_, ?_, ?_, ?_, ?_, ?_⟩
  · intro b hb
    rcases List.mem_append.1 hb with hb | hb
    · exact hn' b hb
    · exact Nat.le_trans h.size (hm' b hb)
  · intro id t ht
    obtain ⟨t1, h1, s1, e1, d1⟩ := h.tok id t ht
    obtain ⟨t2, h2, s2, e2, d2⟩ := k.tok id t1 h1
    refine ⟨t2, h2, s2.trans s1, e2.trans e1, ?_⟩
    rcases d1 with rfl | d1
    · exact d2
    · rcases d2 with rfl | d2
      · exact .inr d1
      · exact .inr (Nat.lt_trans d1 d2)
  · intro id t ht
    obtain ⟨t1, h1, s1, d1⟩ := h.mu id t ht
    obtain ⟨t2, h2, s2, d2⟩ := k.mu id t1 h1
    refine ⟨t2, h2, s2.trans s1, ?_⟩
    rcases d1 with rfl | d1
    · exact d2
    · rcases d2 with rfl | d2
      · exact .inr d1
      · exact .inr (Nat.lt_trans d1 d2)
  · intro t' ht' hlv
    rcases k.munew t' ht' hlv with ⟨t, ht, lv, e⟩ | hl
    · rcases h.munew t ht lv with ⟨t0, ht0, lv0, e0⟩ | hl
      · exact .inl ⟨t0, ht0, lv0, e0.trans e⟩
      · exact .inr (e ▸ hl)
    · exact .inr (Nat.le_trans h.size hl)
  · intro t' ht' hlv
    rcases k.toknew t' ht' hlv with ⟨t, ht, lv, e⟩ | hl
    · rcases h.toknew t ht lv with ⟨t0, ht0, lv0, e0⟩ | hl
      · exact .inl ⟨t0, ht0, lv0, e0.trans e⟩
      · exact .inr (e ▸ hl)
    · exact .inr (Nat.le_trans h.size hl)
  · intro x v hx hs hc
    obtain ⟨h1, h2⟩ := h.keep x v hx hs hc
    exact k.keep x v hx h2 h1
  · intro x hx hs ht hm
    rw [k.frame x (Nat.lt_of_lt_of_le hx h.size), h.frame x hx hs ht hm]
    · rw [hn]
      intro hmem
      rcases List.mem_append.1 hmem with hmem | hmem
      · exact hs hmem
      · have := hn' x hmem; omega
    · intro t htm lv e
      rcases h.toknew t htm lv with ⟨t0, ht0, lv0, e0⟩ | hl
      · exact ht t0 ht0 lv0 (e0.trans e)
      · omega
    · intro t htm lv e
      rcases h.munew t htm lv with ⟨t0, ht0, lv0, e0⟩ | hl
      · exact hm t0 ht0 lv0 (e0.trans e)
      · omega

theorem RV.mono {c c' : Ctx} (hE : Evo c c') {p : PV} {v : Value} (h : RV c p v) : RV c' p v := by
  induction h with
  | g x v h => exact .g x v (h.mono hE.keep)
  | own es id v t h ht hs hl hv =>
    obtain ⟨t', ht', s', _, d⟩ := hE.tok id t ht
    refine .own es id v t' (h.mono hE.keep) ht' (fun i e he => (hs i e he).trans s'.symm) ?_ ?_
    · rcases d with rfl | d <;> omega
    · intro e
      rcases d with rfl | d
      · exact hv e
      · omega
  | ptr b off blk h =>
    obtain ⟨n, hn, _⟩ := hE.sig
    refine .ptr b off blk ?_
    rw [hn, List.getElem?_append_left (List.getElem?_eq_some_iff.1 h).1]
    exact h
  | nilp => exact .nilp
  | nils => exact .nils
  | pat cs a f ha hf h =>
    refine .pat cs a f ha (fun k hk => ?_) (fun j g hj => (h j g hj).mono hE.keep)
    obtain ⟨h1, h2, h3⟩ := hf k hk
    have := hE.keep (a.add k) (f k) (add_spot a k ha) (by rw [add_block, add_off]; exact h2) h1
    rw [add_block, add_off] at this
    exact ⟨this.1, this.2, h3⟩
  | clo fn ps qs us vs hp hq _ _ h1 h2 => exact .clo fn ps qs us vs hp hq h1 h2
  | agg cs vs hl h1 _ ih => exact .agg cs vs hl h1 ih
  | tuple cs vs hl _ ih => exact .tuple cs vs hl ih
  | mar id n v t ht hn h1 hv =>
    obtain ⟨t', ht', s', d⟩ := hE.mu id t ht
    refine .mar id n v t' ht' (by rcases d with rfl | d <;> omega) h1 (fun e => ?_)
    rcases d with rfl | d
    · exact hv e
    · omega
  | mref id n i off v t ht hn h1 hv =>
    obtain ⟨t', ht', s', d⟩ := hE.mu id t ht
    refine .mref id n i off v t' ht' (by rcases d with rfl | d <;> omega) h1 (fun e => ?_)
    rcases d with rfl | d
    · exact hv e
    · omega
  | mp id v t ht h1 hv =>
    obtain ⟨t', ht', s', d⟩ := hE.mu id t ht
    refine .mp id v t' ht' h1 (fun e => ?_)
    rcases d with rfl | d
    · exact hv e
    · omega
  | any v => exact .any v

/-- What may be written: given up; an array (how often it has moved, its elements); a map. -/
inductive MO where
  | gone (n : Nat)
  | arr (n : Nat) (e : TypeId) (es : List GV)
  | map (es : List (GV × GV))

/-- The state beside the frame: what the boxes hold, how many elements of the arrays count, what may be written holds. -/
structure PH where
  bx : List (List PV)
  tk : List (TypeId × Nat)
  mu : List MO

def MOk (P : Program) (c : Ctx) (t : MTok) : MO → Prop
  | .gone n => t.live = false ∧ t.gen = n
  | .arr n e es => t.gen = n ∧ t.len = es.length ∧ (P.info? e).map (·.size) = some t.size ∧ ((t.live = false ∧ es = []) ∨ (t.live = true ∧ ∃ cur, c.w.heap[t.g]? = some (.cells cur e (0, 0)) ∧ cur.size = t.cap * t.size ∧ es.length ≤ t.cap ∧ t.cap ≤ maxLen ∧
      (∀ x ∈ es, x.cells.length = t.size) ∧ ∀ (i : Nat) (x : GV) (j : Nat) (g : GV) (v : Value), es[i]? = some x → x.cells[j]? = some g → cur[i * t.size + j]? = some v → RG c.w c.stab g v ∧ v.oneCell' = true))
  | .map es => t.gen = 0 ∧ t.live = true ∧ ∃ ents, c.w.heap[t.g]? = some (.map ents ents.size) ∧ ents.size = es.length ∧
      ∀ (i : Nat) (k v : GV) (n : MapEntry), es[i]? = some (k, v) → ents[i]? = some n → RG c.w c.stab k n.key ∧ RG c.w c.stab v n.val ∧ n.born = i

structure Rel (P : Program) (c : Ctx) (H : PH) : Prop where
  len : c.σ.length = H.bx.length
  bx : ∀ (i b : Nat) (cs : List PV), c.σ[i]? = some b → H.bx[i]? = some cs → ∃ (vals : Array Value) (T : TypeId), c.w.heap[b]? = some (.cells vals T (0, 0)) ∧ vals.size = cs.length ∧
    ∀ (j : Nat) (p : PV) (v : Value), cs[j]? = some p → vals[j]? = some v → RV c p v ∧ v.oneCell' = true
  tk : c.τ.map (fun t => (t.e, t.hw)) = H.tk
  tb : ∀ t ∈ c.τ, t.live = true → ∃ cur, c.w.heap[t.g]? = some (.cells cur t.e (0, 0)) ∧ cur.size = t.cap * t.size ∧ t.hw ≤ t.cap ∧ t.cap ≤ maxLen ∧ (P.info? t.e).map (·.size) = some t.size
  nd : c.σ.Nodup
  td : ∀ (i j : Nat) (t t' : Tok), c.τ[i]? = some t → c.τ[j]? = some t' → t.live = true → t'.live = true → t.g = t'.g → i = j
  st : ∀ t ∈ c.τ, t.live = true → t.g ∉ c.σ
  hidlt : ∀ b p, c.hid b p → b < c.w.heap.size
  thid : ∀ t ∈ c.τ, t.live = true → ∀ p, ¬ c.hid t.g p
  shid : ∀ b ∈ c.σ, b < c.w.heap.size
  dead : ∀ t ∈ c.τ, t.live = false → t.hw = 0 ∧ (P.info? t.e).map (·.size) = some t.size
  mlen : c.μ.length = H.mu.length
  mu : ∀ (i : Nat) (t : MTok) (o : MO), c.μ[i]? = some t → H.mu[i]? = some o → MOk P c t o
  mlt : ∀ t ∈ c.μ, t.live = true → t.g < c.w.heap.size
  md : ∀ (i j : Nat) (t t' : MTok), c.μ[i]? = some t → c.μ[j]? = some t' → t.live = true → t'.live = true → t.g = t'.g → i = j
  ms : ∀ t ∈ c.μ, t.live = true → t.g ∉ c.σ
  mt : ∀ t ∈ c.μ, t.live = true → ∀ t' ∈ c.τ, t'.live = true → t.g ≠ t'.g
  mhid : ∀ t ∈ c.μ, t.live = true → ∀ p, ¬ c.hid t.g p

/-- What may be written is as it was, when nothing of it has changed. -/
theorem MOk.mono {P : Program} {c c' : Ctx} (hE : Evo c c') {t : MTok} {o : MO} (hb : t.live = true → c'.w.heap[t.g]? = c.w.heap[t.g]?) (h : MOk P c t o) : MOk P c' t o := by
  cases o with
  | gone n => exact h
  | arr n e es =>
    obtain ⟨h1, h2, h3, h4⟩ := h
    refine ⟨h1, h2, h3, ?_⟩
    rcases h4 with h4 | ⟨lv, cur, a1, a2, a3, a4, a5, a6⟩
    · exact .inl h4
    · exact .inr ⟨lv, cur, (hb lv).trans a1, a2, a3, a4, a5, fun i x j g v hx hg hv => ⟨(a6 i x j g v hx hg hv).1.mono hE.keep, (a6 i x j g v hx hg hv).2⟩⟩
  | map es =>
    obtain ⟨h1, lv, ents, a1, a2, a3⟩ := h
    exact ⟨h1, lv, ents, (hb lv).trans a1, a2, fun i k v n hk hn => ⟨(a3 i k v n hk hn).1.mono hE.keep, (a3 i k v n hk hn).2.1.mono hE.keep, (a3 i k v n hk hn).2.2⟩⟩

/-- Values against values, one by one. -/
def RVs (c : Ctx) (ps : List PV) (vs : Array Value) : Prop := ps.length = vs.size ∧ ∀ (i : Nat) (p : PV) (v : Value), ps[i]? = some p → vs[i]? = some v → RV c p v

theorem RVs.mono {c c' : Ctx} (hE : Evo c c') {ps : List PV} {vs : Array Value} (h : RVs c ps vs) : RVs c' ps vs :=
  ⟨h.1, fun i p v hp hv => (h.2 i p v hp hv).mono hE⟩

/-- THE CONTRACT: function f, given what reads as args where the boxes and arrays are as H says, returns what reads as v, and leaves them as H' says; nothing else that was there has changed. -/
def PC (P : Program) (f : FuncId) (args : List PV) (H : PH) (v : PV) (H' : PH) : Prop :=
  ∀ (c : Ctx) (vs : Array Value), Rel P c H → RVs c args vs →
    Calls P f vs c.w fun e w' => ∃ rv c', e = .returned rv ∧ c'.w = w' ∧ Rel P c' H' ∧ Evo c c' ∧ RV c' v rv

end Go.Pure
