/- A generic layer: values without memory, and code over them. -/
import Derived.Calls
import Derived.Orders
import Derived.Tactics
import Derived.Laws.AppendOwn
import Derived.Below
import Derived.Deep.LoopGhost
import Derived.Laws.Alloc2
import Derived.Laws.Panics
import Derived.Laws.StructEq
import Derived.ProofKit
import Derived.OpenVars
import Derived.JoinedCond
/- A generic layer: values without memory, and what it means that a value of the machine reads as one. -/
namespace Go.Pure
open Go

/-- Ground values: data without identity. 'raw': a value that holds no memory (a function's name, undef). -/
inductive GV where
  | int (k : IntKind) (n : Int)
  | bool (b : Bool)
  | str (s : ByteArray)
  | raw (v : Value)
  | agg (cs : List GV)
  | sl (es : List GV)
  deriving Inhabited

def GV.cells : GV → List GV
  | .agg cs => cs
  | g => [g]

/-- What a value of the machine reads as, where the cells that satisfy S don't change. -/
inductive RG (w : World) (S : Nat → Nat → Prop) : GV → Value → Prop where
  | int (k : IntKind) (n : Int) : RG w S (.int k n) (.int k n)
  | bool (b : Bool) : RG w S (.bool b) (.bool b)
  | str (s : ByteArray) : RG w S (.str s) (.string s)
  | raw (v : Value) : RG w S (.raw v) v
  | agg (cs : List GV) (vs : Array Value) (hl : cs.length = vs.size) (h1 : ∀ v ∈ vs.toList, v.oneCell' = true)
      (h : ∀ (i : Nat) (g : GV) (v : Value), cs[i]? = some g → vs[i]? = some v → RG w S g v) : RG w S (.agg cs) (.agg vs)
  | nil : RG w S (.sl []) (.slice none 0 0)
  | sl (es : List GV) (a : Addr) (cap size : Nat) (f : Nat → Value) (ha : es ≠ [] → a.spot = none) (hc : es.length ≤ cap) (hm : cap ≤ maxLen)
      (hs : ∀ (i : Nat) (e : GV), es[i]? = some e → e.cells.length = size)
      (hf : ∀ k, k < es.length * size → w.cell? (a.add k) = some (f k) ∧ S a.block (a.off + k) ∧ (f k).oneCell' = true)
      (h : ∀ (i : Nat) (e : GV) (j : Nat) (g : GV), es[i]? = some e → e.cells[j]? = some g → RG w S g (f (i * size + j))) :
      RG w S (.sl es) (.slice (some a) es.length cap)

theorem add_block (a : Addr) (k : Nat) : (a.add k).block = a.block := by unfold Addr.add; split <;> rfl
theorem add_off (a : Addr) (k : Nat) : (a.add k).off = a.off + k := by unfold Addr.add; split <;> simp_all
theorem add_spot (a : Addr) (k : Nat) (h : a.spot = none) : (a.add k).spot = none := by unfold Addr.add; split <;> simp_all
theorem add_eq (a : Addr) (k : Nat) (h : a.spot = none) : a.add k = ⟨a.block, a.off + k, none⟩ := by
  unfold Addr.add; split
  · subst_vars; cases a; simp_all
  · rfl

/-- Stable cells stay, and stay stable. -/
def Keeps (w w' : World) (S S' : Nat → Nat → Prop) : Prop :=
  ∀ (a : Addr) (v : Value), a.spot = none → S a.block a.off → w.cell? a = some v → w'.cell? a = some v ∧ S' a.block a.off

theorem RG.mono {w w' : World} {S S' : Nat → Nat → Prop} (hk : Keeps w w' S S') {g : GV} {v : Value} (h : RG w S g v) : RG w' S' g v := by
  induction h with
  | int k n => exact .int k n
  | bool b => exact .bool b
  | str s => exact .str s
  | raw v => exact .raw v
  | agg cs vs hl h1 _ ih => exact .agg cs vs hl h1 ih
  | nil => exact .nil
  | sl es a cap size f ha hc hm hs hf _ ih =>
    refine .sl es a cap size f ha hc hm hs (fun k hk' => ?_) ih
    obtain ⟨h1, h2, h3⟩ := hf k hk'
    have := hk (a.add k) (f k) (add_spot a k (ha (by rintro rfl; simp at hk'))) (by rw [add_block, add_off]; exact h2) h1
    rw [add_block, add_off] at this
    exact ⟨this.1, this.2, h3⟩

/-- Values in a frame or in a box: ground ones, slices that may still be appended to, addresses of boxes, closures. -/
inductive PV where
  | g (x : GV)
  | own (es : List GV) (id : Nat)
  | ptr (b : Nat) (off : Nat)
  | nilp
  | nils
  | pat (cs : List GV)
  | clo (fn : Fn) (first cap : List PV)
  | agg (cs : List PV)
  | tuple (cs : List PV)
  | lit (es : List GV)
  | mar (id n : Nat)
  | mref (id n i off : Nat)
  | mp (id : Nat)
  | any
  deriving Inhabited

/-- An array that is being filled: its block, its elements' type, their size, the capacity, how many elements count. -/
structure Tok where
  live : Bool
  g : Nat
  e : TypeId
  size : Nat
  cap : Nat
  hw : Nat

/-- An array or a map that may be written: is it there (not nil, not given up), its block, its elements' size, how often it has moved, how many elements, the capacity. -/
structure MTok where
  live : Bool
  g : Nat
  size : Nat
  gen : Nat
  len : Nat
  cap : Nat

/-- Where boxes and arrays lie; which places somebody further out may write; the world. -/
structure Ctx where
  σ : List Nat
  τ : List Tok
  μ : List MTok
  hid : Nat → Nat → Prop
  w : World

def Ctx.stab (c : Ctx) (b p : Nat) : Prop := ¬ c.hid b p ∧ b ∉ c.σ ∧ (∀ t ∈ c.τ, t.live = true → t.g = b → p < t.hw * t.size) ∧ ∀ t ∈ c.μ, t.live = true → t.g ≠ b

inductive RV (c : Ctx) : PV → Value → Prop where
  | g (x : GV) (v : Value) (h : RG c.w c.stab x v) : RV c (.g x) v
  | own (es : List GV) (id : Nat) (v : Value) (t : Tok) (h : RG c.w c.stab (.sl es) v) (ht : c.τ[id]? = some t)
      (hs : ∀ (i : Nat) (e : GV), es[i]? = some e → e.cells.length = t.size) (hl : es.length ≤ t.hw)
      (hv : es.length = t.hw → (t.live = true ∧ v = .slice (some ⟨t.g, 0, none⟩) es.length t.cap) ∨ (es = [] ∧ v = .slice none 0 0)) : RV c (.own es id) v
  | ptr (b off : Nat) (blk : Nat) (h : c.σ[b]? = some blk) : RV c (.ptr b off) (.pointer (some ⟨blk, off, none⟩))
  | nilp : RV c .nilp (.pointer none)
  | nils : RV c .nils (.slice none 0 0)
  | pat (cs : List GV) (a : Addr) (f : Nat → Value) (ha : a.spot = none)
      (hf : ∀ k, k < cs.length → c.w.cell? (a.add k) = some (f k) ∧ c.stab a.block (a.off + k) ∧ (f k).oneCell' = true)
      (h : ∀ (j : Nat) (g : GV), cs[j]? = some g → RG c.w c.stab g (f j)) : RV c (.pat cs) (.pointer (some a))
  | clo (fn : Fn) (ps qs : List PV) (us vs : Array Value) (hp : ps.length = us.size) (hq : qs.length = vs.size)
      (h1 : ∀ (i : Nat) (p : PV) (v : Value), ps[i]? = some p → us[i]? = some v → RV c p v)
      (h2 : ∀ (i : Nat) (p : PV) (v : Value), qs[i]? = some p → vs[i]? = some v → RV c p v) : RV c (.clo fn ps qs) (.func fn us vs)
  | agg (cs : List PV) (vs : Array Value) (hl : cs.length = vs.size) (h1 : ∀ v ∈ vs.toList, v.oneCell' = true)
      (h : ∀ (i : Nat) (p : PV) (v : Value), cs[i]? = some p → vs[i]? = some v → RV c p v) : RV c (.agg cs) (.agg vs)
  | tuple (cs : List PV) (vs : Array Value) (hl : cs.length = vs.size)
      (h : ∀ (i : Nat) (p : PV) (v : Value), cs[i]? = some p → vs[i]? = some v → RV c p v) : RV c (.tuple cs) (.tuple vs)
  | lit (es : List GV) (a : Addr) (h : RG c.w c.stab (.sl es) (.slice (some a) es.length es.length)) : RV c (.lit es) (.slice (some a) es.length es.length)
  | mar (id n : Nat) (v : Value) (t : MTok) (ht : c.μ[id]? = some t) (hn : n ≤ t.gen) (h1 : v.oneCell' = true) (hv : n = t.gen → (t.live = true ∧ v = .slice (some ⟨t.g, 0, none⟩) t.len t.cap) ∨ (t.live = false ∧ v = .slice none 0 0)) : RV c (.mar id n) v
  | mref (id n i off : Nat) (a : Addr) (t : MTok) (ht : c.μ[id]? = some t) (hn : n ≤ t.gen) (h1 : a.spot = none) (hv : n = t.gen → a = ⟨t.g, i * t.size + off, none⟩) : RV c (.mref id n i off) (.pointer (some a))
  | mp (id : Nat) (v : Value) (t : MTok) (ht : c.μ[id]? = some t) (h1 : v.oneCell' = true) (hv : t.gen = 0 → v = .map (some t.g)) : RV c (.mp id) v
  | any (v : Value) : RV c .any v

/-- What a step may do to memory. -/
structure Evo (c c' : Ctx) : Prop where
  os : c'.w.os = c.w.os
  tape : c'.w.tape = c.w.tape
  output : c'.w.output = c.w.output
  size : c.w.heap.size ≤ c'.w.heap.size
  hid : c'.hid = c.hid
  sig : ∃ n, c'.σ = c.σ ++ n ∧ ∀ b ∈ n, c.w.heap.size ≤ b
  tok : ∀ (id : Nat) (t : Tok), c.τ[id]? = some t → ∃ t', c'.τ[id]? = some t' ∧ t'.size = t.size ∧ t'.e = t.e ∧ (t' = t ∨ t.hw < t'.hw)
  mu : ∀ (id : Nat) (t : MTok), c.μ[id]? = some t → ∃ t', c'.μ[id]? = some t' ∧ t'.size = t.size ∧ (t' = t ∨ t.gen < t'.gen)
  munew : ∀ t' ∈ c'.μ, t'.live = true → (∃ t ∈ c.μ, t.live = true ∧ t.g = t'.g) ∨ c.w.heap.size ≤ t'.g
  toknew : ∀ t' ∈ c'.τ, t'.live = true → (∃ t ∈ c.τ, t.live = true ∧ t.g = t'.g) ∨ c.w.heap.size ≤ t'.g
  keep : Keeps c.w c'.w c.stab c'.stab
  frame : ∀ b, b < c.w.heap.size → b ∉ c.σ → (∀ t ∈ c.τ, t.live = true → t.g ≠ b) → (∀ t ∈ c.μ, t.live = true → t.g ≠ b) → c'.w.heap[b]? = c.w.heap[b]?

theorem Evo.refl (c : Ctx) : Evo c c :=
  ⟨rfl, rfl, rfl, Nat.le_refl _, rfl, ⟨[], by simp⟩, fun _ t h => ⟨t, h, rfl, rfl, .inl rfl⟩, fun _ t h => ⟨t, h, rfl, .inl rfl⟩, fun t h hl => .inl ⟨t, h, hl, rfl⟩, fun t h hl => .inl ⟨t, h, hl, rfl⟩, fun _ _ _ hs hc => ⟨hc, hs⟩, fun _ _ _ _ _ => rfl⟩

theorem Evo.trans {a b c : Ctx} (h : Evo a b) (k : Evo b c) : Evo a c := by
  obtain ⟨n, hn, hn'⟩ := h.sig
  obtain ⟨m, hm, hm'⟩ := k.sig
  refine ⟨k.os.trans h.os, k.tape.trans h.tape, k.output.trans h.output, Nat.le_trans h.size k.size, k.hid.trans h.hid, ⟨n ++ m, by rw [hm, hn, List.append_assoc], ?_⟩, ?_, ?_, ?_, ?_, ?_, ?_⟩
  · intro b hb
    rcases List.mem_append.1 hb with hb | hb
    · exact hn' b hb
    · exact Nat.le_trans h.size (hm' b hb)
  · intro id t ht
    obtain ⟨t1, h1, s1, e1, d1⟩ := h.tok id t ht
    obtain ⟨t2, h2, s2, e2, d2⟩ := k.tok id t1 h1
    refine ⟨t2, h2, s2.trans s1, e2.trans e1, ?_⟩
    rcases d1 with rfl | d1
    · exact d2
    · rcases d2 with rfl | d2
      · exact .inr d1
      · exact .inr (Nat.lt_trans d1 d2)
  · intro id t ht
    obtain ⟨t1, h1, s1, d1⟩ := h.mu id t ht
    obtain ⟨t2, h2, s2, d2⟩ := k.mu id t1 h1
    refine ⟨t2, h2, s2.trans s1, ?_⟩
    rcases d1 with rfl | d1
    · exact d2
    · rcases d2 with rfl | d2
      · exact .inr d1
      · exact .inr (Nat.lt_trans d1 d2)
  · intro t' ht' hlv
    rcases k.munew t' ht' hlv with ⟨t, ht, lv, e⟩ | hl
    · rcases h.munew t ht lv with ⟨t0, ht0, lv0, e0⟩ | hl
      · exact .inl ⟨t0, ht0, lv0, e0.trans e⟩
      · exact .inr (e ▸ hl)
    · exact .inr (Nat.le_trans h.size hl)
  · intro t' ht' hlv
    rcases k.toknew t' ht' hlv with ⟨t, ht, lv, e⟩ | hl
    · rcases h.toknew t ht lv with ⟨t0, ht0, lv0, e0⟩ | hl
      · exact .inl ⟨t0, ht0, lv0, e0.trans e⟩
      · exact .inr (e ▸ hl)
    · exact .inr (Nat.le_trans h.size hl)
  · intro x v hx hs hc
    obtain ⟨h1, h2⟩ := h.keep x v hx hs hc
    exact k.keep x v hx h2 h1
  · intro x hx hs ht hm
    rw [k.frame x (Nat.lt_of_lt_of_le hx h.size), h.frame x hx hs ht hm]
    · rw [hn]
      intro hmem
      rcases List.mem_append.1 hmem with hmem | hmem
      · exact hs hmem
      · have := hn' x hmem; omega
    · intro t htm lv e
      rcases h.toknew t htm lv with ⟨t0, ht0, lv0, e0⟩ | hl
      · exact ht t0 ht0 lv0 (e0.trans e)
      · omega
    · intro t htm lv e
      rcases h.munew t htm lv with ⟨t0, ht0, lv0, e0⟩ | hl
      · exact hm t0 ht0 lv0 (e0.trans e)
      · omega

theorem RV.mono {c c' : Ctx} (hE : Evo c c') {p : PV} {v : Value} (h : RV c p v) : RV c' p v := by
  induction h with
  | g x v h => exact .g x v (h.mono hE.keep)
  | own es id v t h ht hs hl hv =>
    obtain ⟨t', ht', s', _, d⟩ := hE.tok id t ht
    refine .own es id v t' (h.mono hE.keep) ht' (fun i e he => (hs i e he).trans s'.symm) ?_ ?_
    · rcases d with rfl | d <;> omega
    · intro e
      rcases d with rfl | d
      · exact hv e
      · omega
  | ptr b off blk h =>
    obtain ⟨n, hn, _⟩ := hE.sig
    refine .ptr b off blk ?_
    rw [hn, List.getElem?_append_left (List.getElem?_eq_some_iff.1 h).1]
    exact h
  | nilp => exact .nilp
  | nils => exact .nils
  | pat cs a f ha hf h =>
    refine .pat cs a f ha (fun k hk => ?_) (fun j g hj => (h j g hj).mono hE.keep)
    obtain ⟨h1, h2, h3⟩ := hf k hk
    have := hE.keep (a.add k) (f k) (add_spot a k ha) (by rw [add_block, add_off]; exact h2) h1
    rw [add_block, add_off] at this
    exact ⟨this.1, this.2, h3⟩
  | clo fn ps qs us vs hp hq _ _ h1 h2 => exact .clo fn ps qs us vs hp hq h1 h2
  | agg cs vs hl h1 _ ih => exact .agg cs vs hl h1 ih
  | tuple cs vs hl _ ih => exact .tuple cs vs hl ih
  | lit es a h => exact .lit es a (h.mono hE.keep)
  | mar id n v t ht hn h1 hv =>
    obtain ⟨t', ht', s', d⟩ := hE.mu id t ht
    refine .mar id n v t' ht' (by rcases d with rfl | d <;> omega) h1 (fun e => ?_)
    rcases d with rfl | d
    · exact hv e
    · omega
  | mref id n i off v t ht hn h1 hv =>
    obtain ⟨t', ht', s', d⟩ := hE.mu id t ht
    refine .mref id n i off v t' ht' (by rcases d with rfl | d <;> omega) h1 (fun e => ?_)
    rcases d with rfl | d
    · exact hv e
    · omega
  | mp id v t ht h1 hv =>
    obtain ⟨t', ht', s', d⟩ := hE.mu id t ht
    refine .mp id v t' ht' h1 (fun e => ?_)
    rcases d with rfl | d
    · exact hv e
    · omega
  | any v => exact .any v

/-- What may be written: given up; an array (how often it has moved, its elements); a map. -/
inductive MO where
  | gone (n : Nat)
  | arr (n : Nat) (e : TypeId) (es : List GV)
  | map (es : List (GV × GV))

/-- The state beside the frame: what the boxes hold, how many elements of the arrays count, what may be written holds. -/
structure PH where
  bx : List (List PV)
  tk : List (TypeId × Nat)
  mu : List MO

def MOk (P : Program) (c : Ctx) (t : MTok) : MO → Prop
  | .gone n => t.live = false ∧ t.gen = n
  | .arr n e es => t.gen = n ∧ t.len = es.length ∧ (P.info? e).map (·.size) = some t.size ∧ ((t.live = false ∧ es = []) ∨ (t.live = true ∧ ∃ cur, c.w.heap[t.g]? = some (.cells cur e (0, 0)) ∧ cur.size = t.cap * t.size ∧ es.length ≤ t.cap ∧ t.cap ≤ maxLen ∧
      (∀ x ∈ es, x.cells.length = t.size) ∧ ∀ (i : Nat) (x : GV) (j : Nat) (g : GV) (v : Value), es[i]? = some x → x.cells[j]? = some g → cur[i * t.size + j]? = some v → RG c.w c.stab g v ∧ v.oneCell' = true))
  | .map es => t.gen = 0 ∧ t.live = true ∧ ∃ ents, c.w.heap[t.g]? = some (.map ents ents.size) ∧ ents.size = es.length ∧
      ∀ (i : Nat) (k v : GV) (n : MapEntry), es[i]? = some (k, v) → ents[i]? = some n → RG c.w c.stab k n.key ∧ RG c.w c.stab v n.val ∧ n.born = i

structure Rel (P : Program) (c : Ctx) (H : PH) : Prop where
  len : c.σ.length = H.bx.length
  bx : ∀ (i b : Nat) (cs : List PV), c.σ[i]? = some b → H.bx[i]? = some cs → ∃ (vals : Array Value) (T : TypeId), c.w.heap[b]? = some (.cells vals T (0, 0)) ∧ vals.size = cs.length ∧
    ∀ (j : Nat) (p : PV) (v : Value), cs[j]? = some p → vals[j]? = some v → RV c p v ∧ v.oneCell' = true
  tk : c.τ.map (fun t => (t.e, t.hw)) = H.tk
  tb : ∀ t ∈ c.τ, t.live = true → ∃ cur, c.w.heap[t.g]? = some (.cells cur t.e (0, 0)) ∧ cur.size = t.cap * t.size ∧ t.hw ≤ t.cap ∧ t.cap ≤ maxLen ∧ (P.info? t.e).map (·.size) = some t.size
  nd : c.σ.Nodup
  td : ∀ (i j : Nat) (t t' : Tok), c.τ[i]? = some t → c.τ[j]? = some t' → t.live = true → t'.live = true → t.g = t'.g → i = j
  st : ∀ t ∈ c.τ, t.live = true → t.g ∉ c.σ
  hidlt : ∀ b p, c.hid b p → b < c.w.heap.size
  thid : ∀ t ∈ c.τ, t.live = true → ∀ p, ¬ c.hid t.g p
  shid : ∀ b ∈ c.σ, b < c.w.heap.size
  dead : ∀ t ∈ c.τ, t.live = false → t.hw = 0 ∧ (P.info? t.e).map (·.size) = some t.size
  mlen : c.μ.length = H.mu.length
  mu : ∀ (i : Nat) (t : MTok) (o : MO), c.μ[i]? = some t → H.mu[i]? = some o → MOk P c t o
  mlt : ∀ t ∈ c.μ, t.live = true → t.g < c.w.heap.size
  md : ∀ (i j : Nat) (t t' : MTok), c.μ[i]? = some t → c.μ[j]? = some t' → t.live = true → t'.live = true → t.g = t'.g → i = j
  ms : ∀ t ∈ c.μ, t.live = true → t.g ∉ c.σ
  mt : ∀ t ∈ c.μ, t.live = true → ∀ t' ∈ c.τ, t'.live = true → t.g ≠ t'.g
  mhid : ∀ t ∈ c.μ, t.live = true → ∀ p, ¬ c.hid t.g p

/-- What may be written is as it was, when nothing of it has changed. -/
theorem MOk.mono {P : Program} {c c' : Ctx} (hE : Evo c c') {t : MTok} {o : MO} (hb : t.live = true → c'.w.heap[t.g]? = c.w.heap[t.g]?) (h : MOk P c t o) : MOk P c' t o := by
  cases o with
  | gone n => exact h
  | arr n e es =>
    obtain ⟨h1, h2, h3, h4⟩ := h
    refine ⟨h1, h2, h3, ?_⟩
    rcases h4 with h4 | ⟨lv, cur, a1, a2, a3, a4, a5, a6⟩
    · exact .inl h4
    · exact .inr ⟨lv, cur, (hb lv).trans a1, a2, a3, a4, a5, fun i x j g v hx hg hv => ⟨(a6 i x j g v hx hg hv).1.mono hE.keep, (a6 i x j g v hx hg hv).2⟩⟩
  | map es =>
    obtain ⟨h1, lv, ents, a1, a2, a3⟩ := h
    exact ⟨h1, lv, ents, (hb lv).trans a1, a2, fun i k v n hk hn => ⟨(a3 i k v n hk hn).1.mono hE.keep, (a3 i k v n hk hn).2.1.mono hE.keep, (a3 i k v n hk hn).2.2⟩⟩

/-- Values against values, one by one. -/
def RVs (c : Ctx) (ps : List PV) (vs : Array Value) : Prop := ps.length = vs.size ∧ ∀ (i : Nat) (p : PV) (v : Value), ps[i]? = some p → vs[i]? = some v → RV c p v

theorem RVs.mono {c c' : Ctx} (hE : Evo c c') {ps : List PV} {vs : Array Value} (h : RVs c ps vs) : RVs c' ps vs :=
  ⟨h.1, fun i p v hp hv => (h.2 i p v hp hv).mono hE⟩

/-- THE CONTRACT: function f, given what reads as args where the boxes and arrays are as H says, returns what reads as v, and leaves them as H' says; nothing else that was there has changed. -/
def PC (P : Program) (f : FuncId) (args : List PV) (H : PH) (v : PV) (H' : PH) : Prop :=
  ∀ (c : Ctx) (vs : Array Value), Rel P c H → RVs c args vs →
    Calls P f vs c.w fun e w' => ∃ rv c', e = .returned rv ∧ c'.w = w' ∧ Rel P c' H' ∧ Evo c c' ∧ RV c' v rv

end Go.Pure

/- A generic layer: code over pure states. -/
namespace Go.Pure
open Go

abbrev Env := Nat → PV

/-- A constant, one cell. -/
def constG : Value → GV
  | .int k n => .int k n
  | .bool b => .bool b
  | .string s => .str s
  | v => .raw v

/-- A constant, one cell. -/
def constC : Value → PV
  | .pointer none => .nilp
  | .slice none 0 0 => .nils
  | v => .g (constG v)

def constPV : Value → PV
  | .agg cs => if cs.toList.all (·.oneCell') then .agg (cs.toList.map constC) else .g (.raw (.agg cs))
  | v => constC v

theorem constG_ok (w : World) (S : Nat → Nat → Prop) (v : Value) : RG w S (constG v) v := by
  unfold constG
  split
  · exact .int _ _
  · exact .bool _
  · exact .str _
  · exact .raw _

theorem constC_ok (c : Ctx) (v : Value) : RV c (constC v) v := by
  unfold constC
  split
  · exact .nilp
  · exact .nils
  · exact .g _ _ (constG_ok _ _ _)

theorem constPV_ok (c : Ctx) (v : Value) : RV c (constPV v) v := by
  unfold constPV
  split
  · rename_i cs
    split
    · rename_i h
      refine .agg _ _ (by simp) (fun v hv => List.all_eq_true.1 h v hv) ?_
      intro i g u hg hu
      simp only [List.getElem?_map] at hg
      rw [Array.getElem?_toList] at hg
      rw [hu] at hg
      simp at hg
      subst hg
      exact constC_ok _ _
    · exact .g _ _ (.raw _)
  · exact constC_ok _ _

def Env.eval (env : Env) : Operand → PV
  | .tmp t => env t
  | .const v => constPV v
  | .global _ => .any
  | .func f => .g (.raw (.func (.func f) #[] #[]))

def upd (env : Env) (d : Option Tmp) (v : PV) : Env :=
  match d with
  | some d => fun t => bif Nat.beq t d then v else env t
  | none => env

/-- Slots against slots. -/
structure ER (c : Ctx) (N : Nat) (env : Env) (a : Act) : Prop where
  defers : a.defers = []
  size : a.tmps.size = N
  slot : ∀ t, RV c (env t) (a.tmps.getD t undef)

theorem ER.eval {c : Ctx} {N : Nat} {env : Env} {a : Act} (h : ER c N env a) (x : Operand) : RV c (env.eval x) (a.eval x) := by
  cases x with
  | tmp t => exact h.slot t
  | const v => exact constPV_ok c v
  | global g => exact .any _
  | func f => exact .g _ _ (.raw _)

theorem ER.mono {c c' : Ctx} {N : Nat} {env : Env} {a : Act} (hE : Evo c c') (h : ER c N env a) : ER c' N env a :=
  ⟨h.defers, h.size, fun t => (h.slot t).mono hE⟩

theorem ER.put {c : Ctx} {N : Nat} {env : Env} {a : Act} (h : ER c N env a) {d : Option Tmp} {p : PV} {v : Value} (hd : ∀ t, d = some t → t < N) (hv : RV c p v) :
    ER c N (upd env d p) (a.put d v) := by
  cases d with
  | none => exact h
  | some d =>
    refine ⟨h.defers, by simpa [Act.put] using h.size, fun t => ?_⟩
    have hlt : d < a.tmps.size := by rw [h.size]; exact hd d rfl
    simp only [upd, Act.put]
    by_cases e : t = d
    · subst e
      rw [Nat.beq_refl, cond_true]
      simpa [Array.getD_eq_getD_getElem?, Array.getElem?_setIfInBounds, hlt] using hv
    · have e' : ¬ d = t := fun x => e x.symm
      have e2 : Nat.beq t d = false := Bool.eq_false_iff.2 fun h => e (Nat.eq_of_beq_eq_true h)
      rw [e2, cond_false]
      simpa [Array.getD_eq_getD_getElem?, Array.getElem?_setIfInBounds, e'] using h.slot t

/-- An operation, run, comes to a value. -/
def OpGoes (P : Program) (ρ : Operand → Value) (o : Oper) (w : World) (R : Value → World → Prop) : Prop :=
  match (execOp ρ o).run P w with
  | .ok (.value rv) w' => R rv w'
  | .ok .skip w' => R undef w'
  | .ok (.enter f args) w' => Calls P f args w' fun e w'' => ∃ rv, e = .returned rv ∧ R rv w''
  | _ => False

/-- THE CONTRACT OF AN OPERATION. -/
def PO (P : Program) (o : Oper) (ρ : Operand → PV) (H : PH) (v : PV) (H' : PH) : Prop :=
  ∀ (c : Ctx) (ρr : Operand → Value), Rel P c H → (∀ x ∈ o.op.operands.toList, RV c (ρ x) (ρr x)) →
    OpGoes P ρr o c.w fun rv w' => ∃ c', c'.w = w' ∧ Rel P c' H' ∧ Evo c c' ∧ RV c' v rv

theorem OpGoes.wp {P : Program} {o : Oper} {a : Act} {w : World} {R : Value → World → Prop} {K : Act → World → Prop} {Q : Exit → Act → World → Prop}
    (h : OpGoes P a.eval o w R) (hK : ∀ v w', R v w' → K (a.put o.dst v) w') : o.wp P a w K Q := by
  unfold OpGoes at h
  unfold Oper.wp
  generalize (execOp a.eval o).run P w = r at *
  cases r with
  | ok n w' =>
    cases n <;> simp only [Oper.upon] at h ⊢
    case value v => exact hK _ _ h
    case skip => exact hK _ _ h
    case enter f args => exact h.mono fun e w'' ⟨rv, he, hR⟩ => by subst he; exact hK _ _ hR
    all_goals exact h.elim
  | halt x w' => exact h.elim

/-- Is a guarded operation wanted? none: it is not known. -/
def gd (all : Array Oper) (o : Oper) (env : Env) : Option Bool :=
  match o.guard with
  | none => some true
  | some (j, want) =>
    match (all.toList[j]?).bind (·.dst) with
    | some d => match env d with
      | .g (.bool b) => some (b == want)
      | .g (.raw (.tuple _)) => some false
      | _ => none
    | none => none

theorem gd_ok {all : Array Oper} {o : Oper} {env : Env} {c : Ctx} {N : Nat} {a : Act} (h : ER c N env a) {b : Bool} (hg : gd all o env = some b) : Region.wanted o (yielded all a.tmps) = b := by
  unfold gd at hg
  unfold Region.wanted
  split at hg
  · rename_i e; rw [e]; simpa using hg
  · rename_i j want e
    rw [e]
    simp only [yielded]
    split at hg
    · rename_i d hd
      rw [Array.getElem?_toList] at hd
      rw [hd]
      have hs := h.slot d
      simp only [Option.bind_some]
      split at hg
      · rename_i b' he
        rw [he] at hs
        cases hs with
        | g x v hr =>
          generalize hv : a.tmps.getD d undef = v at hr
          cases hr
          rw [Array.getD_eq_getD_getElem?] at hv
          cases hx : a.tmps[d]? with
          | none => rw [hx] at hv; simp [undef] at hv
          | some u => rw [hx] at hv; simp at hv; subst hv; simpa using hg
      · rename_i vs he
        rw [he] at hs
        cases hs with
        | g x v hr =>
          generalize hv : a.tmps.getD d undef = v at hr
          cases hr
          rw [Array.getD_eq_getD_getElem?] at hv
          cases hx : a.tmps[d]? with
          | none => simpa using hg
          | some u => rw [hx] at hv; simp at hv; subst hv; simpa using hg
      · cases hg
    · cases hg

def undefP : PV := .g (.raw undef)

/-- Operations one by one, in the order of the text. -/
def POps (P : Program) (N : Nat) (all : Array Oper) (K : Env → PH → Prop) : List Oper → Env → PH → Prop
  | [], env, H => K env H
  | o :: rest, env, H => (∀ t, o.dst = some t → t < N) ∧
    match gd all o env with
    | some true => ∃ v H', PO P o env.eval H v H' ∧ POps P N all K rest (upd env o.dst v) H'
    | some false => POps P N all K rest (upd env o.dst undefP) H
    | none => False

/-- What code comes to, for the machine, out of what it comes to here. -/
def QR (P : Program) (c : Ctx) (N : Nat) (Q : Exit → Env → PH → Prop) : Exit → Act → World → Prop :=
  fun e a' w' => ∃ c' env' H', Q e env' H' ∧ c'.w = w' ∧ Rel P c' H' ∧ Evo c c' ∧ ER c' N env' a'

theorem QR.mono {P : Program} {c c' : Ctx} {N : Nat} {Q Q' : Exit → Env → PH → Prop} (hE : Evo c c') (hq : ∀ e env H, Q e env H → Q' e env H) {e : Exit} {a : Act} {w : World} (h : QR P c' N Q e a w) : QR P c N Q' e a w :=
  let ⟨c1, env, H, q, hw, hr, hE', her⟩ := h
  ⟨c1, env, H, hq _ _ _ q, hw, hr, hE.trans hE', her⟩

def PW (P : Program) (N : Nat) (code : Code) (Q : Exit → Env → PH → Prop) (env : Env) (H : PH) : Prop :=
  ∀ (c : Ctx) (a : Act), Rel P c H → ER c N env a → code.wp P (QR P c N Q) a c.w

section
variable {P : Program} {N : Nat} {Q : Exit → Env → PH → Prop} {env : Env} {H : PH}

theorem wpList_of_POps {all : Array Oper} {K : Env → PH → Prop} : ∀ (l : List Oper) (env : Env) (H : PH), POps P N all K l env H → ∀ (c : Ctx) (a : Act), Rel P c H → ER c N env a →
    wpList P all (QR P c N fun e env H => e = .normal ∧ K env H) l a c.w
  | [], env, H, h, c, a, hr, he => ⟨c, env, H, ⟨rfl, h⟩, rfl, hr, Evo.refl c, he⟩
  | o :: rest, env, H, h, c, a, hr, he => by
    obtain ⟨hd, h⟩ := h
    unfold wpList
    split at h
    · rename_i hg
      rw [gd_ok he hg, if_pos rfl]
      obtain ⟨v, H', hpo, hrest⟩ := h
      refine .inl ((hpo c a.eval hr (fun x _ => he.eval x)).wp ?_)
      rintro rv w' ⟨c', rfl, hr', hE, hv⟩
      have := wpList_of_POps rest _ _ hrest c' (a.put o.dst rv) hr' ((he.mono hE).put hd hv)
      refine wpList_mono (fun e a w h => QR.mono hE (fun _ _ _ h => h) h) this
    · rename_i hg
      rw [gd_ok he hg, if_neg (by simp)]
      exact wpList_of_POps rest _ _ h c (a.put o.dst undef) hr (he.put hd (.g _ _ (.raw _)))
    · exact h.elim
where
  wpList_mono {all : Array Oper} {Q Q' : Exit → Act → World → Prop} (hq : ∀ e a w, Q e a w → Q' e a w) : ∀ {l : List Oper} {a : Act} {w : World}, wpList P all Q l a w → wpList P all Q' l a w
    | [], _, _, h => hq _ _ _ h
    | o :: rest, a, w, h => by
      unfold wpList at *
      split
      · rename_i hw
        rw [if_pos hw] at h
        refine h.imp ?_ ?_
        · intro h
          have h1 := Oper.wp_mono (Q := Q) (fun a w h => wpList_mono hq (l := rest) (a := a) (w := w) h) h
          unfold Oper.wp at *
          generalize (execOp a.eval o).run P w = r at *
          cases r with
          | ok n w' =>
            cases n <;> simp only [Oper.upon] at h1 ⊢ <;>
              first
                | exact h1
                | exact Calls.mono h1 (fun e w'' he => by
                    cases e
                    · exact he
                    · exact hq _ _ _ he
                    · obtain ⟨a, w, h⟩ := he; exact ⟨a, w, hq _ _ _ h⟩)
          | halt x w' => cases x <;> simp only [Oper.upon] at h1 ⊢ <;> first | exact h1 | exact hq _ _ _ h1
        · rintro ⟨h1, a, w, h2⟩
          exact ⟨h1, a, w, hq _ _ _ h2⟩
      · rename_i hw
        rw [if_neg hw] at h
        exact wpList_mono hq h

theorem PW_mono {code : Code} {Q' : Exit → Env → PH → Prop} (h : PW P N code Q env H) (hq : ∀ e env H, Q e env H → Q' e env H) : PW P N code Q' env H :=
  fun c a hr he => wp_mono (h c a hr he) fun _ _ _ h => QR.mono (Evo.refl c) hq h

/-- What comes next, and how it is left. -/
def Next (K : Env → PH → Prop) (Q : Exit → Env → PH → Prop) : Exit → Env → PH → Prop
  | .normal, env, H => K env H
  | e, env, H => Q e env H

theorem PW_seq {x y : Code} (h : PW P N x (Next (PW P N y Q) Q) env H) : PW P N (.seq x y) Q env H := by
  intro c a hr he
  refine wp_seq (wp_mono (h c a hr he) ?_)
  rintro e a' w' ⟨c', env', H', q, rfl, hr', hE, he'⟩
  cases e <;> simp only [Next] at q <;> simp only [Exit.then]
  case normal => exact wp_mono (q c' a' hr' he') fun _ _ _ h => QR.mono hE (fun _ _ _ h => h) h
  all_goals exact ⟨c', env', H', q, rfl, hr', hE, he'⟩

theorem PW_skip (h : Q .normal env H) : PW P N .skip Q env H := fun c _ hr he => wp_skip ⟨c, env, H, h, rfl, hr, Evo.refl c, he⟩
theorem PW_ret (h : Q .ret env H) : PW P N .ret Q env H := fun c _ hr he => wp_ret ⟨c, env, H, h, rfl, hr, Evo.refl c, he⟩
theorem PW_exit {id : Nat} (h : Q (.exit id) env H) : PW P N (.exit id) Q env H := fun c _ hr he => wp_exit ⟨c, env, H, h, rfl, hr, Evo.refl c, he⟩

theorem PW_cond {x : Operand} {t e : Code} {b : Bool} (hx : env.eval x = .g (.bool b)) (h1 : b = true → PW P N t Q env H) (h2 : b = false → PW P N e Q env H) : PW P N (.cond x t e) Q env H := by
  intro c a hr he
  have hv := he.eval x
  rw [hx] at hv
  cases hv with
  | g _ v hg =>
    generalize hv : a.eval x = v at hg
    cases hg
    exact wp_cond_split hv (fun e => h1 e c a hr he) (fun e => h2 e c a hr he)

def Blk (id : Nat) (Q : Exit → Env → PH → Prop) : Exit → Env → PH → Prop
  | .exit id', env, H => bif Nat.beq id' id then Q .normal env H else Q (.exit id') env H
  | e, env, H => Q e env H

theorem PW_block {id : Nat} {x : Code} (h : PW P N x (Blk id Q) env H) : PW P N (.block id x) Q env H := by
  intro c a hr he
  refine wp_block (wp_mono (h c a hr he) ?_)
  rintro e a' w' ⟨c', env', H', q, rfl, hr', hE, he'⟩
  cases e <;> simp only [Blk] at q <;> simp only [Exit.inBlock]
  case exit id' =>
    by_cases e : id' = id
    · subst e
      rw [Nat.beq_refl, cond_true] at q
      rw [if_pos rfl]
      exact ⟨c', env', H', q, rfl, hr', hE, he'⟩
    · rw [Bool.eq_false_iff.2 fun h => e (Nat.eq_of_beq_eq_true h), cond_false] at q
      rw [if_neg e]
      exact ⟨c', env', H', q, rfl, hr', hE, he'⟩
  all_goals exact ⟨c', env', H', q, rfl, hr', hE, he'⟩

theorem PW_region {id : Nat} {l : List Oper} (h : POps P N l.toArray (fun env H => Q .normal env H) l env H) : PW P N (.region id l.toArray false) Q env H := by
  intro c a hr he
  refine wp_region_lit ?_
  refine wpList_of_POps.wpList_mono ?_ (wpList_of_POps l env H h c a hr he)
  rintro e a' w' ⟨c', env', H', ⟨rfl, q⟩, hw, hr', hE, he'⟩
  exact ⟨c', env', H', q, hw, hr', hE, he'⟩

/-- One frame's slots say no more than another's. -/
def EnvLe (env env' : Env) : Prop := ∀ t (c : Ctx) (v : Value), RV c (env t) v → RV c (env' t) v
def HLe (P : Program) (H H' : PH) : Prop := ∀ c : Ctx, Rel P c H → Rel P c H'

theorem EnvLe.er {env env' : Env} (h : EnvLe env env') {c : Ctx} {a : Act} (he : ER c N env a) : ER c N env' a := ⟨he.defers, he.size, fun t => h t c _ (he.slot t)⟩

theorem PW_weak {code : Code} {env' : Env} {H' : PH} (h1 : EnvLe env env') (h2 : HLe P H H') (h : PW P N code Q env' H') : PW P N code Q env H :=
  fun c a hr he => h c a (h2 c hr) (h1.er he)

/-- A LOOP: what holds at each round's head is told by a number that falls (and whatever else, s). -/
theorem PW_loop {S : Type} {body : Code} (E : S → Env) (F : S → PH) (Inv : S → Prop) (μ : S → Nat) (s0 : S) (hi : Inv s0) (h1 : EnvLe env (E s0)) (h2 : HLe P H (F s0))
    (round : ∀ s, Inv s → PW P N body (Next (fun env' H' => ∃ s', Inv s' ∧ μ s' < μ s ∧ EnvLe env' (E s') ∧ HLe P H' (F s')) Q) (E s) (F s)) : PW P N (.loop body) Q env H := by
  intro c a hr he
  refine wp_loop_ghost (fun n a w => ∃ s c', Inv s ∧ μ s = n ∧ c'.w = w ∧ Rel P c' (F s) ∧ Evo c c' ∧ ER c' N (E s) a) (μ s0) ⟨s0, c, hi, rfl, rfl, h2 c hr, Evo.refl c, h1.er he⟩ ?_
  rintro n a w ⟨s, c1, hInv, rfl, rfl, hr1, hE1, he1⟩
  refine wp_mono (round s hInv c1 a hr1 he1) ?_
  rintro e a' w' ⟨c2, env2, H2, q, rfl, hr2, hE2, he2⟩
  cases e <;> simp only [Next] at q <;> simp only [Exit.then]
  case normal =>
    obtain ⟨s', hi', hlt, e1, e2⟩ := q
    exact ⟨μ s', hlt, s', c2, hi', rfl, rfl, e2 c2 hr2, hE1.trans hE2, e1.er he2⟩
  all_goals exact ⟨c2, env2, H2, q, rfl, hr2, hE1.trans hE2, he2⟩
end
end Go.Pure

/- A generic layer: the rules of single operations. -/
namespace Go.Pure
open Go

/-! ### What the program says of its types -/
def aggB (P : Program) (t : TypeId) : Option Bool := (P.underlying t).map fun | .struct _ | .array _ _ => true | _ => false
def szB (P : Program) (t : TypeId) : Option Nat := (P.info? t).map (·.size)
def fieldB (P : Program) (s : TypeId) (k : Nat) : Option (Nat × TypeId) :=
  match P.underlying s with
  | some (.struct fs) => match fs[k]? with
    | some f => match szB P f.type with
      | some (_ + 1) => some (f.offset, f.type)
      | _ => none
    | none => none
  | _ => none
def elemB (P : Program) (t : TypeId) : Option TypeId := match P.underlying t with | some (.slice e) => some e | _ => none
def zeroB (P : Program) (t : TypeId) : Option Value := (P.info? t).bind (·.zero)

section
variable {P : Program} {w : World}

theorem run_isAgg {t : TypeId} {b : Bool} (h : aggB P t = some b) : (isAgg t).run P w = .ok b w := by
  unfold aggB at h
  cases hu : P.underlying t with
  | none => rw [hu] at h; cases h
  | some d =>
    rw [hu] at h
    simp only [Option.map_some, Option.some.injEq] at h
    simp only [isAgg, Sem.run_bind, run_underlying hu, Result.andThen_ok]
    split at h <;> subst h <;> simp_all

theorem run_sizeOf {t : TypeId} {n : Nat} (h : szB P t = some n) : (sizeOf t).run P w = .ok n w := by
  unfold szB at h
  cases hu : P.info? t with
  | none => rw [hu] at h; cases h
  | some d =>
    rw [hu] at h
    simp only [Option.map_some, Option.some.injEq] at h
    simp [sizeOf, typeInfo, hu, h]

theorem run_zero {t : TypeId} {z : Value} (h : zeroB P t = some z) : (zeroValue t).run P w = .ok z w := by
  unfold zeroB at h
  cases hu : P.info? t with
  | none => rw [hu] at h; cases h
  | some d =>
    rw [hu] at h
    simp only [Option.bind_some] at h
    simp [zeroValue, typeInfo, hu, h]

theorem run_fieldAt {s : TypeId} {k off : Nat} {ft : TypeId} (h : fieldB P s k = some (off, ft)) (a : Addr) :
    (Instr.fieldAt s (.pointer (some a)) k).run P w = .ok (.pointer (some (a.add off))) w := by
  unfold fieldB at h
  split at h
  · rename_i fs hu
    split at h
    · rename_i f hf
      split at h
      · rename_i n hn
        simp only [Option.some.injEq, Prod.mk.injEq] at h
        simp [Instr.fieldAt, run_underlying hu, hf, Instr.sureAddr, fieldPlace, run_sizeOf hn, h.1]
      · cases h
    · cases h
  · cases h
end

/-! ### Values and their cells -/
theorem RG.oneCell {w : World} {S : Nat → Nat → Prop} {g : GV} {v : Value} (h : RG w S g v) (h1 : ∀ cs, g ≠ .agg cs) (h2 : ∀ v, g ≠ .raw v) : v.oneCell' = true := by
  cases h <;> first | rfl | exact absurd rfl (h1 _) | exact absurd rfl (h2 _)

/-- A value's cells. -/
def pvCells : PV → Option (List PV)
  | .g (.agg cs) => some (cs.map .g)
  | .g (.raw v) => if v.oneCell' then some [.g (.raw v)] else none
  | .agg cs => some cs
  | .tuple _ | .any => none
  | p => some [p]

theorem cells_one {v : Value} (h : v.oneCell' = true) : v.cells = #[v] := by cases v <;> first | rfl | cases h

theorem pvCells_ok {c : Ctx} {p : PV} {v : Value} (h : RV c p v) {cs : List PV} (hc : pvCells p = some cs) :
    cs.length = v.cells.size ∧ ∀ (j : Nat) (q : PV) (u : Value), cs[j]? = some q → v.cells[j]? = some u → RV c q u ∧ u.oneCell' = true := by
  have one : ∀ {p : PV} {v : Value}, RV c p v → v.oneCell' = true → ([p] : List PV).length = v.cells.size ∧
      ∀ (j : Nat) (q : PV) (u : Value), ([p] : List PV)[j]? = some q → v.cells[j]? = some u → RV c q u ∧ u.oneCell' = true := by
    intro p v h h1
    rw [cells_one h1]
    refine ⟨rfl, fun j q u hq hu => ?_⟩
    cases j with
    | zero => simp at hq hu; subst hq; subst hu; exact ⟨h, h1⟩
    | succ j => simp at hq
  cases h with
  | g x v hg =>
    cases hg with
    | agg gs vs hl h1 hh =>
      simp only [pvCells, Option.some.injEq] at hc
      subst hc
      refine ⟨by simpa [Value.cells] using hl, fun j q u hq hu => ?_⟩
      simp only [List.getElem?_map, Option.map_eq_some_iff] at hq
      obtain ⟨x, hx, rfl⟩ := hq
      simp only [Value.cells] at hu
      exact ⟨.g _ _ (hh j x u hx hu), h1 u (by rw [Array.mem_toList_iff]; exact Array.mem_of_getElem? hu)⟩
    | raw v =>
      simp only [pvCells] at hc
      split at hc
      · rename_i h1; simp at hc; subst hc; exact one (.g _ _ (.raw _)) h1
      · cases hc
    | int k n => simp [pvCells] at hc; subst hc; exact one (.g _ _ (.int _ _)) rfl
    | bool b => simp [pvCells] at hc; subst hc; exact one (.g _ _ (.bool _)) rfl
    | str s => simp [pvCells] at hc; subst hc; exact one (.g _ _ (.str _)) rfl
    | nil => simp [pvCells] at hc; subst hc; exact one (.g _ _ .nil) rfl
    | sl es a cap size f ha hcc hm hs hf hh => simp [pvCells] at hc; subst hc; exact one (.g _ _ (.sl es a cap size f ha hcc hm hs hf hh)) rfl
  | own es id v t hg ht hs hl hv =>
    simp [pvCells] at hc; subst hc
    exact one (.own es id v t hg ht hs hl hv) (hg.oneCell (by simp) (by simp))
  | ptr b off blk hb => simp [pvCells] at hc; subst hc; exact one (.ptr _ _ _ hb) rfl
  | nilp => simp [pvCells] at hc; subst hc; exact one .nilp rfl
  | nils => simp [pvCells] at hc; subst hc; exact one .nils rfl
  | pat cs a f ha hf hh => simp [pvCells] at hc; subst hc; exact one (.pat cs a f ha hf hh) rfl
  | clo fn ps qs us vs hp hq h1 h2 => simp [pvCells] at hc; subst hc; exact one (.clo fn ps qs us vs hp hq h1 h2) rfl
  | agg gs vs hl h1 hh =>
    simp [pvCells] at hc; subst hc
    refine ⟨hl, fun j q u hq hu => ?_⟩
    simp only [Value.cells] at hu
    exact ⟨hh j q u hq hu, h1 u (by rw [Array.mem_toList_iff]; exact Array.mem_of_getElem? hu)⟩
  | tuple => cases hc
  | lit es a h => simp [pvCells] at hc; subst hc; exact one (.lit es a h) rfl
  | mar id n v t ht hn h1 hv => simp [pvCells] at hc; subst hc; exact one (.mar id n v t ht hn h1 hv) h1
  | mref id n i off v t ht hn h1 hv => simp [pvCells] at hc; subst hc; exact one (.mref id n i off v t ht hn h1 hv) rfl
  | mp id v t ht h1 hv => simp [pvCells] at hc; subst hc; exact one (.mp id v t ht h1 hv) h1
  | any => cases hc

/-- Cells that are all ground. -/
def allG : List PV → Option (List GV)
  | [] => some []
  | p :: r =>
    match p with
    | .g x => (allG r).map (x :: ·)
    | .nils => (allG r).map (.sl [] :: ·)
    | .own es _ => (allG r).map (.sl es :: ·)
    | .lit es => (allG r).map (.sl es :: ·)
    | _ => none

/-- A value said without its identity, where that can be. -/
def pack : PV → PV
  | .own es _ => .g (.sl es)
  | .lit es => .g (.sl es)
  | .nils => .g (.sl [])
  | .agg cs => match allG cs with | some gs => .g (.agg gs) | none => .agg cs
  | p => p

theorem allG_ok {c : Ctx} : ∀ {cs : List PV} {gs : List GV}, allG cs = some gs → gs.length = cs.length ∧ ∀ (i : Nat) (g : GV) (p : PV), gs[i]? = some g → cs[i]? = some p → ∀ v, RV c p v → RG c.w c.stab g v
  | [], gs, h => by simp [allG] at h; subst h; simp
  | p :: r, gs, h => by
    have key : ∀ (x : GV), (∀ v, RV c p v → RG c.w c.stab x v) → (allG r).map (x :: ·) = some gs → gs.length = (p :: r).length ∧ ∀ (i : Nat) (g : GV) (q : PV), gs[i]? = some g → (p :: r)[i]? = some q → ∀ v, RV c q v → RG c.w c.stab g v := by
      intro x hx he
      simp only [Option.map_eq_some_iff] at he
      obtain ⟨gs', hr, rfl⟩ := he
      obtain ⟨h1, h2⟩ := allG_ok (c := c) hr
      refine ⟨by simpa using h1, fun i g q hg hq v hv => ?_⟩
      cases i with
      | zero => simp at hg hq; subst hg; subst hq; exact hx v hv
      | succ i => exact h2 i g q (by simpa using hg) (by simpa using hq) v hv
    unfold allG at h
    split at h
    · exact key _ (fun v hv => by cases hv; assumption) h
    · exact key _ (fun v hv => by cases hv; exact .nil) h
    · exact key _ (fun v hv => by cases hv; assumption) h
    · exact key _ (fun v hv => by cases hv; assumption) h
    · cases h

theorem pack_ok {c : Ctx} {p : PV} {v : Value} (h : RV c p v) : RV c (pack p) v := by
  unfold pack
  split
  · cases h with | own es id v t hg => exact .g _ _ hg
  · cases h with | lit es a hg => exact .g _ _ hg
  · cases h; exact .g _ _ .nil
  · rename_i cs
    split
    · rename_i gs hgs
      cases h with
      | agg _ vs hl h1 hh =>
        obtain ⟨e1, e2⟩ := allG_ok (c := c) hgs
        refine .g _ _ (.agg _ _ (e1.trans hl) h1 fun i g u hg hu => ?_)
        have hi : i < cs.length := by rw [← e1]; exact (List.getElem?_eq_some_iff.1 hg).1
        exact e2 i g _ hg (List.getElem?_eq_getElem hi) u (hh i _ u (List.getElem?_eq_getElem hi) hu)
    · exact h
  · exact h

/-! ### Operations that leave the world as it is -/
section
variable {P : Program} {o : Oper} {ρ : Operand → PV} {H : PH}

theorem PO_val {v : PV} (h : ∀ (c : Ctx) (ρr : Operand → Value), Rel P c H → (∀ x ∈ o.op.operands.toList, RV c (ρ x) (ρr x)) → ∃ rv, (execOp ρr o).run P c.w = .ok (.value rv) c.w ∧ RV c v rv) : PO P o ρ H v H := by
  intro c ρr hr hx
  obtain ⟨rv, h1, h2⟩ := h c ρr hr hx
  unfold OpGoes
  rw [h1]
  exact ⟨c, rfl, hr, Evo.refl c, h2⟩

theorem PO_move {x : Operand} (ho : o.op = .move x) : PO P o ρ H (ρ x) H :=
  PO_val fun c ρr hr hx => ⟨ρr x, by simp [execOp, ho], hx x (by simp [ho, Op.operands])⟩

theorem PO_assign {x : Operand} (ho : o.op = .assign x) : PO P o ρ H (ρ x) H :=
  PO_val fun c ρr hr hx => ⟨ρr x, by simp [execOp, ho], hx x (by simp [ho, Op.operands])⟩

theorem RV_bool {c : Ctx} {b : Bool} {v : Value} (h : RV c (.g (.bool b)) v) : v = .bool b := by cases h with | g x v hg => cases hg; rfl
theorem RV_int {c : Ctx} {k : IntKind} {n : Int} {v : Value} (h : RV c (.g (.int k n)) v) : v = .int k n := by cases h with | g x v hg => cases hg; rfl
theorem RV_str {c : Ctx} {s : ByteArray} {v : Value} (h : RV c (.g (.str s)) v) : v = .string s := by cases h with | g x v hg => cases hg; rfl
theorem RV_raw {c : Ctx} {u : Value} {v : Value} (h : RV c (.g (.raw u)) v) : v = u := by cases h with | g x v hg => cases hg; rfl

theorem PO_pick {x y z : Operand} {b : Bool} (ho : o.op = .pick x y z) (hb : ρ x = .g (.bool b)) : PO P o ρ H (if b then ρ y else ρ z) H :=
  PO_val fun c ρr hr hx => by
    have h1 := hx x (by simp [ho, Op.operands])
    rw [hb] at h1
    refine ⟨if b then ρr y else ρr z, by simp [execOp, ho, RV_bool h1, asBool], ?_⟩
    split
    · exact hx y (by simp [ho, Op.operands])
    · exact hx z (by simp [ho, Op.operands])

theorem PO_fieldAddr_ptr {s : TypeId} {x : Operand} {k b off d : Nat} {ft : TypeId} (ho : o.op = .fieldAddr s x k) (hf : fieldB P s k = some (d, ft)) (hp : ρ x = .ptr b off) : PO P o ρ H (.ptr b (off + d)) H :=
  PO_val fun c ρr hr hx => by
    have h1 := hx x (by simp [ho, Op.operands])
    rw [hp] at h1
    generalize hv : ρr x = v at h1
    cases h1 with
    | ptr _ _ blk hb =>
      refine ⟨.pointer (some ⟨blk, off + d, none⟩), ?_, .ptr _ _ _ hb⟩
      simp [execOp, ho, hv, run_fieldAt hf, add_eq]

theorem PO_fieldAddr_mref {s : TypeId} {x : Operand} {k id n i off d : Nat} {ft : TypeId} (ho : o.op = .fieldAddr s x k) (hf : fieldB P s k = some (d, ft)) (hp : ρ x = .mref id n i off) : PO P o ρ H (.mref id n i (off + d)) H :=
  PO_val fun c ρr hr hx => by
    have h1 := hx x (by simp [ho, Op.operands])
    rw [hp] at h1
    generalize hv : ρr x = v at h1
    cases h1 with
    | mref _ _ _ _ a t ht hn hs hv' =>
      refine ⟨.pointer (some (a.add d)), by simp [execOp, ho, hv, run_fieldAt hf], .mref id n i (off + d) _ t ht hn (add_spot a d hs) (fun e => ?_)⟩
      rw [add_eq _ _ hs, hv' e]
      simp [Nat.add_assoc]

theorem PO_fieldAddr_pat {s : TypeId} {x : Operand} {k d : Nat} {ft : TypeId} {cs : List GV} (ho : o.op = .fieldAddr s x k) (hf : fieldB P s k = some (d, ft)) (hp : ρ x = .pat cs) : PO P o ρ H (.pat (cs.drop d)) H :=
  PO_val fun c ρr hr hx => by
    have h1 := hx x (by simp [ho, Op.operands])
    rw [hp] at h1
    generalize hv : ρr x = v at h1
    cases h1 with
    | pat _ a f ha hf' hh =>
      refine ⟨.pointer (some (a.add d)), by simp [execOp, ho, hv, run_fieldAt hf], .pat _ _ (fun j => f (d + j)) (add_spot a d ha) (fun j hj => ?_) (fun j g hg => hh (d + j) g (by simpa using hg))⟩
      have h2 := hf' (d + j) (by simp at hj; omega)
      rw [add_eq a _ ha] at h2
      rw [add_eq _ _ (add_spot a d ha), add_block, add_off, Nat.add_assoc]
      exact h2

/-- A struct's cells out of a list of cells. -/
def packCells (cs : List PV) : PV := pack (.agg cs)

theorem loadCells_box {c : Ctx} (hr : Rel P c H) {b blk : Nat} {cs : List PV} (hb : c.σ[b]? = some blk) (hc : H.bx[b]? = some cs) :
    ∃ vals : Array Value, vals.size = cs.length ∧ (∀ j, j < vals.size → c.w.cell? ⟨blk, j, none⟩ = some (vals.getD j undef)) ∧ ∀ (j : Nat) (p : PV), cs[j]? = some p → RV c p (vals.getD j undef) ∧ (vals.getD j undef).oneCell' = true := by
  obtain ⟨vals, T, h1, h2, h3⟩ := hr.bx b blk cs hb hc
  refine ⟨vals, h2, fun j hj => ?_, fun j p hp => ?_⟩
  · simp [World.cell?, h1, Array.getD_eq_getD_getElem?, hj]
  · have hj : j < vals.size := by rw [h2]; exact (List.getElem?_eq_some_iff.1 hp).1
    have := h3 j p vals[j] hp (by simp [hj])
    simpa [Array.getD_eq_getD_getElem?, hj] using this

theorem run_loadVar_agg {w : World} {t : TypeId} {n : Nat} (h1 : aggB P t = some true) (h2 : szB P t = some n) (a : Addr) (f : Nat → Value) (hc : ∀ j, j < n → w.cell? (a.add j) = some (f j)) :
    (loadVar t a).run P w = .ok (.agg (((List.range n).map f).toArray)) w := by
  simp only [loadVar, Sem.run_bind, run_isAgg h1, run_sizeOf h2, Result.andThen_ok, if_true]
  rw [run_loadCells w a n f hc]
  simp

theorem run_loadVar_one {w : World} {t : TypeId} (h1 : aggB P t = some false) (a : Addr) (v : Value) (hc : w.cell? a = some v) : (loadVar t a).run P w = .ok v w := by
  simp [loadVar, run_isAgg h1, hc]

theorem PO_load_ptr_one {t : TypeId} {x : Operand} {b off : Nat} {cs : List PV} {v : PV} (ho : o.op = .load t x) (h1 : aggB P t = some false) (hp : ρ x = .ptr b off) (hb : H.bx[b]? = some cs) (hv : cs[off]? = some v) : PO P o ρ H v H :=
  PO_val fun c ρr hr hx => by
    have hx1 := hx x (by simp [ho, Op.operands])
    rw [hp] at hx1
    generalize hrx : ρr x = u at hx1
    cases hx1 with
    | ptr _ _ blk hblk =>
      obtain ⟨vals, e1, e2, e3⟩ := loadCells_box hr hblk hb
      refine ⟨_, ?_, (e3 off v hv).1⟩
      have := e2 off (by rw [e1]; exact (List.getElem?_eq_some_iff.1 hv).1)
      simp [execOp, ho, hrx, Instr.loadAt, Instr.sureAddr, run_loadVar_one h1 _ _ this]

theorem PO_load_ptr_agg {t : TypeId} {x : Operand} {b off n : Nat} {cs : List PV} (ho : o.op = .load t x) (h1 : aggB P t = some true) (h2 : szB P t = some n) (hp : ρ x = .ptr b off) (hb : H.bx[b]? = some cs) (hn : off + n ≤ cs.length) :
    PO P o ρ H (.agg ((cs.drop off).take n)) H :=
  PO_val fun c ρr hr hx => by
    have hx1 := hx x (by simp [ho, Op.operands])
    rw [hp] at hx1
    generalize hrx : ρr x = u at hx1
    cases hx1 with
    | ptr _ _ blk hblk =>
      obtain ⟨vals, e1, e2, e3⟩ := loadCells_box hr hblk hb
      have hl := run_loadVar_agg (w := c.w) h1 h2 ⟨blk, off, none⟩ (fun j => vals.getD (off + j) undef) (fun j hj => by rw [add_eq _ _ rfl]; exact e2 (off + j) (by omega))
      refine ⟨_, by simp only [execOp, ho, hrx, Instr.loadAt, Instr.sureAddr]; simp [hl]; rfl, ?_⟩
      refine .agg _ _ (by simp; omega) ?_ ?_
      · intro v hv
        simp at hv
        obtain ⟨j, hj, rfl⟩ := hv
        have := (e3 (off + j) (cs[off + j]'(by omega)) (by simp)).2
        simpa [Array.getD_eq_getD_getElem?] using this
      · intro i p v hi hv
        simp [List.getElem?_take] at hi hv
        obtain ⟨hlt, hi⟩ := hi
        obtain ⟨i', h0, rfl⟩ := hv
        obtain ⟨h0, rfl⟩ := List.getElem?_eq_some_iff.1 h0
        rw [List.getElem_range]
        have := (e3 (off + i) p hi).1
        simpa [Array.getD_eq_getD_getElem?] using this

theorem PO_load_pat_one {t : TypeId} {x : Operand} {cs : List GV} {g : GV} (ho : o.op = .load t x) (h1 : aggB P t = some false) (hp : ρ x = .pat cs) (hv : cs[0]? = some g) : PO P o ρ H (.g g) H :=
  PO_val fun c ρr hr hx => by
    have hx1 := hx x (by simp [ho, Op.operands])
    rw [hp] at hx1
    generalize hrx : ρr x = u at hx1
    cases hx1 with
    | pat _ a f ha hf hh =>
      have h3 := (hf 0 (List.getElem?_eq_some_iff.1 hv).1).1
      rw [show a.add 0 = a from rfl] at h3
      exact ⟨f 0, by simp [execOp, ho, hrx, Instr.loadAt, Instr.sureAddr, run_loadVar_one h1 _ _ h3], .g _ _ (hh 0 g hv)⟩

theorem PO_load_pat_agg {t : TypeId} {x : Operand} {n : Nat} {cs : List GV} (ho : o.op = .load t x) (h1 : aggB P t = some true) (h2 : szB P t = some n) (hp : ρ x = .pat cs) (hn : n ≤ cs.length) :
    PO P o ρ H (.g (.agg (cs.take n))) H :=
  PO_val fun c ρr hr hx => by
    have hx1 := hx x (by simp [ho, Op.operands])
    rw [hp] at hx1
    generalize hrx : ρr x = u at hx1
    cases hx1 with
    | pat _ a f ha hf hh =>
      have hl := run_loadVar_agg (w := c.w) h1 h2 a f (fun j hj => (hf j (by omega)).1)
      refine ⟨_, by simp only [execOp, ho, hrx, Instr.loadAt, Instr.sureAddr]; simp [hl]; rfl, .g _ _ (.agg _ _ (by simp; omega) ?_ ?_)⟩
      · intro v hv
        simp at hv
        obtain ⟨j, hj, rfl⟩ := hv
        exact (hf j (by omega)).2.2
      · intro i g v hi hv
        simp [List.getElem?_take] at hi hv
        obtain ⟨i', h0, rfl⟩ := hv
        obtain ⟨h0, rfl⟩ := List.getElem?_eq_some_iff.1 h0
        rw [List.getElem_range]
        exact hh i g hi.2
end
end Go.Pure

/- A generic layer: how memory may grow and be written. -/
namespace Go.Pure
open Go

/-- A world with more blocks. -/
structure Ext (w w' : World) : Prop where
  os : w'.os = w.os
  tape : w'.tape = w.tape
  output : w'.output = w.output
  size : w.heap.size ≤ w'.heap.size
  old : ∀ b, b < w.heap.size → w'.heap[b]? = w.heap[b]?

theorem Ext.refl (w : World) : Ext w w := ⟨rfl, rfl, rfl, Nat.le_refl _, fun _ _ => rfl⟩
theorem Ext.drew (w : World) : Ext w w.drew := ⟨rfl, rfl, rfl, Nat.le_refl _, fun _ _ => rfl⟩
theorem Ext.alloc (w : World) (o : Obj) : Ext w (w.alloc o) := ⟨rfl, rfl, rfl, by simp, fun b hb => Go.heap_alloc_old w o b hb⟩
theorem Ext.trans {a b c : World} (h : Ext a b) (k : Ext b c) : Ext a c :=
  ⟨k.os.trans h.os, k.tape.trans h.tape, k.output.trans h.output, Nat.le_trans h.size k.size, fun x hx => (k.old x (Nat.lt_of_lt_of_le hx h.size)).trans (h.old x hx)⟩
theorem Ext.cell {w w' : World} (h : Ext w w') {a : Addr} {v : Value} (hc : w.cell? a = some v) : w'.cell? a = some v :=
  (World.cell?_of_block (h.old a.block (World.block_lt_of_cell? w a hc))).trans hc

/-- More blocks, more boxes, more arrays: all in new memory. -/
theorem evo_ext {c : Ctx} {w' : World} (h : Ext c.w w') (n : List Nat) (m : List Tok) (q : List MTok) (hn : ∀ b ∈ n, c.w.heap.size ≤ b) (hm : ∀ t ∈ m, t.live = true → c.w.heap.size ≤ t.g) (hq : ∀ t ∈ q, t.live = true → c.w.heap.size ≤ t.g) :
    Evo c ⟨c.σ ++ n, c.τ ++ m, c.μ ++ q, c.hid, w'⟩ := by
  refine ⟨h.os, h.tape, h.output, h.size, rfl, ⟨n, rfl, hn⟩, fun id t ht => ⟨t, ?_, rfl, rfl, .inl rfl⟩, fun id t ht => ⟨t, ?_, rfl, .inl rfl⟩, fun t ht lv => ?_, fun t ht lv => ?_, fun a v ha hs hc => ?_, fun b hb _ _ _ => h.old b hb⟩
  · show (c.τ ++ m)[id]? = some t
    rw [List.getElem?_append_left (List.getElem?_eq_some_iff.1 ht).1]; exact ht
  · show (c.μ ++ q)[id]? = some t
    rw [List.getElem?_append_left (List.getElem?_eq_some_iff.1 ht).1]; exact ht
  · rcases List.mem_append.1 ht with ht | ht
    · exact .inl ⟨t, ht, lv, rfl⟩
    · exact .inr (hq t ht lv)
  · rcases List.mem_append.1 ht with ht | ht
    · exact .inl ⟨t, ht, lv, rfl⟩
    · exact .inr (hm t ht lv)
  · have hlt := World.block_lt_of_cell? c.w a hc
    refine ⟨h.cell hc, hs.1, fun hmem => ?_, fun t ht lv e => ?_, fun t ht lv e => ?_⟩
    · rcases List.mem_append.1 hmem with hmem | hmem
      · exact hs.2.1 hmem
      · have := hn _ hmem; omega
    · rcases List.mem_append.1 ht with ht | ht
      · exact hs.2.2.1 t ht lv e
      · have := hm t ht lv; omega
    · rcases List.mem_append.1 ht with ht | ht
      · exact hs.2.2.2 t ht lv e
      · have := hq t ht lv; omega

section
variable {P : Program} {c : Ctx} {H : PH}

theorem Rel.tlt (hr : Rel P c H) {t : Tok} (ht : t ∈ c.τ) (lv : t.live = true) : t.g < c.w.heap.size := by
  obtain ⟨cur, h, _⟩ := hr.tb t ht lv
  exact (Array.getElem?_eq_some_iff.1 h).1

theorem Rel.ext (hr : Rel P c H) {w' : World} (h : Ext c.w w') (n : List (Nat × List PV)) (m : List Tok) (q : List (MTok × MO))
    (hn : ∀ x ∈ n, c.w.heap.size ≤ x.1 ∧ x.1 < w'.heap.size ∧ ∃ (vals : Array Value) (T : TypeId), w'.heap[x.1]? = some (.cells vals T (0, 0)) ∧ vals.size = x.2.length ∧
      ∀ (j : Nat) (p : PV) (v : Value), x.2[j]? = some p → vals[j]? = some v → RV ⟨c.σ ++ n.map (·.1), c.τ ++ m, c.μ ++ q.map (·.1), c.hid, w'⟩ p v ∧ v.oneCell' = true)
    (hnd : (n.map (·.1)).Nodup) (hmd : ∀ (i j : Nat) (t t' : Tok), m[i]? = some t → m[j]? = some t' → t.live = true → t'.live = true → t.g = t'.g → i = j) (hmz : ∀ t ∈ m, t.live = false → t.hw = 0 ∧ (P.info? t.e).map (·.size) = some t.size)
    (hm : ∀ t ∈ m, t.live = true → c.w.heap.size ≤ t.g ∧ t.g ∉ n.map (·.1) ∧ ∃ cur, w'.heap[t.g]? = some (.cells cur t.e (0, 0)) ∧ cur.size = t.cap * t.size ∧ t.hw ≤ t.cap ∧ t.cap ≤ maxLen ∧ (P.info? t.e).map (·.size) = some t.size)
    (hq : ∀ x ∈ q, MOk P ⟨c.σ ++ n.map (·.1), c.τ ++ m, c.μ ++ q.map (·.1), c.hid, w'⟩ x.1 x.2) (hql : ∀ x ∈ q, x.1.live = true → c.w.heap.size ≤ x.1.g ∧ x.1.g < w'.heap.size ∧ x.1.g ∉ n.map (·.1) ∧ ∀ t ∈ m, t.live = true → x.1.g ≠ t.g)
    (hqd : ∀ (i j : Nat) (t t' : MTok), (q.map (·.1))[i]? = some t → (q.map (·.1))[j]? = some t' → t.live = true → t'.live = true → t.g = t'.g → i = j) :
    Rel P ⟨c.σ ++ n.map (·.1), c.τ ++ m, c.μ ++ q.map (·.1), c.hid, w'⟩ ⟨H.bx ++ n.map (·.2), H.tk ++ m.map (fun t => (t.e, t.hw)), H.mu ++ q.map (·.2)⟩ := by
  have hE := evo_ext h (n.map (·.1)) m (q.map (·.1)) (fun b hb => by obtain ⟨x, hx, rfl⟩ := List.mem_map.1 hb; exact (hn x hx).1) (fun t ht lv => (hm t ht lv).1) (fun t ht lv => by obtain ⟨x, hx, rfl⟩ := List.mem_map.1 ht; exact (hql x hx lv).1)
  have slt : ∀ b ∈ c.σ, b < c.w.heap.size := hr.shid
  refine ⟨by simp [hr.len], ?_, by simp [hr.tk], ?_, ?_, ?_, ?_, ?_, ?_, ?_, ?_, by simp [hr.mlen], ?_, ?_, ?_, ?_, ?_, ?_⟩
  · intro i b cs hb hcs
    simp only at hb hcs
    by_cases hi : i < c.σ.length
    · rw [List.getElem?_append_left hi] at hb
      rw [List.getElem?_append_left (by rw [← hr.len]; exact hi)] at hcs
      obtain ⟨vals, T, h1, h2, h3⟩ := hr.bx i b cs hb hcs
      refine ⟨vals, T, ?_, h2, fun j p v hp hv => ⟨(h3 j p v hp hv).1.mono hE, (h3 j p v hp hv).2⟩⟩
      rw [← h1]
      exact h.old b (slt b (List.mem_of_getElem? hb))
    · rw [List.getElem?_append_right (by omega)] at hb
      rw [List.getElem?_append_right (by rw [← hr.len]; omega), ← hr.len] at hcs
      rw [List.getElem?_map, Option.map_eq_some_iff] at hb hcs
      obtain ⟨x, hx, rfl⟩ := hb
      obtain ⟨y, hy, rfl⟩ := hcs
      rw [hx] at hy
      cases hy
      obtain ⟨_, _, vals, T, h1, h2, h3⟩ := hn x (List.mem_of_getElem? hx)
      exact ⟨vals, T, h1, h2, h3⟩
  · intro t ht lv
    rcases List.mem_append.1 ht with ht | ht
    · obtain ⟨cur, h1, h2⟩ := hr.tb t ht lv
      exact ⟨cur, by rw [← h1]; exact h.old t.g (hr.tlt ht lv), h2⟩
    · exact (hm t ht lv).2.2
  · refine List.nodup_append.2 ⟨hr.nd, hnd, fun a ha b hb e => ?_⟩
    obtain ⟨x, hx, rfl⟩ := List.mem_map.1 hb
    have := slt a ha
    have := (hn x hx).1
    omega
  · intro i j t t' hi hj lv lv' e
    replace hi : (c.τ ++ m)[i]? = some t := hi
    replace hj : (c.τ ++ m)[j]? = some t' := hj
    by_cases h1 : i < c.τ.length <;> by_cases h2 : j < c.τ.length
    · rw [List.getElem?_append_left h1] at hi
      rw [List.getElem?_append_left h2] at hj
      exact hr.td i j t t' hi hj lv lv' e
    · rw [List.getElem?_append_left h1] at hi
      rw [List.getElem?_append_right (by omega)] at hj
      have := hr.tlt (List.mem_of_getElem? hi) lv
      have := (hm t' (List.mem_of_getElem? hj) lv').1
      omega
    · rw [List.getElem?_append_right (by omega)] at hi
      rw [List.getElem?_append_left h2] at hj
      have := hr.tlt (List.mem_of_getElem? hj) lv'
      have := (hm t (List.mem_of_getElem? hi) lv).1
      omega
    · rw [List.getElem?_append_right (by omega)] at hi hj
      have := hmd _ _ t t' hi hj lv lv' e
      omega
  · intro t ht lv hmem
    simp only at ht hmem
    rcases List.mem_append.1 ht with ht | ht
    · rcases List.mem_append.1 hmem with hmem | hmem
      · exact hr.st t ht lv hmem
      · obtain ⟨x, hx, e⟩ := List.mem_map.1 hmem
        have := hr.tlt ht lv
        have := (hn x hx).1
        omega
    · rcases List.mem_append.1 hmem with hmem | hmem
      · have := slt _ hmem
        have := (hm t ht lv).1
        omega
      · exact (hm t ht lv).2.1 hmem
  · exact fun b p hb => Nat.lt_of_lt_of_le (hr.hidlt b p hb) h.size
  · intro t ht lv p hp
    rcases List.mem_append.1 ht with ht | ht
    · exact hr.thid t ht lv p hp
    · have := hr.hidlt _ _ hp
      have := (hm t ht lv).1
      omega
  · intro b hb
    rcases List.mem_append.1 hb with hb | hb
    · exact Nat.lt_of_lt_of_le (slt b hb) h.size
    · obtain ⟨x, hx, rfl⟩ := List.mem_map.1 hb
      exact (hn x hx).2.1
  · intro t ht lv
    rcases List.mem_append.1 ht with ht | ht
    · exact hr.dead t ht lv
    · exact hmz t ht lv
  · intro i t o hi ho
    simp only at hi ho
    by_cases h1 : i < c.μ.length
    · rw [List.getElem?_append_left h1] at hi
      rw [List.getElem?_append_left (by rw [← hr.mlen]; exact h1)] at ho
      exact (hr.mu i t o hi ho).mono hE fun lv => h.old _ (hr.mlt t (List.mem_of_getElem? hi) lv)
    · rw [List.getElem?_append_right (by omega)] at hi
      rw [List.getElem?_append_right (by rw [← hr.mlen]; omega), ← hr.mlen] at ho
      rw [List.getElem?_map, Option.map_eq_some_iff] at hi ho
      obtain ⟨x, hx, rfl⟩ := hi
      obtain ⟨y, hy, rfl⟩ := ho
      rw [hx] at hy
      cases hy
      exact hq x (List.mem_of_getElem? hx)
  · intro t ht lv
    rcases List.mem_append.1 ht with ht | ht
    · exact Nat.lt_of_lt_of_le (hr.mlt t ht lv) h.size
    · obtain ⟨x, hx, rfl⟩ := List.mem_map.1 ht
      exact (hql x hx lv).2.1
  · intro i j t t' hi hj lv lv' e
    replace hi : (c.μ ++ q.map (·.1))[i]? = some t := hi
    replace hj : (c.μ ++ q.map (·.1))[j]? = some t' := hj
    have qlt : ∀ t ∈ q.map (·.1), t.live = true → c.w.heap.size ≤ t.g := fun t ht lv => by obtain ⟨x, hx, rfl⟩ := List.mem_map.1 ht; exact (hql x hx lv).1
    by_cases h1 : i < c.μ.length <;> by_cases h2 : j < c.μ.length
    · rw [List.getElem?_append_left h1] at hi
      rw [List.getElem?_append_left h2] at hj
      exact hr.md i j t t' hi hj lv lv' e
    · rw [List.getElem?_append_left h1] at hi
      rw [List.getElem?_append_right (by omega)] at hj
      have := hr.mlt t (List.mem_of_getElem? hi) lv
      have := qlt t' (List.mem_of_getElem? hj) lv'
      omega
    · rw [List.getElem?_append_right (by omega)] at hi
      rw [List.getElem?_append_left h2] at hj
      have := hr.mlt t' (List.mem_of_getElem? hj) lv'
      have := qlt t (List.mem_of_getElem? hi) lv
      omega
    · rw [List.getElem?_append_right (by omega)] at hi hj
      have := hqd _ _ t t' hi hj lv lv' e
      omega
  · intro t ht lv hmem
    simp only at ht hmem
    rcases List.mem_append.1 ht with ht | ht
    · rcases List.mem_append.1 hmem with hmem | hmem
      · exact hr.ms t ht lv hmem
      · obtain ⟨x, hx, e⟩ := List.mem_map.1 hmem
        have := hr.mlt t ht lv
        have := (hn x hx).1
        omega
    · obtain ⟨y, hy, rfl⟩ := List.mem_map.1 ht
      rcases List.mem_append.1 hmem with hmem | hmem
      · have := slt _ hmem
        have := (hql y hy lv).1
        omega
      · exact (hql y hy lv).2.2.1 hmem
  · intro t ht lv t' ht' lv' e
    simp only at ht ht'
    rcases List.mem_append.1 ht with ht | ht
    · rcases List.mem_append.1 ht' with ht' | ht'
      · exact hr.mt t ht lv t' ht' lv' e
      · have := hr.mlt t ht lv
        have := (hm t' ht' lv').1
        omega
    · obtain ⟨y, hy, rfl⟩ := List.mem_map.1 ht
      rcases List.mem_append.1 ht' with ht' | ht'
      · have := hr.tlt ht' lv'
        have := (hql y hy lv).1
        omega
      · exact (hql y hy lv).2.2.2 t' ht' lv' e
  · intro t ht lv p hp
    rcases List.mem_append.1 ht with ht | ht
    · exact hr.mhid t ht lv p hp
    · obtain ⟨y, hy, rfl⟩ := List.mem_map.1 ht
      have := hr.hidlt _ _ hp
      have := (hql y hy lv).1
      omega

theorem Rel.grow (hr : Rel P c H) {w' : World} (h : Ext c.w w') : Rel P ⟨c.σ, c.τ, c.μ, c.hid, w'⟩ H ∧ Evo c ⟨c.σ, c.τ, c.μ, c.hid, w'⟩ := by
  have h1 := hr.ext h [] [] [] (by simp) (by simp) (by simp) (by simp) (by simp) (by simp) (by simp) (by simp)
  have h2 := evo_ext h [] [] [] (by simp) (by simp) (by simp)
  simpa using And.intro h1 h2

theorem Rel.addBox (hr : Rel P c H) {w' : World} (h : Ext c.w w') {blk : Nat} (h1 : c.w.heap.size ≤ blk) (h2 : blk < w'.heap.size) {vals : Array Value} {T : TypeId} {cs : List PV}
    (hb : w'.heap[blk]? = some (.cells vals T (0, 0))) (hl : vals.size = cs.length)
    (hv : ∀ (j : Nat) (p : PV) (v : Value), cs[j]? = some p → vals[j]? = some v → RV c p v ∧ v.oneCell' = true) :
    Rel P ⟨c.σ ++ [blk], c.τ, c.μ, c.hid, w'⟩ ⟨H.bx ++ [cs], H.tk, H.mu⟩ ∧ Evo c ⟨c.σ ++ [blk], c.τ, c.μ, c.hid, w'⟩ := by
  have e2 := evo_ext h [blk] [] [] (by simpa using h1) (by simp) (by simp)
  simp only [List.append_nil] at e2
  have e1 := hr.ext h [(blk, cs)] [] [] (by
    intro x hx
    simp at hx
    subst hx
    refine ⟨h1, h2, vals, T, hb, hl, fun j p v hp hv' => ⟨?_, (hv j p v hp hv').2⟩⟩
    simpa using (hv j p v hp hv').1.mono e2) (by simp) (by simp) (by simp) (by simp) (by simp) (by simp) (by simp)
  simp only [List.map_cons, List.map_nil, List.append_nil] at e1
  exact ⟨e1, e2⟩

theorem Rel.addTok (hr : Rel P c H) {w' : World} (h : Ext c.w w') {t : Tok} (lv : t.live = true) (h1 : c.w.heap.size ≤ t.g) {cur : Array Value}
    (hb : w'.heap[t.g]? = some (.cells cur t.e (0, 0))) (hl : cur.size = t.cap * t.size) (hc : t.hw ≤ t.cap) (hm : t.cap ≤ maxLen) (hz : szB P t.e = some t.size) :
    Rel P ⟨c.σ, c.τ ++ [t], c.μ, c.hid, w'⟩ ⟨H.bx, H.tk ++ [(t.e, t.hw)], H.mu⟩ ∧ Evo c ⟨c.σ, c.τ ++ [t], c.μ, c.hid, w'⟩ := by
  have e2 := evo_ext h [] [t] [] (by simp) (by simp [h1]) (by simp)
  simp only [List.append_nil] at e2
  have e1 := hr.ext h [] [t] [] (by simp) (by simp) (by
    intro i j t1 t2 h1 h2
    have := (List.getElem?_eq_some_iff.1 h1).1
    have := (List.getElem?_eq_some_iff.1 h2).1
    simp at *
    omega) (by simp [lv]) (by
    intro t' ht' _
    simp at ht'
    subst ht'
    exact ⟨h1, by simp, cur, hb, hl, hc, hm, hz⟩) (by simp) (by simp) (by simp)
  simp only [List.map_cons, List.map_nil, List.append_nil] at e1
  exact ⟨e1, e2⟩

/-- Something new that may be written. -/
theorem Rel.addMu (hr : Rel P c H) {w' : World} (h : Ext c.w w') {t : MTok} {o : MO} (h1 : t.live = true → c.w.heap.size ≤ t.g ∧ t.g < w'.heap.size)
    (ho : MOk P ⟨c.σ, c.τ, c.μ ++ [t], c.hid, w'⟩ t o) :
    Rel P ⟨c.σ, c.τ, c.μ ++ [t], c.hid, w'⟩ ⟨H.bx, H.tk, H.mu ++ [o]⟩ ∧ Evo c ⟨c.σ, c.τ, c.μ ++ [t], c.hid, w'⟩ := by
  have e2 := evo_ext h [] [] [t] (by simp) (by simp) (by simpa using fun lv => (h1 lv).1)
  simp only [List.append_nil] at e2
  have e1 := hr.ext h [] [] [(t, o)] (by simp) (by simp) (by simp) (by simp) (by simp) (by
    intro x hx
    simp at hx
    subst hx
    simpa using ho) (by
    intro x hx lv
    simp at hx
    subst hx
    exact ⟨(h1 lv).1, (h1 lv).2, by simp, by simp⟩) (by
    intro i j t1 t2 h1 h2
    have := (List.getElem?_eq_some_iff.1 h1).1
    have := (List.getElem?_eq_some_iff.1 h2).1
    simp at *
    omega)
  simp only [List.map_cons, List.map_nil, List.append_nil] at e1
  exact ⟨e1, e2⟩

/-- The cells of one box are written. -/
theorem Rel.setBox (hr : Rel P c H) {b blk : Nat} {cs cs' : List PV} (hb : c.σ[b]? = some blk) (hc : H.bx[b]? = some cs) {old new : Array Value} {T : TypeId}
    (ho : c.w.heap[blk]? = some (.cells old T (0, 0))) (hl : new.size = cs'.length)
    (hv : ∀ (j : Nat) (p : PV) (v : Value), cs'[j]? = some p → new[j]? = some v → RV c p v ∧ v.oneCell' = true) :
    Rel P ⟨c.σ, c.τ, c.μ, c.hid, c.w.setRow blk new⟩ ⟨H.bx.set b cs', H.tk, H.mu⟩ ∧ Evo c ⟨c.σ, c.τ, c.μ, c.hid, c.w.setRow blk new⟩ := by
  have hmem : blk ∈ c.σ := List.mem_of_getElem? hb
  have hother : ∀ k, k ≠ blk → (c.w.setRow blk new).heap[k]? = c.w.heap[k]? := fun k hk => setRow_other c.w blk k new hk
  have hE : Evo c ⟨c.σ, c.τ, c.μ, c.hid, c.w.setRow blk new⟩ := by
    refine ⟨rfl, rfl, rfl, by simp, rfl, ⟨[], by simp, by simp⟩, fun id t ht => ⟨t, ht, rfl, rfl, .inl rfl⟩, fun id t ht => ⟨t, ht, rfl, .inl rfl⟩, fun t ht lv => .inl ⟨t, ht, lv, rfl⟩, fun t ht lv => .inl ⟨t, ht, lv, rfl⟩, fun a v ha hs hcell => ⟨?_, hs⟩, fun k _ hk _ _ => hother k (fun e => hk (e ▸ hmem))⟩
    rw [← hcell]
    exact World.cell?_of_block (hother a.block (fun e => hs.2.1 (e ▸ hmem)))
  refine ⟨⟨by simp [hr.len], ?_, hr.tk, ?_, hr.nd, hr.td, hr.st, fun x p hx => by simpa using hr.hidlt x p hx, hr.thid, fun x hx => by simpa using hr.shid x hx, hr.dead, hr.mlen, ?_, fun t ht lv => by simpa using hr.mlt t ht lv, hr.md, hr.ms, hr.mt, hr.mhid⟩, hE⟩
  · intro i b' ds hb' hds
    simp only at hb' hds
    by_cases hi : i = b
    · subst hi
      rw [hb] at hb'
      cases hb'
      rw [List.getElem?_set_self (List.getElem?_eq_some_iff.1 hc).1] at hds
      cases hds
      exact ⟨new, T, setRow_heap c.w blk old new T (0, 0) ho, hl, fun j p v hp hv' => ⟨(hv j p v hp hv').1.mono hE, (hv j p v hp hv').2⟩⟩
    · rw [List.getElem?_set_ne (fun e => hi e.symm)] at hds
      obtain ⟨vals, T', h1, h2, h3⟩ := hr.bx i b' ds hb' hds
      have hne : b' ≠ blk := by
        intro e
        subst e
        obtain ⟨l1, e1⟩ := List.getElem?_eq_some_iff.1 hb
        obtain ⟨l2, e2⟩ := List.getElem?_eq_some_iff.1 hb'
        exact hi ((List.getElem_inj hr.nd).1 (e2.trans e1.symm))
      exact ⟨vals, T', by rw [← h1]; exact hother b' hne, h2, fun j p v hp hv' => ⟨(h3 j p v hp hv').1.mono hE, (h3 j p v hp hv').2⟩⟩
  · intro t ht lv
    obtain ⟨cur, h1, h2⟩ := hr.tb t ht lv
    exact ⟨cur, by rw [← h1]; exact hother t.g (fun e => hr.st t ht lv (e ▸ hmem)), h2⟩
  · intro i t o hi ho
    exact (hr.mu i t o hi ho).mono hE fun lv => hother t.g (fun e => hr.ms t (List.mem_of_getElem? hi) lv (e ▸ hmem))
end
end Go.Pure

/- A generic layer: the rules of operations that make or write boxes, calls of functions that only compute, and arithmetic. -/
namespace Go.Pure
open Go

section
variable {P : Program} {o : Oper} {ρ : Operand → PV} {H : PH}

theorem PO_alloc {t : TypeId} {z : Value} (ho : o.op = .alloc t) (hz : zeroB P t = some z) (h1 : z.cells.toList.all (·.oneCell') = true) :
    PO P o ρ H (.ptr H.bx.length 0) ⟨H.bx ++ [z.cells.toList.map constC], H.tk, H.mu⟩ := by
  intro c ρr hr hx
  have hrun : (execOp ρr o).run P c.w = .ok (.value (.pointer (some ⟨c.w.heap.size, 0, none⟩))) (c.w.alloc (.cells z.cells t)) := by
    simp [execOp, ho, Instr.alloc, run_zero hz, newVar, newRow, newObj, Sem.run]
  unfold OpGoes
  rw [hrun]
  have := hr.addBox (Ext.alloc c.w (.cells z.cells t)) (Nat.le_refl _) (by simp) (cs := z.cells.toList.map constC) (Go.heap_alloc_new c.w _) (by simp) (by
    intro j p v hp hv
    simp only [List.getElem?_map, Option.map_eq_some_iff] at hp
    obtain ⟨u, hu, rfl⟩ := hp
    rw [Array.getElem?_toList, hv] at hu
    cases hu
    exact ⟨constC_ok _ _, List.all_eq_true.1 h1 v (by rw [Array.mem_toList_iff]; exact Array.mem_of_getElem? hv)⟩)
  exact ⟨_, rfl, this.1, this.2, .ptr _ _ _ (by simp [← hr.len])⟩

theorem PO_box {t : TypeId} {x : Operand} {cs : List PV} (ho : o.op = .box t x) (hc : pvCells (ρ x) = some cs) :
    PO P o ρ H (.ptr H.bx.length 0) ⟨H.bx ++ [cs], H.tk, H.mu⟩ := by
  intro c ρr hr hx
  have hv := hx x (by simp [ho, Op.operands])
  have hrun : (execOp ρr o).run P c.w = .ok (.value (.pointer (some ⟨c.w.heap.size, 0, none⟩))) (c.w.alloc (.cells (ρr x).cells t)) := by
    simp [execOp, ho, Instr.box, newVar, newRow, newObj, Sem.run]
  unfold OpGoes
  rw [hrun]
  obtain ⟨e1, e2⟩ := pvCells_ok hv hc
  have := hr.addBox (Ext.alloc c.w (.cells (ρr x).cells t)) (Nat.le_refl _) (by simp) (cs := cs) (Go.heap_alloc_new c.w _) e1.symm e2
  exact ⟨_, rfl, this.1, this.2, .ptr _ _ _ (by simp [← hr.len])⟩

/-- Some cells in the place of others. -/
def splice (ds : List PV) (off : Nat) (cs : List PV) : List PV := ds.take off ++ cs ++ ds.drop (off + cs.length)

theorem PO_store {t : TypeId} {x y : Operand} {b off n : Nat} {cs ds : List PV} (ho : o.op = .store t x y) (hs : szB P t = some n) (hp : ρ x = .ptr b off) (hc : pvCells (ρ y) = some cs) (hn : cs.length = n)
    (hb : H.bx[b]? = some ds) (hl : off + n ≤ ds.length) : PO P o ρ H undefP ⟨H.bx.set b (splice ds off cs), H.tk, H.mu⟩ := by
  intro c ρr hr hx
  have hx1 := hx x (by simp [ho, Op.operands])
  have hy1 := hx y (by simp [ho, Op.operands])
  rw [hp] at hx1
  generalize hrx : ρr x = u at hx1
  cases hx1 with
  | ptr _ _ blk hblk =>
    obtain ⟨vals, T, e1, e2, e3⟩ := hr.bx b blk ds hblk hb
    obtain ⟨f1, f2⟩ := pvCells_ok hy1 hc
    have hone : ∀ v ∈ (ρr y).cells.toList, v.oneCell' = true := by
      intro v hv
      obtain ⟨j, hj, rfl⟩ := List.mem_iff_getElem.1 hv
      have hj' : j < cs.length := by rw [f1]; simpa using hj
      exact (f2 j cs[j] _ (List.getElem?_eq_getElem hj') (by simp)).2
    have hst := run_storeCells_at P blk off T (ρr y).cells.toList 0 vals c.w e1 (by simp <;> omega) hone
    have hrun : (execOp ρr o).run P c.w = .ok .skip (c.w.setRow blk (vals.toList.take off ++ (ρr y).cells.toList ++ vals.toList.drop (off + (ρr y).cells.size)).toArray) := by
      simp only [Nat.add_zero] at hst
      simp [execOp, ho, hrx, Instr.storeAt, Instr.sureAddr, storeVar, run_sizeOf hs, ← f1, hn, hst]
    unfold OpGoes
    rw [hrun]
    have hlen : (vals.toList.take off ++ (ρr y).cells.toList ++ vals.toList.drop (off + (ρr y).cells.size)).toArray.size = (splice ds off cs).length := by
      simp [splice, f1] <;> omega
    have := hr.setBox hblk hb e1 (cs' := splice ds off cs) hlen (by
      intro j p v hp' hv
      unfold splice at hp'
      simp only [List.getElem?_toArray] at hv
      by_cases h1 : j < off
      · rw [List.append_assoc, List.getElem?_append_left (by simp; omega)] at hp' hv
        simp only [List.getElem?_take, h1, if_true] at hp' hv
        exact e3 j p v hp' (by simpa using hv)
      · by_cases h2 : j < off + cs.length
        · rw [List.append_assoc, List.getElem?_append_right (by simp; omega), List.getElem?_append_left (by simp; omega)] at hp' hv
          have l1 : (List.take off ds).length = off := by simp; omega
          have l2 : (List.take off vals.toList).length = off := by simp; omega
          rw [l1] at hp'
          rw [l2] at hv
          exact f2 (j - off) p v hp' (by simpa using hv)
        · rw [List.getElem?_append_right (by simp; omega)] at hp' hv
          have l1 : (List.take off ds ++ cs).length = off + cs.length := by simp; omega
          have l2 : (List.take off vals.toList ++ (ρr y).cells.toList).length = off + cs.length := by simp [f1]; omega
          rw [l1, List.getElem?_drop] at hp'
          rw [l2, List.getElem?_drop] at hv
          rw [← f1] at hv
          have e : off + cs.length + (j - (off + cs.length)) = j := by omega
          rw [e] at hp' hv
          exact e3 j p v hp' (by simpa using hv))
    exact ⟨_, rfl, this.1, this.2, .g _ _ (.raw _)⟩

/-! ### Calls -/
def enterB (P : Program) (f : FuncId) : Bool := match P.funcs[f]? with | some fn => !(fn.name == "runtime.NumGoroutine") && fn.body.isSome | none => false

theorem run_callFunc {f : FuncId} (h : enterB P f = true) (args : Array Value) (w : World) : (callFunc f args).run P w = .ok (.enter f args) w := by
  unfold enterB at h
  cases hf : P.funcs[f]? with
  | none => rw [hf] at h; cases h
  | some fn =>
    rw [hf] at h
    simp only [Bool.and_eq_true, Bool.not_eq_true'] at h
    obtain ⟨h1, h2⟩ := h
    have h3 : fn.body.isNone = false := by cases hb : fn.body <;> simp_all
    simp only [callFunc, program, Sem.run_bind, Sem.run, Result.andThen_ok, hf]
    simp [h1, h3]

/-- The context of a call that gets nothing that may be written. -/
def Ctx.close (c : Ctx) : Ctx := ⟨[], [], [], fun b p => c.hid b p ∨ b ∈ c.σ ∨ (∃ t ∈ c.τ, t.live = true ∧ t.g = b ∧ ¬ p < t.hw * t.size) ∨ ∃ t ∈ c.μ, t.live = true ∧ t.g = b, c.w⟩

theorem close_stab (c : Ctx) (b p : Nat) : c.close.stab b p ↔ c.stab b p := by
  unfold Ctx.stab Ctx.close
  constructor
  · rintro ⟨h, _, _⟩
    refine ⟨fun x => h (.inl x), fun x => h (.inr (.inl x)), fun t ht lv e => ?_, fun t ht lv e => h (.inr (.inr (.inr ⟨t, ht, lv, e⟩)))⟩
    exact Classical.byContradiction fun hn => h (.inr (.inr (.inl ⟨t, ht, lv, e, hn⟩)))
  · rintro ⟨h1, h2, h3, h4⟩
    refine ⟨?_, by simp, by simp, by simp⟩
    rintro (h | h | ⟨t, ht, lv, e, hn⟩ | ⟨t, ht, lv, e⟩)
    · exact h1 h
    · exact h2 h
    · exact hn (h3 t ht lv e)
    · exact h4 t ht lv e

theorem close_stab_eq (c : Ctx) : c.close.stab = c.stab := funext fun b => funext fun p => propext (close_stab c b p)

theorem close_rel {c : Ctx} (hr : Rel P c H) : Rel P c.close ⟨[], [], []⟩ := by
  refine ⟨rfl, by simp [Ctx.close], rfl, by simp [Ctx.close], by simp [Ctx.close], by simp [Ctx.close], by simp [Ctx.close], ?_, by simp [Ctx.close], by simp [Ctx.close], by simp [Ctx.close], rfl, by simp [Ctx.close], by simp [Ctx.close], by simp [Ctx.close], by simp [Ctx.close], by simp [Ctx.close], by simp [Ctx.close]⟩
  intro b p h
  rcases h with h | h | ⟨t, ht, lv, e, _⟩ | ⟨t, ht, lv, e⟩
  · exact hr.hidlt b p h
  · exact hr.shid b h
  · exact e ▸ hr.tlt ht lv
  · exact e ▸ hr.mlt t ht lv

/-- A value without identity: ground, or a tuple of ground ones. -/
def closedV : PV → Prop
  | .g _ => True
  | .tuple cs => ∀ p ∈ cs, ∃ x, p = .g x
  | _ => False

theorem close_back {c c' : Ctx} (hr : Rel P c H) (hr' : Rel P c' ⟨[], [], []⟩) (hE : Evo c.close c') :
    Rel P ⟨c.σ, c.τ, c.μ, c.hid, c'.w⟩ H ∧ Evo c ⟨c.σ, c.τ, c.μ, c.hid, c'.w⟩ ∧ ∀ p v, closedV p → RV c' p v → RV ⟨c.σ, c.τ, c.μ, c.hid, c'.w⟩ p v := by
  have hX : Ext c.w c'.w := ⟨hE.os, hE.tape, hE.output, hE.size, fun b hb => hE.frame b hb (by simp [Ctx.close]) (by simp [Ctx.close]) (by simp [Ctx.close])⟩
  obtain ⟨h1, h2⟩ := hr.grow hX
  refine ⟨h1, h2, ?_⟩
  have hσ : c'.σ = [] := List.eq_nil_of_length_eq_zero (by simpa using hr'.len)
  have hτ : c'.τ = [] := by have := hr'.tk; simpa using this
  have hst : ∀ b p, c'.stab b p → Ctx.stab ⟨c.σ, c.τ, c.μ, c.hid, c'.w⟩ b p := by
    intro b p hs
    have hh : ¬ c.close.hid b p := by have := hs.1; rwa [hE.hid] at this
    refine ⟨fun x => hh (.inl x), fun x => hh (.inr (.inl x)), fun t ht lv e => ?_, fun t ht lv e => hh (.inr (.inr (.inr ⟨t, ht, lv, e⟩)))⟩
    exact Classical.byContradiction fun hn => hh (.inr (.inr (.inl ⟨t, ht, lv, e, hn⟩)))
  have key : ∀ g v, RG c'.w c'.stab g v → RG c'.w (Ctx.stab ⟨c.σ, c.τ, c.μ, c.hid, c'.w⟩) g v := fun g v hg => hg.mono fun a u _ hs hc => ⟨hc, hst _ _ hs⟩
  intro p v hp hv
  cases hv with
  | g x v hg => exact .g _ _ (key _ _ hg)
  | tuple cs vs hl hh =>
    refine .tuple cs vs hl fun i q u hq hu => ?_
    obtain ⟨x, rfl⟩ := hp q (List.mem_of_getElem? hq)
    have := hh i _ u hq hu
    cases this with | g _ _ hg => exact .g _ _ (key _ _ hg)
  | _ => exact hp.elim

/-- What the operands come to, ground. -/
def groundArgs (ρ : Operand → PV) (args : List Operand) (as : List GV) : Prop := args.map (fun x => pack (ρ x)) = as.map .g

theorem PO_call_pure {f : Operand} {args : Array Operand} {ts : Array TypeId} {id : FuncId} {as : List GV} {v : PV} (ho : o.op = .call { callee := .value f, args := args, argTypes := ts })
    (hf : ρ f = .g (.raw (.func (.func id) #[] #[]))) (he : enterB P id = true) (ha : groundArgs ρ args.toList as) (hv : closedV v) (hp : PC P id (as.map .g) ⟨[], [], []⟩ v ⟨[], [], []⟩) : PO P o ρ H v H := by
  intro c ρr hr hx
  have hops : ∀ x, x = f ∨ x ∈ args.toList → x ∈ o.op.operands.toList := by
    intro x hx
    simp [ho, Op.operands, Call.operands]
    rcases hx with rfl | hx
    · exact .inl rfl
    · exact .inr (by simpa using hx)
  have hf1 := hx f (hops f (.inl rfl))
  rw [hf] at hf1
  have hf2 := RV_raw hf1
  have hrun : (execOp ρr o).run P c.w = .ok (.enter id (args.map ρr)) c.w := by
    simp [execOp, ho, resolve, hf2, Deferred.ofValue, invoke, run_callFunc he]
  unfold OpGoes
  rw [hrun]
  have hargs : RVs c.close (as.map .g) (args.map ρr) := by
    have hlen := congrArg List.length ha
    simp at hlen
    refine ⟨by simp [hlen], fun i p u hp' hu => ?_⟩
    simp only [Array.getElem?_map, Option.map_eq_some_iff] at hu
    obtain ⟨x, hx1, rfl⟩ := hu
    have h1 : (args.toList.map fun x => pack (ρ x))[i]? = some (pack (ρ x)) := by simp [hx1]
    rw [ha, hp'] at h1
    have h2 := pack_ok (hx x (hops x (.inr (by rw [Array.mem_toList_iff]; exact Array.mem_of_getElem? hx1))))
    rw [← Option.some_inj.1 h1] at h2
    simp only [List.getElem?_map, Option.map_eq_some_iff] at hp'
    obtain ⟨g, _, rfl⟩ := hp'
    cases h2 with | g _ _ hg => exact .g _ _ (by rw [close_stab_eq]; exact hg)
  refine (hp c.close _ (close_rel hr) hargs).mono ?_
  rintro e w' ⟨rv, c', rfl, rfl, hr', hE, hv'⟩
  obtain ⟨h1, h2, h3⟩ := close_back hr hr' hE
  exact ⟨rv, rfl, ⟨c.σ, c.τ, c.μ, c.hid, c'.w⟩, rfl, h1, h2, h3 v rv hv hv'⟩
end
end Go.Pure

/- A generic layer: a function's contract out of its body. -/
namespace Go.Pure
open Go

/-- A value that names boxes and arrays of small numbers alone. -/
inductive RefsIn (nb nt nm : Nat) : PV → Prop where
  | g (x : GV) : RefsIn nb nt nm (.g x)
  | own (es : List GV) (id : Nat) (h : id < nt) : RefsIn nb nt nm (.own es id)
  | ptr (b off : Nat) (h : b < nb) : RefsIn nb nt nm (.ptr b off)
  | nilp : RefsIn nb nt nm .nilp
  | nils : RefsIn nb nt nm .nils
  | pat (cs : List GV) : RefsIn nb nt nm (.pat cs)
  | clo (fn : Fn) (ps qs : List PV) (h1 : ∀ p ∈ ps, RefsIn nb nt nm p) (h2 : ∀ p ∈ qs, RefsIn nb nt nm p) : RefsIn nb nt nm (.clo fn ps qs)
  | agg (cs : List PV) (h : ∀ p ∈ cs, RefsIn nb nt nm p) : RefsIn nb nt nm (.agg cs)
  | tuple (cs : List PV) (h : ∀ p ∈ cs, RefsIn nb nt nm p) : RefsIn nb nt nm (.tuple cs)
  | lit (es : List GV) : RefsIn nb nt nm (.lit es)
  | mar (id n : Nat) (h : id < nm) : RefsIn nb nt nm (.mar id n)
  | mref (id n i off : Nat) (h : id < nm) : RefsIn nb nt nm (.mref id n i off)
  | mp (id : Nat) (h : id < nm) : RefsIn nb nt nm (.mp id)
  | any : RefsIn nb nt nm .any

/-- What is dropped at a function's end. -/
def Ctx.cut (c : Ctx) (nb nt nm : Nat) : Ctx := ⟨c.σ.take nb, c.τ.take nt, c.μ.take nm, c.hid, c.w⟩

theorem cut_stab {c : Ctx} {nb nt nm b p : Nat} (h : c.stab b p) : (c.cut nb nt nm).stab b p :=
  ⟨h.1, fun hm => h.2.1 (List.mem_of_mem_take hm), fun t ht lv => h.2.2.1 t (List.mem_of_mem_take ht) lv, fun t ht lv => h.2.2.2 t (List.mem_of_mem_take ht) lv⟩

theorem RG.cut {c : Ctx} {nb nt nm : Nat} {g : GV} {v : Value} (h : RG c.w c.stab g v) : RG (c.cut nb nt nm).w (c.cut nb nt nm).stab g v :=
  h.mono fun _ _ _ hs hc => ⟨hc, cut_stab hs⟩

theorem RV.cut {c : Ctx} {nb nt nm : Nat} {p : PV} {v : Value} (h : RV c p v) (hp : RefsIn nb nt nm p) : RV (c.cut nb nt nm) p v := by
  induction h with
  | g x v h => exact .g _ _ h.cut
  | own es id v t h ht hs hl hv =>
    cases hp with
    | own _ _ hid => exact .own es id v t h.cut (by simp only [Ctx.cut]; rw [List.getElem?_take, if_pos hid]; exact ht) hs hl hv
  | ptr b off blk h =>
    cases hp with
    | ptr _ _ hb => exact .ptr _ _ _ (by simp only [Ctx.cut]; rw [List.getElem?_take, if_pos hb]; exact h)
  | nilp => exact .nilp
  | nils => exact .nils
  | pat cs a f ha hf h => exact .pat cs a f ha (fun k hk => ⟨(hf k hk).1, cut_stab (hf k hk).2.1, (hf k hk).2.2⟩) (fun j g hj => (h j g hj).cut)
  | clo fn ps qs us vs hpl hq _ _ h1 h2 =>
    cases hp with
    | clo _ _ _ e1 e2 => exact .clo fn ps qs us vs hpl hq (fun i p v hp' hv => h1 i p v hp' hv (e1 p (List.mem_of_getElem? hp'))) (fun i p v hp' hv => h2 i p v hp' hv (e2 p (List.mem_of_getElem? hp')))
  | agg cs vs hl h1 _ ih =>
    cases hp with
    | agg _ e => exact .agg cs vs hl h1 fun i p v hp' hv => ih i p v hp' hv (e p (List.mem_of_getElem? hp'))
  | tuple cs vs hl _ ih =>
    cases hp with
    | tuple _ e => exact .tuple cs vs hl fun i p v hp' hv => ih i p v hp' hv (e p (List.mem_of_getElem? hp'))
  | lit es a h => exact .lit es a h.cut
  | mar id n v t ht hn h1 hv =>
    cases hp with
    | mar _ _ hb => exact .mar id n v t (by simp only [Ctx.cut]; rw [List.getElem?_take, if_pos hb]; exact ht) hn h1 hv
  | mref id n i off v t ht hn h1 hv =>
    cases hp with
    | mref _ _ _ _ hb => exact .mref id n i off v t (by simp only [Ctx.cut]; rw [List.getElem?_take, if_pos hb]; exact ht) hn h1 hv
  | mp id v t ht h1 hv =>
    cases hp with
    | mp _ hb => exact .mp id v t (by simp only [Ctx.cut]; rw [List.getElem?_take, if_pos hb]; exact ht) h1 hv
  | any v => exact .any v

section
variable {P : Program}

theorem Rel.cut {c : Ctx} {H H' : PH} (hr : Rel P c H) (h1 : ∃ x, H.bx = H'.bx ++ x) (h2 : ∃ y, H.tk = H'.tk ++ y) (h3 : ∃ z, H.mu = H'.mu ++ z) (hR : ∀ cs ∈ H'.bx, ∀ p ∈ cs, RefsIn H'.bx.length H'.tk.length H'.mu.length p) :
    Rel P (c.cut H'.bx.length H'.tk.length H'.mu.length) H' := by
  obtain ⟨x, hx⟩ := h1
  obtain ⟨y, hy⟩ := h2
  obtain ⟨z, hz⟩ := h3
  have hl := hr.len
  rw [hx] at hl
  have ht := hr.tk
  rw [hy] at ht
  refine ⟨?_, ?_, ?_, fun t ht lv => hr.tb t (List.mem_of_mem_take ht) lv, hr.nd.sublist (List.take_sublist _ _), ?_, fun t ht lv hm => hr.st t (List.mem_of_mem_take ht) lv (List.mem_of_mem_take hm), hr.hidlt, fun t ht lv => hr.thid t (List.mem_of_mem_take ht) lv, fun b hb => hr.shid b (List.mem_of_mem_take hb), fun t ht lv => hr.dead t (List.mem_of_mem_take ht) lv, ?_, ?_, fun t ht lv => hr.mlt t (List.mem_of_mem_take ht) lv, ?_, fun t ht lv hm => hr.ms t (List.mem_of_mem_take ht) lv (List.mem_of_mem_take hm), fun t ht lv t' ht' lv' => hr.mt t (List.mem_of_mem_take ht) lv t' (List.mem_of_mem_take ht') lv', fun t ht lv => hr.mhid t (List.mem_of_mem_take ht) lv⟩
  · simp [Ctx.cut, hl]
  · intro i b cs hb hcs
    simp only [Ctx.cut, List.getElem?_take] at hb
    split at hb
    · rename_i hi
      obtain ⟨vals, T, e1, e2, e3⟩ := hr.bx i b cs hb (by rw [hx, List.getElem?_append_left hi]; exact hcs)
      exact ⟨vals, T, e1, e2, fun j p v hp hv => ⟨(e3 j p v hp hv).1.cut (hR cs (List.mem_of_getElem? hcs) p (List.mem_of_getElem? hp)), (e3 j p v hp hv).2⟩⟩
    · cases hb
  · simp only [Ctx.cut, List.map_take, ht]
    simp
  · intro i j t t' hi hj
    simp only [Ctx.cut, List.getElem?_take] at hi hj
    split at hi
    · split at hj
      · exact hr.td i j t t' hi hj
      · cases hj
    · cases hi
  · have := hr.mlen
    rw [hz] at this
    simp [Ctx.cut, this]
  · intro i t o hi ho
    simp only [Ctx.cut, List.getElem?_take] at hi
    split at hi
    · rename_i hlt
      have := hr.mu i t o hi (by rw [hz, List.getElem?_append_left hlt]; exact ho)
      cases o with
      | gone n => exact this
      | arr n e es =>
        obtain ⟨a1, a2, a3, a4⟩ := this
        refine ⟨a1, a2, a3, a4.imp id ?_⟩
        rintro ⟨lv, cur, b1, b2, b3, b4, b5, b6⟩
        exact ⟨lv, cur, b1, b2, b3, b4, b5, fun i x j g v hx hg hv => ⟨(b6 i x j g v hx hg hv).1.cut, (b6 i x j g v hx hg hv).2⟩⟩
      | map es =>
        obtain ⟨a1, lv, ents, b1, b2, b3⟩ := this
        exact ⟨a1, lv, ents, b1, b2, fun i k v n hk hn => ⟨(b3 i k v n hk hn).1.cut, (b3 i k v n hk hn).2.1.cut, (b3 i k v n hk hn).2.2⟩⟩
    · cases hi
  · intro i j t t' hi hj
    simp only [Ctx.cut, List.getElem?_take] at hi hj
    split at hi
    · split at hj
      · exact hr.md i j t t' hi hj
      · cases hj
    · cases hi

theorem Evo.cut {c0 c : Ctx} (hE : Evo c0 c) {nb nt nm : Nat} (hb : c0.σ.length ≤ nb) (ht : c0.τ.length ≤ nt) (hm : c0.μ.length ≤ nm) : Evo c0 (c.cut nb nt nm) := by
  obtain ⟨n, hn, hn'⟩ := hE.sig
  refine ⟨hE.os, hE.tape, hE.output, hE.size, hE.hid, ⟨n.take (nb - c0.σ.length), ?_, fun b hb' => hn' b (List.mem_of_mem_take hb')⟩, fun id t hid => ?_, fun id t hid => ?_, fun t ht' lv => hE.munew t (List.mem_of_mem_take ht') lv, fun t ht' lv => hE.toknew t (List.mem_of_mem_take ht') lv, fun a v ha hs hc => ⟨(hE.keep a v ha hs hc).1, cut_stab (hE.keep a v ha hs hc).2⟩, hE.frame⟩
  · simp only [Ctx.cut, hn, List.take_append]
    rw [List.take_of_length_le hb]
  · obtain ⟨t', h1, h2⟩ := hE.tok id t hid
    refine ⟨t', ?_, h2⟩
    have := (List.getElem?_eq_some_iff.1 hid).1
    simp only [Ctx.cut]
    rw [List.getElem?_take, if_pos (by omega)]
    exact h1
  · obtain ⟨t', h1, h2⟩ := hE.mu id t hid
    refine ⟨t', ?_, h2⟩
    have := (List.getElem?_eq_some_iff.1 hid).1
    simp only [Ctx.cut]
    rw [List.getElem?_take, if_pos (by omega)]
    exact h1

/-- What a result's place holds. -/
def resV (P : Program) (env : Env) (H : PH) : ResultVar → Option PV
  | .tmp t => some (env t)
  | .cell a t =>
    match env a with
    | .ptr b off =>
      match H.bx[b]? with
      | some cs =>
        match aggB P t with
        | some true => match szB P t with
          | some n => if off + n ≤ cs.length then some (.agg ((cs.drop off).take n)) else none
          | none => none
        | some false => cs[off]?
        | none => none
      | none => none
    | _ => none

def resSem (tmps : Array Value) : ResultVar → Sem Value
  | .tmp t => pure (tmps.getD t undef)
  | .cell x t => do loadVar t (← asAddr (tmps.getD x undef))

theorem resV_ok {c : Ctx} {H : PH} {N : Nat} {env : Env} {a : Act} (hr : Rel P c H) (he : ER c N env a) {r : ResultVar} {p : PV} (h : resV P env H r = some p) :
    ∃ v, (resSem a.tmps r).run P c.w = .ok v c.w ∧ RV c p v := by
  cases r with
  | tmp t =>
    simp only [resV, Option.some.injEq] at h
    subst h
    exact ⟨_, rfl, he.slot t⟩
  | cell x t =>
    simp only [resV] at h
    split at h
    · rename_i b off hb
      have hs := he.slot x
      rw [hb] at hs
      generalize hv : a.tmps.getD x undef = u at hs
      cases hs with
      | ptr _ _ blk hblk =>
        split at h
        · rename_i cs hcs
          obtain ⟨vals, e1, e2, e3⟩ := loadCells_box hr hblk hcs
          split at h
          · rename_i hagg
            split at h
            · rename_i n hn
              split at h
              · rename_i hle
                simp only [Option.some.injEq] at h
                subst h
                have hl := run_loadVar_agg (w := c.w) hagg hn ⟨blk, off, none⟩ (fun j => vals.getD (off + j) undef) (fun j hj => by rw [add_eq _ _ rfl]; exact e2 (off + j) (by omega))
                refine ⟨_, by simp only [resSem, hv, asAddr, Sem.run_bind, Sem.run_pure, Result.andThen_ok, hl]; rfl, .agg _ _ (by simp; omega) ?_ ?_⟩
                · intro v hv
                  simp at hv
                  obtain ⟨j, hj, rfl⟩ := hv
                  have := (e3 (off + j) (cs[off + j]'(by omega)) (by simp)).2
                  simpa [Array.getD_eq_getD_getElem?] using this
                · intro i p v hi hv
                  simp [List.getElem?_take] at hi hv
                  obtain ⟨hlt, hi⟩ := hi
                  obtain ⟨i', h0, rfl⟩ := hv
                  obtain ⟨h0, rfl⟩ := List.getElem?_eq_some_iff.1 h0
                  rw [List.getElem_range]
                  have := (e3 (off + i) p hi).1
                  simpa [Array.getD_eq_getD_getElem?] using this
              · cases h
            · cases h
          · rename_i hagg
            have := e2 off (by rw [e1]; exact (List.getElem?_eq_some_iff.1 h).1)
            exact ⟨_, by simp only [resSem, hv, asAddr, Sem.run_bind, Sem.run_pure, Result.andThen_ok, run_loadVar_one hagg _ _ this], (e3 off p h).1⟩
          · cases h
        · cases h
    · cases h

/-- A function's result, of the values in its results' places. -/
def retV : List PV → PV
  | [p] => p
  | ps => .tuple ps

def resVs (P : Program) (env : Env) (H : PH) : List ResultVar → Option (List PV)
  | [] => some []
  | r :: rs => match resV P env H r, resVs P env H rs with
    | some p, some ps => some (pack p :: ps)
    | _, _ => none

theorem resVs_ok {c : Ctx} {H : PH} {N : Nat} {env : Env} {a : Act} (hr : Rel P c H) (he : ER c N env a) : ∀ {rs : List ResultVar} {ps : List PV}, resVs P env H rs = some ps →
    ∃ vs : List Value, (rs.mapM (resSem a.tmps)).run P c.w = .ok vs c.w ∧ ps.length = vs.length ∧
      ∀ (i : Nat) (p : PV) (v : Value), ps[i]? = some p → vs[i]? = some v → RV c p v
  | [], ps, h => by simp [resVs] at h; subst h; exact ⟨[], by simp, rfl, by simp⟩
  | r :: rs, ps, h => by
    simp only [resVs] at h
    split at h
    · rename_i p ps' h1 h2
      simp only [Option.some.injEq] at h
      subst h
      obtain ⟨v, e1, e2⟩ := resV_ok hr he h1
      obtain ⟨vs, f1, f2, f3⟩ := resVs_ok hr he h2
      refine ⟨v :: vs, ?_, by simp [f2], fun i q u hq hu => ?_⟩
      · simp only [List.mapM_cons, Sem.run_bind, e1, f1, Result.andThen_ok, Sem.run_pure]
      · cases i with
        | zero => simp at hq hu; subst hq; subst hu; exact pack_ok e2
        | succ i => exact f3 i q u (by simpa using hq) (by simpa using hu)
    · cases h

/-- As they are, with their arrays. -/
def resRs (P : Program) (env : Env) (H : PH) : List ResultVar → Option (List PV)
  | [] => some []
  | r :: rs => match resV P env H r, resRs P env H rs with
    | some p, some ps => some (p :: ps)
    | _, _ => none

theorem resRs_ok {c : Ctx} {H : PH} {N : Nat} {env : Env} {a : Act} (hr : Rel P c H) (he : ER c N env a) : ∀ {rs : List ResultVar} {ps : List PV}, resRs P env H rs = some ps →
    ∃ vs : List Value, (rs.mapM (resSem a.tmps)).run P c.w = .ok vs c.w ∧ ps.length = vs.length ∧
      ∀ (i : Nat) (p : PV) (v : Value), ps[i]? = some p → vs[i]? = some v → RV c p v
  | [], ps, h => by simp [resRs] at h; subst h; exact ⟨[], by simp, rfl, by simp⟩
  | r :: rs, ps, h => by
    simp only [resRs] at h
    split at h
    · rename_i p ps' h1 h2
      simp only [Option.some.injEq] at h
      subst h
      obtain ⟨v, e1, e2⟩ := resV_ok hr he h1
      obtain ⟨vs, f1, f2, f3⟩ := resRs_ok hr he h2
      refine ⟨v :: vs, ?_, by simp [f2], fun i q u hq hu => ?_⟩
      · simp only [List.mapM_cons, Sem.run_bind, e1, f1, Result.andThen_ok, Sem.run_pure]
      · cases i with
        | zero => simp at hq hu; subst hq; subst hu; exact e2
        | succ i => exact f3 i q u (by simpa using hq) (by simpa using hu)
    · cases h

/-- How a body must end. -/
def Ret (P : Program) (rs : List ResultVar) (H : PH) (v : PV) (H' : PH) (e : Exit) (env : Env) (H2 : PH) : Prop :=
  (e = .normal ∨ e = .ret) ∧ ∃ ps, (resVs P env H2 rs = some ps ∨ resRs P env H2 rs = some ps) ∧ retV ps = v ∧ (∃ x, H2.bx = H'.bx ++ x) ∧ (∃ y, H2.tk = H'.tk ++ y) ∧ (∃ z, H2.mu = H'.mu ++ z) ∧
    H.bx.length ≤ H'.bx.length ∧ H.tk.length ≤ H'.tk.length ∧ H.mu.length ≤ H'.mu.length ∧ RefsIn H'.bx.length H'.tk.length H'.mu.length v ∧ ∀ cs ∈ H'.bx, ∀ p ∈ cs, RefsIn H'.bx.length H'.tk.length H'.mu.length p

/-- The slots at a function's beginning. -/
def env0 (args : List PV) : Env := fun t => args.getD t undefP

theorem PC_of_PW {f : FuncId} {fn : Func} {code : Code} {N : Nat} {rs : List ResultVar} {args : List PV} {H H' : PH} {v : PV} (hf : P.funcs[f]? = some fn) (hb : fn.body = some code) (hn : fn.ntmps = N)
    (hrs : fn.results = rs.toArray) (hl : args.length ≤ N) (h : PW P N code (Ret P rs H v H') (env0 args) H) : PC P f args H v H' := by
  intro c vs hr ha
  have hsz : vs.size ≤ N := by rw [← ha.1]; exact hl
  refine calls_of_wp hf hb (wp_mono (h c _ hr ?_) ?_)
  · refine ⟨rfl, by simp [hn]; omega, fun t => ?_⟩
    simp only [env0, List.getD, Array.getD_eq_getD_getElem?]
    by_cases ht : t < vs.size
    · have ht' : t < args.length := by rw [ha.1]; exact ht
      rw [Array.getElem?_append_left ht]
      have := ha.2 t args[t] vs[t] (List.getElem?_eq_getElem ht') (Array.getElem?_eq_getElem ht)
      simpa [ht, ht'] using this
    · have ht' : ¬ t < args.length := by rw [ha.1]; exact ht
      rw [List.getElem?_eq_none (by omega), Array.getElem?_append_right (by omega)]
      simp only [Option.getD_none]
      have : ((Array.replicate (fn.ntmps - vs.size) undef)[t - vs.size]?).getD undef = undef := by
        by_cases h2 : t - vs.size < fn.ntmps - vs.size
        · simp [h2]
        · simp [h2]
      rw [this]
      exact .g _ _ (.raw _)
  · rintro e a w' ⟨c', env', H2, ⟨he, ps, h1, h2, h3, h4, h4m, h5, h6, h6m, h7, h8⟩, rfl, hr', hE, he'⟩
    obtain ⟨us, e1, e2, e3⟩ := h1.elim (fun h1 => resVs_ok hr' he' h1) (fun h1 => resRs_ok hr' he' h1)
    have hcut := hr'.cut h3 h4 h4m h8
    have hEcut := hE.cut (nb := H'.bx.length) (nt := H'.tk.length) (by rw [hr.len]; exact h5) (by have := congrArg List.length hr.tk; simp at this; omega) (nm := H'.mu.length) (by rw [hr.mlen]; exact h6m)
    have key : ∃ rv, (results fn a.tmps).run P c'.w = .ok rv c'.w ∧ RV c' v rv := by
      refine ⟨if h : us.toArray.size = 1 then us.toArray[0] else .tuple us.toArray, ?_, ?_⟩
      · have : results fn a.tmps = (do let vs ← fn.results.mapM (resSem a.tmps); pure (if h : vs.size = 1 then vs[0] else .tuple vs)) := by
          unfold results
          congr 1
        rw [this]
        simp only [hrs, Sem.run_bind, List.mapM_toArray, Sem.run_map, e1, Result.andThen_ok, Sem.run_pure]
      · rw [← h2]
        match ps, us, e2, e3 with
        | [p], [u], _, e3 => simpa [retV] using e3 0 p u rfl rfl
        | [], [], _, e3 => simpa [retV] using RV.tuple (c := c') [] #[] rfl (by simp)
        | p :: q :: ps, u :: u' :: us, e2, e3 =>
          have : ¬ (u :: u' :: us).toArray.size = 1 := by simp
          rw [dif_neg this]
          exact .tuple _ _ (by simpa using e2) (fun i p v hp hv => e3 i p v hp (by simpa using hv))
    obtain ⟨rv, g1, g2⟩ := key
    have fin : a.defers = [] ∧ ∃ v', (results fn a.tmps).run P c'.w = .ok v' c'.w ∧ ∃ rv c'', Ending.returned v' = .returned rv ∧ c''.w = c'.w ∧ Rel P c'' H' ∧ Evo c c'' ∧ RV c'' v rv :=
      ⟨he'.defers, rv, g1, rv, c'.cut H'.bx.length H'.tk.length H'.mu.length, rfl, rfl, hcut, hEcut, g2.cut h7⟩
    rcases he with rfl | rfl
    · exact fin
    · exact fin
end
end Go.Pure

/- A generic layer: arithmetic, comparisons, slices and strings that are only read. -/
namespace Go.Pure
open Go

/-- Whole numbers of one kind. -/
def intOp (op : BinOp) (k : IntKind) (a b : Int) : Option GV :=
  match op with
  | .add => some (.int k (k.wrap (a + b)))
  | .sub => some (.int k (k.wrap (a - b)))
  | .mul => some (.int k (k.wrap (a * b)))
  | .eql => some (.bool (a == b))
  | .neq => some (.bool (a != b))
  | .lss => some (.bool (decide (a < b)))
  | .leq => some (.bool (decide (a ≤ b)))
  | .gtr => some (.bool (decide (a > b)))
  | .geq => some (.bool (decide (a ≥ b)))
  | .and => some (.int k (k.wrap (BitVec.ofInt k.bits a &&& BitVec.ofInt k.bits b).toNat))
  | .or => some (.int k (k.wrap (BitVec.ofInt k.bits a ||| BitVec.ofInt k.bits b).toNat))
  | .xor => some (.int k (k.wrap (BitVec.ofInt k.bits a ^^^ BitVec.ofInt k.bits b).toNat))
  | .andNot => some (.int k (k.wrap (BitVec.ofInt k.bits a &&& ~~~ (BitVec.ofInt k.bits b)).toNat))
  | _ => none

def GV.val : GV → Value
  | .int k n => .int k n
  | .bool b => .bool b
  | .str s => .string s
  | _ => undef

def strOp (op : BinOp) (a b : ByteArray) : Option GV :=
  match op with
  | .eql => some (.bool (a.toList == b.toList))
  | .neq => some (.bool (!(a.toList == b.toList)))
  | .lss => some (.bool (Op.bytesLess a.toList b.toList))
  | .leq => some (.bool (Op.bytesLess a.toList b.toList || a.toList == b.toList))
  | .gtr => some (.bool (!(Op.bytesLess a.toList b.toList || a.toList == b.toList)))
  | .geq => some (.bool (!(Op.bytesLess a.toList b.toList)))
  | _ => none

section
variable {P : Program} {o : Oper} {ρ : Operand → PV} {H : PH}

theorem mem_two {α : Type} {x y : α} : x ∈ (#[x, y] : Array α).toList ∧ y ∈ (#[x, y] : Array α).toList := by simp

theorem PO_int {op : BinOp} {t u : TypeId} {x y : Operand} {k : IntKind} {a b : Int} {g : GV} (ho : o.op = .binOp op t x y u) (ha : ρ x = .g (.int k a)) (hb : ρ y = .g (.int k b)) (hg : intOp op k a b = some g) : PO P o ρ H (.g g) H :=
  PO_val fun c ρr hr hx => by
    have h1 := hx x (by simp [ho, Op.operands])
    have h2 := hx y (by simp [ho, Op.operands])
    rw [ha] at h1; rw [hb] at h2
    have e1 := RV_int h1; have e2 := RV_int h2
    refine ⟨g.val, ?_, ?_⟩
    · simp only [execOp, ho, e1, e2]
      cases op <;> simp only [intOp] at hg <;> first | (cases hg; simp [eqGuard, binOp, Op.intArith, Op.intBits, Op.intCmp, GV.val]; done) | (cases hg; simp only [eqGuard, binOp, Op.intBits, ne_eq, not_true, if_false]; rfl) | (cases hg; done)
    · cases op <;> simp only [intOp] at hg <;> cases hg <;> exact .g _ _ (by constructor)

theorem PO_quo {t u : TypeId} {x y : Operand} {k : IntKind} {a b : Int} (ho : o.op = .binOp .quo t x y u) (ha : ρ x = .g (.int k a)) (hb : ρ y = .g (.int k b)) (h0 : b ≠ 0) : PO P o ρ H (.g (.int k (k.wrap (a.tdiv b)))) H :=
  PO_val fun c ρr hr hx => by
    have h1 := hx x (by simp [ho, Op.operands])
    have h2 := hx y (by simp [ho, Op.operands])
    rw [ha] at h1; rw [hb] at h2
    have e1 := RV_int h1; have e2 := RV_int h2
    exact ⟨_, by simp only [execOp, ho, e1, e2]; simp [eqGuard, binOp, Op.intDiv, h0], .g _ _ (.int _ _)⟩

theorem PO_rem {t u : TypeId} {x y : Operand} {k : IntKind} {a b : Int} (ho : o.op = .binOp .rem t x y u) (ha : ρ x = .g (.int k a)) (hb : ρ y = .g (.int k b)) (h0 : b ≠ 0) : PO P o ρ H (.g (.int k (a.tmod b))) H :=
  PO_val fun c ρr hr hx => by
    have h1 := hx x (by simp [ho, Op.operands])
    have h2 := hx y (by simp [ho, Op.operands])
    rw [ha] at h1; rw [hb] at h2
    have e1 := RV_int h1; have e2 := RV_int h2
    exact ⟨_, by simp only [execOp, ho, e1, e2]; simp [eqGuard, binOp, Op.intDiv, h0], .g _ _ (.int _ _)⟩

theorem PO_shl {t u : TypeId} {x y : Operand} {k k' : IntKind} {a b : Int} (ho : o.op = .binOp .shl t x y u) (ha : ρ x = .g (.int k a)) (hb : ρ y = .g (.int k' b)) (h0 : 0 ≤ b) : PO P o ρ H (.g (.int k (k.wrap (a * 2 ^ min b.toNat k.bits)))) H :=
  PO_val fun c ρr hr hx => by
    have h1 := hx x (by simp [ho, Op.operands])
    have h2 := hx y (by simp [ho, Op.operands])
    rw [ha] at h1; rw [hb] at h2
    have e1 := RV_int h1; have e2 := RV_int h2
    have h0' : ¬ b < 0 := by omega
    exact ⟨_, by simp only [execOp, ho, e1, e2]; simp [eqGuard, binOp, Op.shift, h0'], .g _ _ (.int _ _)⟩

theorem PO_shr {t u : TypeId} {x y : Operand} {k k' : IntKind} {a b : Int} (ho : o.op = .binOp .shr t x y u) (ha : ρ x = .g (.int k a)) (hb : ρ y = .g (.int k' b)) (h0 : 0 ≤ b) : PO P o ρ H (.g (.int k (a.fdiv (2 ^ min b.toNat k.bits)))) H :=
  PO_val fun c ρr hr hx => by
    have h1 := hx x (by simp [ho, Op.operands])
    have h2 := hx y (by simp [ho, Op.operands])
    rw [ha] at h1; rw [hb] at h2
    have e1 := RV_int h1; have e2 := RV_int h2
    have h0' : ¬ b < 0 := by omega
    exact ⟨_, by simp only [execOp, ho, e1, e2]; simp [eqGuard, binOp, Op.shift, h0'], .g _ _ (.int _ _)⟩

theorem PO_str {op : BinOp} {t u : TypeId} {x y : Operand} {a b : ByteArray} {g : GV} (ho : o.op = .binOp op t x y u) (ha : ρ x = .g (.str a)) (hb : ρ y = .g (.str b)) (hg : strOp op a b = some g) : PO P o ρ H (.g g) H :=
  PO_val fun c ρr hr hx => by
    have h1 := hx x (by simp [ho, Op.operands])
    have h2 := hx y (by simp [ho, Op.operands])
    rw [ha] at h1; rw [hb] at h2
    have e1 := RV_str h1; have e2 := RV_str h2
    refine ⟨g.val, ?_, ?_⟩
    · simp only [execOp, ho, e1, e2]
      cases op <;> simp only [strOp] at hg <;> first | (cases hg; simp [eqGuard, binOp, Op.stringOp, GV.val]; done) | (cases hg; done)
    · cases op <;> simp only [strOp] at hg <;> cases hg <;> exact .g _ _ (by constructor)

theorem PO_concat {t u : TypeId} {x y : Operand} {a b : ByteArray} (ho : o.op = .binOp .add t x y u) (ha : ρ x = .g (.str a)) (hb : ρ y = .g (.str b)) (hs : a.size + b.size ≤ 9223372036854775807) : PO P o ρ H (.g (.str (a ++ b))) H :=
  PO_val fun c ρr hr hx => by
    have h1 := hx x (by simp [ho, Op.operands])
    have h2 := hx y (by simp [ho, Op.operands])
    rw [ha] at h1; rw [hb] at h2
    have e1 := RV_str h1; have e2 := RV_str h2
    have h0' : ¬ ((a.size + b.size : Nat) : Int) > IntKind.i64.max := by
      have : IntKind.i64.max = 9223372036854775807 := by decide
      omega
    exact ⟨_, by simp only [execOp, ho, e1, e2]; simp only [eqGuard, binOp, Op.stringOp]; simp <;> omega, .g _ _ (.str _)⟩

theorem run_equal_bool {t : TypeId} (ht : P.underlying t = some .bool) (a b : Bool) (w : World) : (Op.equal t (.bool a) (.bool b)).run P w = .ok (a == b) w := by
  have h : ∀ d, (Op.equalIn (d + 1) t (.bool a) (.bool b)).run P w = .ok (a == b) w := fun d => by simp [Op.equalIn, run_underlying ht]
  exact h 9999

theorem PO_eqb {t u : TypeId} {x y : Operand} {a b : Bool} (ho : o.op = .binOp .eql t x y u) (ht : P.underlying t = some .bool) (ha : ρ x = .g (.bool a)) (hb : ρ y = .g (.bool b)) : PO P o ρ H (.g (.bool (a == b))) H :=
  PO_val fun c ρr hr hx => by
    have h1 := hx x (by simp [ho, Op.operands])
    have h2 := hx y (by simp [ho, Op.operands])
    rw [ha] at h1; rw [hb] at h2
    have e1 := RV_bool h1; have e2 := RV_bool h2
    exact ⟨.bool (a == b), by simp only [execOp, ho, e1, e2]; simp [eqGuard, binOp, run_equal_bool ht], .g _ _ (.bool _)⟩

theorem PO_neb {t u : TypeId} {x y : Operand} {a b : Bool} (ho : o.op = .binOp .neq t x y u) (ht : P.underlying t = some .bool) (ha : ρ x = .g (.bool a)) (hb : ρ y = .g (.bool b)) : PO P o ρ H (.g (.bool (a != b))) H :=
  PO_val fun c ρr hr hx => by
    have h1 := hx x (by simp [ho, Op.operands])
    have h2 := hx y (by simp [ho, Op.operands])
    rw [ha] at h1; rw [hb] at h2
    have e1 := RV_bool h1; have e2 := RV_bool h2
    exact ⟨.bool (a != b), by simp only [execOp, ho, e1, e2]; simp [eqGuard, binOp, run_equal_bool ht, bne], .g _ _ (.bool _)⟩

theorem PO_not {t : TypeId} {x : Operand} {b : Bool} (ho : o.op = .unOp .not t x) (ha : ρ x = .g (.bool b)) : PO P o ρ H (.g (.bool (!b))) H :=
  PO_val fun c ρr hr hx => by
    have h1 := hx x (by simp [ho, Op.operands])
    rw [ha] at h1
    exact ⟨.bool (!b), by simp [execOp, ho, RV_bool h1, Op.unary], .g _ _ (.bool _)⟩

theorem PO_neg {t : TypeId} {x : Operand} {k : IntKind} {n : Int} (ho : o.op = .unOp .neg t x) (ha : ρ x = .g (.int k n)) : PO P o ρ H (.g (.int k (k.wrap (0 - n)))) H :=
  PO_val fun c ρr hr hx => by
    have h1 := hx x (by simp [ho, Op.operands])
    rw [ha] at h1
    exact ⟨_, by simp [execOp, ho, RV_int h1, Op.unary, Op.intArith], .g _ _ (.int _ _)⟩

theorem PO_compl {t : TypeId} {x : Operand} {k : IntKind} {n : Int} (ho : o.op = .unOp .xor t x) (ha : ρ x = .g (.int k n)) :
    PO P o ρ H (.g (.int k (k.wrap (BitVec.ofInt k.bits (if k.signed then -1 else k.max) ^^^ BitVec.ofInt k.bits n).toNat))) H :=
  PO_val fun c ρr hr hx => by
    have h1 := hx x (by simp [ho, Op.operands])
    rw [ha] at h1
    exact ⟨_, by simp [execOp, ho, RV_int h1, Op.unary, Op.intBits], .g _ _ (.int _ _)⟩

/-! ### Slices that are read -/
/-- A slice's elements, however it is known. -/
def elems : PV → Option (List GV)
  | .g (.sl es) => some es
  | .own es _ => some es
  | .lit es => some es
  | .nils => some []
  | _ => none

theorem elems_ok {c : Ctx} {p : PV} {v : Value} (h : RV c p v) {es : List GV} (he : elems p = some es) : RG c.w c.stab (.sl es) v := by
  unfold elems at he
  split at he
  · cases he; cases h; assumption
  · cases he; cases h; assumption
  · cases he; cases h; assumption
  · cases he; cases h; exact .nil
  · cases he

theorem RG_len {w : World} {S : Nat → Nat → Prop} {es : List GV} {v : Value} (h : RG w S (.sl es) v) : ∃ a cap, v = .slice a es.length cap ∧ es.length ≤ cap ∧ cap ≤ maxLen ∧ (a = none → es = [] ∧ cap = 0) := by
  cases h with
  | nil => exact ⟨none, 0, rfl, Nat.le_refl _, by unfold maxLen; omega, fun _ => ⟨rfl, rfl⟩⟩
  | sl _ a cap size f ha hc hm hs hf hh => exact ⟨some a, cap, rfl, hc, hm, by simp⟩

theorem PO_len {x : Operand} {t : TypeId} {e : TypeId} {es : List GV} (ho : o.op = .call { callee := .builtin .len, args := #[x], argTypes := #[t] }) (ht : P.underlying t = some (.slice e)) (he : elems (ρ x) = some es) : PO P o ρ H (.g (.int .i64 es.length)) H :=
  PO_val fun c ρr hr hx => by
    obtain ⟨a, cap, hv, _⟩ := RG_len (elems_ok (hx x (by simp [ho, Op.operands, Call.operands])) he)
    exact ⟨.int .i64 es.length, by simp [execOp, ho, resolve, invoke, builtin, Builtin.len_, hv, run_underlying ht, goInt], .g _ _ (.int _ _)⟩

theorem PO_lens {x : Operand} {t : TypeId} {s : ByteArray} (ho : o.op = .call { callee := .builtin .len, args := #[x], argTypes := #[t] }) (ht : P.underlying t = some .string) (he : ρ x = .g (.str s)) : PO P o ρ H (.g (.int .i64 s.size)) H :=
  PO_val fun c ρr hr hx => by
    have h1 := hx x (by simp [ho, Op.operands, Call.operands])
    rw [he] at h1
    exact ⟨.int .i64 s.size, by simp [execOp, ho, resolve, invoke, builtin, Builtin.len_, RV_str h1, run_underlying ht, goInt], .g _ _ (.int _ _)⟩

theorem PO_indexAddr {x y : Operand} {t e : TypeId} {es : List GV} {k : IntKind} {i : Int} {n : Nat} {g : GV} (ho : o.op = .indexAddr t x y) (ht : P.underlying t = some (.slice e)) (hn : szB P e = some n) (he : elems (ρ x) = some es) (hi : ρ y = .g (.int k i))
    (h0 : 0 ≤ i) (hg : es[i.toNat]? = some g) (hc : g.cells.length = n) : PO P o ρ H (.pat g.cells) H :=
  PO_val fun c ρr hr hx => by
    have h1 := elems_ok (hx x (by simp [ho, Op.operands])) he
    have h2 := hx y (by simp [ho, Op.operands])
    rw [hi] at h2
    have e2 := RV_int h2
    have hlt := (List.getElem?_eq_some_iff.1 hg).1
    generalize hv : ρr x = v at h1
    cases h1 with
    | nil => simp at hg
    | sl _ a cap size f ha hcc hm hs hf hh =>
      have hsz : size = n := by rw [← hs i.toNat g hg, hc]
      subst hsz
      have hidx : 0 ≤ i ∧ i < (es.length : Int) := ⟨h0, by omega⟩
      have ha := ha (by rintro rfl; simp at hg)
      refine ⟨.pointer (some (a.add (i.toNat * size))), ?_, .pat _ _ (fun j => f (i.toNat * size + j)) (add_spot a _ ha) ?_ (fun j g' hg' => hh i.toNat g j g' hg hg')⟩
      · simp only [execOp, ho, hv, e2]
        simp [Instr.indexAt, asIntOf, run_underlying ht, hidx, run_sizeOf hn]
      · intro j hj
        rw [hc] at hj
        have hle : i.toNat * size + j < es.length * size := by
          calc i.toNat * size + j < i.toNat * size + size := by omega
            _ = (i.toNat + 1) * size := by rw [Nat.add_mul, Nat.one_mul]
            _ ≤ es.length * size := Nat.mul_le_mul_right _ hlt
        have h3 := hf _ hle
        rw [add_eq a _ ha] at h3
        rw [add_eq _ _ (add_spot a _ ha), add_block, add_off, Nat.add_assoc]
        exact h3

theorem PO_index {x y : Operand} {t : TypeId} {s : ByteArray} {k : IntKind} {i : Int} {b : UInt8} (ho : o.op = .index t x y) (ht : P.underlying t = some .string) (he : ρ x = .g (.str s)) (hi : ρ y = .g (.int k i))
    (h0 : 0 ≤ i) (hg : s[i.toNat]? = some b) : PO P o ρ H (.g (.int .u8 b.toNat)) H :=
  PO_val fun c ρr hr hx => by
    have h1 := hx x (by simp [ho, Op.operands])
    have h2 := hx y (by simp [ho, Op.operands])
    rw [he] at h1; rw [hi] at h2
    refine ⟨.int .u8 b.toNat, ?_, .g _ _ (.int _ _)⟩
    simp only [execOp, ho, RV_str h1, RV_int h2]
    simp [Instr.index, asIntOf, run_underlying ht, h0, hg]

theorem PO_extract {x : Operand} {i : Nat} {ps : List PV} {p : PV} (ho : o.op = .extract x i) (hx' : ρ x = .tuple ps) (hp : ps[i]? = some p) : PO P o ρ H p H :=
  PO_val fun c ρr hr hx => by
    have h1 := hx x (by simp [ho, Op.operands])
    rw [hx'] at h1
    generalize hv : ρr x = v at h1
    cases h1 with
    | tuple _ vs hl hh =>
      have hlt := (List.getElem?_eq_some_iff.1 hp).1
      have hlt' : i < vs.size := by omega
      refine ⟨vs[i], by simp [execOp, ho, hv, Instr.extract, hlt'], hh i p _ hp (by simp [hlt'])⟩

theorem PO_field {s : TypeId} {x : Operand} {k d : Nat} {ft : TypeId} {cs : List PV} {p : PV} (ho : o.op = .field s x k) (hf : fieldB P s k = some (d, ft)) (h1 : aggB P ft = some false) (hc : pvCells (ρ x) = some cs) (ha : ∃ u, ρ x = .g (.agg u) ∨ ∃ u, ρ x = .agg u) (hp : cs[d]? = some p) : PO P o ρ H p H :=
  PO_val fun c ρr hr hx => by
    have hx1 := hx x (by simp [ho, Op.operands])
    obtain ⟨e1, e2⟩ := pvCells_ok hx1 hc
    have hagg : ∃ vs, ρr x = .agg vs := by
      obtain ⟨u, h | ⟨u, h⟩⟩ := ha <;> rw [h] at hx1
      · generalize ρr x = v at hx1; cases hx1 with | g _ _ hg => cases hg; exact ⟨_, rfl⟩
      · generalize ρr x = v at hx1; cases hx1; exact ⟨_, rfl⟩
    obtain ⟨vs, hvs⟩ := hagg
    rw [hvs] at e1 e2
    simp only [Value.cells] at e1 e2
    have hlt : d < vs.size := by rw [← e1]; exact (List.getElem?_eq_some_iff.1 hp).1
    refine ⟨vs[d], ?_, (e2 d p _ hp (by simp [hlt])).1⟩
    unfold fieldB at hf
    split at hf
    · rename_i fs hu
      split at hf
      · rename_i f hff
        split at hf
        · simp only [Option.some.injEq, Prod.mk.injEq] at hf
          obtain ⟨rfl, rfl⟩ := hf
          simp [execOp, ho, hvs, Instr.field, run_underlying hu, hff, asAgg, part, run_isAgg h1, hlt]
        · cases hf
      · cases hf
    · cases hf
end
end Go.Pure

/- A generic layer: steps. -/
namespace Go.Pure
open Go
def dstOk (N : Nat) (d : Option Tmp) : Bool := match d with | some t => Nat.blt t N | none => true

section
variable {P : Program} {N : Nat} {all : Array Oper} {K : Env → PH → Prop} {rest : List Oper} {env : Env} {H H' : PH} {v : PV} {d : Option Tmp} {op : Op} {ty : TypeId} {pos : String} {aft : Array Edge}

theorem dst_of (h : dstOk N d = true) : ∀ t, d = some t → t < N := by
  intro t e
  unfold dstOk at h
  rw [e] at h
  simpa [Nat.blt_eq] using h

theorem POps_cons (hd : dstOk N d = true) (h : PO P ⟨d, op, ty, pos, aft, none⟩ env.eval H v H') (k : POps P N all K rest (upd env d v) H') : POps P N all K (⟨d, op, ty, pos, aft, none⟩ :: rest) env H :=
  ⟨dst_of hd, v, H', h, k⟩

theorem POps_guard {gg : Nat × Bool} (hg : gd all ⟨d, op, ty, pos, aft, some gg⟩ env = some true) (hd : dstOk N d = true) (h : PO P ⟨d, op, ty, pos, aft, some gg⟩ env.eval H v H') (k : POps P N all K rest (upd env d v) H') :
    POps P N all K (⟨d, op, ty, pos, aft, some gg⟩ :: rest) env H := by
  refine ⟨dst_of hd, ?_⟩
  rw [hg]
  exact ⟨v, H', h, k⟩

theorem POps_skip {gg : Nat × Bool} (hg : gd all ⟨d, op, ty, pos, aft, some gg⟩ env = some false) (hd : dstOk N d = true) (k : POps P N all K rest (upd env d undefP) H) :
    POps P N all K (⟨d, op, ty, pos, aft, some gg⟩ :: rest) env H := by
  refine ⟨dst_of hd, ?_⟩
  rw [hg]
  exact k

/-- The next operation runs: its guard, its slot, its rule. -/
theorem POps_run {g : Option (Nat × Bool)} (hg : gd all ⟨d, op, ty, pos, aft, g⟩ env = some true) (hd : dstOk N d = true) (h : PO P ⟨d, op, ty, pos, aft, g⟩ env.eval H v H') (k : POps P N all K rest (upd env d v) H') :
    POps P N all K (⟨d, op, ty, pos, aft, g⟩ :: rest) env H := by
  refine ⟨dst_of hd, ?_⟩
  rw [hg]
  exact ⟨v, H', h, k⟩

theorem POps_nil (h : K env H) : POps P N all K [] env H := h

/-- What comes behind stands behind a variable. -/
theorem PW_seq_k {x y : Code} {Q : Exit → Env → PH → Prop} (h : ∀ K : Env → PH → Prop, (∀ env H, PW P N y Q env H → K env H) → PW P N x (Next K Q) env H) : PW P N (.seq x y) Q env H :=
  PW_seq (h _ fun _ _ h => h)

theorem PW_region_k {id : Nat} {l : List Oper} {Q : Exit → Env → PH → Prop} (h : ∀ K : Env → PH → Prop, (∀ env H, Q .normal env H → K env H) → POps P N l.toArray K l env H) : PW P N (.region id l.toArray false) Q env H :=
  PW_region (h _ fun _ _ h => h)

theorem resV_tmp {t : Tmp} : resV P env H (.tmp t) = some (env t) := rfl
theorem resV_agg {a : Tmp} {t : TypeId} {n b off : Nat} {cs : List PV} (h1 : aggB P t = some true) (h2 : szB P t = some n) (ha : env a = .ptr b off) (hb : H.bx[b]? = some cs) (hl : off + n ≤ cs.length) :
    resV P env H (.cell a t) = some (.agg ((cs.drop off).take n)) := by simp [resV, h1, h2, ha, hb, hl]
theorem resV_one {a : Tmp} {t : TypeId} {b off : Nat} {cs : List PV} {p : PV} (h1 : aggB P t = some false) (ha : env a = .ptr b off) (hb : H.bx[b]? = some cs) (hl : cs[off]? = some p) :
    resV P env H (.cell a t) = some p := by simp [resV, h1, ha, hb, hl]
theorem resVs_nil : resVs P env H [] = some [] := rfl
theorem resVs_cons {r : ResultVar} {rs : List ResultVar} {p : PV} {ps : List PV} (h : resV P env H r = some p) (hs : resVs P env H rs = some ps) : resVs P env H (r :: rs) = some (pack p :: ps) := by simp [resVs, h, hs]

theorem resRs_nil : resRs P env H [] = some [] := rfl
theorem resRs_cons {r : ResultVar} {rs : List ResultVar} {p : PV} {ps : List PV} (h : resV P env H r = some p) (hs : resRs P env H rs = some ps) : resRs P env H (r :: rs) = some (p :: ps) := by simp [resRs, h, hs]

theorem Ret_pure {rs : List ResultVar} {ps : List PV} {e : Exit} {H2 : PH} (hs : resVs P env H2 rs = some ps) (hv : retV ps = v) (hc : RefsIn 0 0 0 v) (he : e = .normal ∨ e = .ret := by first | exact .inl rfl | exact .inr rfl) :
    Ret P rs ⟨[], [], []⟩ v ⟨[], [], []⟩ e env H2 :=
  ⟨he, ps, .inl hs, hv, ⟨_, rfl⟩, ⟨_, rfl⟩, ⟨_, rfl⟩, Nat.le_refl _, Nat.le_refl _, Nat.le_refl _, hc, by simp⟩

theorem Ret_keep {rs : List ResultVar} {ps : List PV} {e : Exit} {H2 : PH} {x : List (List PV)} {y : List (TypeId × Nat)} {z : List MO} (hs : resVs P env H2 rs = some ps) (hv : retV ps = v) (hx : H2.bx = H'.bx ++ x) (hy : H2.tk = H'.tk ++ y) (hz : H2.mu = H'.mu ++ z)
    (h1 : H.bx.length ≤ H'.bx.length) (h2 : H.tk.length ≤ H'.tk.length) (h3 : H.mu.length ≤ H'.mu.length)
    (hc : RefsIn H'.bx.length H'.tk.length H'.mu.length v) (hb : ∀ cs ∈ H'.bx, ∀ p ∈ cs, RefsIn H'.bx.length H'.tk.length H'.mu.length p) (he : e = .normal ∨ e = .ret := by first | exact .inl rfl | exact .inr rfl) :
    Ret P rs H v H' e env H2 :=
  ⟨he, ps, .inl hs, hv, ⟨_, hx⟩, ⟨_, hy⟩, ⟨_, hz⟩, h1, h2, h3, hc, hb⟩
end
end Go.Pure

/- A generic layer: a region that draws its order comes to what the order of the text comes to. -/
namespace Go.Pure
open Go

/-- Operations that leave memory as it is, and read no box. -/
def intB (P : Program) (t : TypeId) : Option IntKind := match P.underlying t with | some (.int k) => some k | _ => none
def kindB (P : Program) : Op → Nat
  | .move _ | .assign _ | .pick .. | .fieldAddr .. | .field .. | .unOp .. | .binOp .. | .extract .. | .indexAddr .. | .index .. | .slice .. | .nilCheck _ | .makeFunc .. | .build .. | .buildSlice .. => 0
  | .load .. => 1
  | .call { callee := .builtin .len, .. } | .call { callee := .builtin .min, .. } | .call { callee := .builtin .max, .. } => 0
  | .convert _ dst _ => match P.underlying dst with | some (.slice _) | none => 2 | _ => 0
  | .store .. => 3
  | _ => 2

def tmpsOf (o : Oper) : List Tmp := o.op.operands.toList.filterMap fun | .tmp t => some t | _ => none
/-- The slots that an operation looks at: its operands', its guard's. -/
def looks (all : List Oper) (o : Oper) : List Tmp := tmpsOf o ++ (match o.guard with | some (g, _) => ((all[g]?).bind (·.dst)).toList | none => [])

def memB : List Tmp → Tmp → Bool
  | [], _ => false
  | a :: r, t => bif Nat.beq t a then true else memB r t
theorem memB_iff : ∀ {l : List Tmp} {t : Tmp}, memB l t = true ↔ t ∈ l
  | [], t => by simp [memB]
  | a :: r, t => by
    unfold memB
    cases e : Nat.beq t a with
    | true => simp [Nat.eq_of_beq_eq_true e]
    | false =>
      have : t ≠ a := fun h => by rw [h, Nat.beq_refl] at e; cases e
      simp [this, memB_iff (l := r)]

def optMem (l : List Tmp) : Option Tmp → Bool | some t => memB l t | none => false
def optEq : Option Tmp → Option Tmp → Bool | some s, some t => Nat.beq s t | _, _ => false

/-- Must two operations keep their order? -/
def conf (P : Program) (all : List Oper) (x y : Oper) : Bool :=
  optMem (looks all y) x.dst || optMem (looks all x) y.dst || optEq x.dst y.dst ||
  (Nat.ble 2 (kindB P x.op) && Nat.ble 2 (kindB P y.op)) || (Nat.beq 1 (kindB P x.op) && Nat.beq 3 (kindB P y.op)) || (Nat.beq 3 (kindB P x.op) && Nat.beq 1 (kindB P y.op))

def chunk (W n t : Nat) : Nat := (n >>> (t * W)) % 2 ^ W
/-- All that must come before an operation. -/
def mask (W bf : Nat) : List Edge → Nat → Nat
  | [], s => s
  | e :: r, s => bif Region.binds .any e then mask W bf r (s ||| (2 ^ e.on ||| chunk W bf e.on)) else mask W bf r s
def orAll (W n : Nat) : List Tmp → Nat → Nat
  | [], s => s
  | t :: r, s => orAll W n r (s ||| chunk W n t)
def putAll (W j : Nat) : List Tmp → Nat → Nat
  | [], s => s
  | t :: r, s => putAll W j r (s ||| 2 ^ (t * W + j))
def must (W wr rd c ld st : Nat) (ls : List Tmp) (d : List Tmp) (k : Nat) : Nat :=
  orAll W wr ls 0 ||| (orAll W rd d 0 ||| (orAll W wr d 0 ||| ((bif Nat.ble 2 k then c else 0) ||| ((bif Nat.beq k 3 then ld else 0) ||| (bif Nat.beq k 1 then st else 0)))))
/-- Each pair that must keep its order is ordered; edges lead back. -/
def orderF (P : Program) (W : Nat) (all : List Oper) : List Oper → Nat → (wr rd bf c ld st : Nat) → Bool
  | [], _, _, _, _, _, _, _ => true
  | y :: r, j, wr, rd, bf, c, ld, st =>
    Nat.blt j W && (y.after.toList.all (fun e => Nat.blt e.on j) &&
    (Nat.beq (Nat.land (must W wr rd c ld st (looks all y) y.dst.toList (kindB P y.op)) (mask W bf y.after.toList 0)) (must W wr rd c ld st (looks all y) y.dst.toList (kindB P y.op)) &&
    orderF P W all r (j + 1) (putAll W j y.dst.toList wr) (putAll W j (looks all y) rd) (bf ||| (mask W bf y.after.toList 0 % 2 ^ W) <<< (j * W))
      (bif Nat.ble 2 (kindB P y.op) then c ||| 2 ^ j else c) (bif Nat.beq (kindB P y.op) 1 then ld ||| 2 ^ j else ld) (bif Nat.beq (kindB P y.op) 3 then st ||| 2 ^ j else st)))
def drawB (P : Program) (all : List Oper) : Bool := orderF P all.length all all 0 0 0 0 0 0 0

section
/-- Closed under what must come first. -/
def ClosedS (all : List Oper) (S : Nat → Prop) : Prop := ∀ j o, all[j]? = some o → S j → ∀ e ∈ o.after, Region.binds .any e = true → S e.on

theorem chunk_bit (W n t i : Nat) : (chunk W n t).testBit i = (decide (i < W) && n.testBit (t * W + i)) := by
  simp [chunk, Nat.testBit_mod_two_pow, Nat.testBit_shiftRight]
theorem two_bit (k i : Nat) : (2 ^ k).testBit i = decide (k = i) := Nat.testBit_two_pow
theorem mask_spec {W bf : Nat} {S : Nat → Prop} : ∀ (l : List Edge) (s : Nat), (∀ e ∈ l, Region.binds .any e = true → S e.on ∧ ∀ i, i < W → bf.testBit (e.on * W + i) = true → S i) → (∀ i, s.testBit i = true → S i) → ∀ i, (mask W bf l s).testBit i = true → S i
  | [], s, _, hs, i, h => hs i h
  | e :: r, s, hl, hs, i, h => by
    unfold mask at h
    cases hb : Region.binds .any e with
    | false => rw [hb, cond_false] at h; exact mask_spec r s (fun e he => hl e (by simp [he])) hs i h
    | true =>
      rw [hb, cond_true] at h
      refine mask_spec r _ (fun e he => hl e (by simp [he])) (fun i hi => ?_) i h
      obtain ⟨h1, h2⟩ := hl e (by simp) hb
      simp only [Nat.testBit_or, two_bit, chunk_bit, Bool.or_eq_true, Bool.and_eq_true, decide_eq_true_eq] at hi
      rcases hi with hi | rfl | ⟨hi, hj⟩
      · exact hs i hi
      · exact h1
      · exact h2 i hi hj
theorem orAll_keep {W n i : Nat} : ∀ (l : List Tmp) (s : Nat), s.testBit i = true → (orAll W n l s).testBit i = true
  | [], _, h => h
  | t :: r, s, h => orAll_keep r _ (by simp [Nat.testBit_or, h])
theorem orAll_spec {W n i t : Nat} (hi : i < W) (hn : n.testBit (t * W + i) = true) : ∀ (l : List Tmp) (s : Nat), t ∈ l → (orAll W n l s).testBit i = true
  | [], _, h => by simp at h
  | u :: r, s, h => by
    unfold orAll
    rcases List.mem_cons.1 h with rfl | h
    · exact orAll_keep r _ (by simp [Nat.testBit_or, chunk_bit, hi, hn])
    · exact orAll_spec hi hn r _ h
theorem putAll_keep {W j i : Nat} : ∀ (l : List Tmp) (s : Nat), s.testBit i = true → (putAll W j l s).testBit i = true
  | [], _, h => h
  | t :: r, s, h => putAll_keep r _ (by simp [Nat.testBit_or, h])
theorem putAll_spec {W j t : Nat} : ∀ (l : List Tmp) (s : Nat), t ∈ l → (putAll W j l s).testBit (t * W + j) = true
  | [], _, h => by simp at h
  | u :: r, s, h => by
    unfold putAll
    rcases List.mem_cons.1 h with rfl | h
    · exact putAll_keep r _ (by simp [Nat.testBit_or])
    · exact putAll_spec r _ h
theorem optMem_some {l : List Tmp} {d : Option Tmp} (h : optMem l d = true) : ∃ t, d = some t ∧ t ∈ l := by
  cases d with
  | none => cases h
  | some t => exact ⟨t, rfl, memB_iff.1 h⟩

/-- What is known of the first j operations. -/
structure OInv (P : Program) (W : Nat) (all : List Oper) (j wr rd bf c ld st : Nat) : Prop where
  hwr : ∀ i x t, i < j → all[i]? = some x → x.dst = some t → wr.testBit (t * W + i) = true
  hrd : ∀ i x t, i < j → all[i]? = some x → t ∈ looks all x → rd.testBit (t * W + i) = true
  hbf : ∀ S, ClosedS all S → ∀ k, k < j → S k → ∀ i, i < W → bf.testBit (k * W + i) = true → S i
  hbz : ∀ p, j * W ≤ p → bf.testBit p = false
  hc : ∀ i x, i < j → all[i]? = some x → 2 ≤ kindB P x.op → c.testBit i = true
  hld : ∀ i x, i < j → all[i]? = some x → kindB P x.op = 1 → ld.testBit i = true
  hst : ∀ i x, i < j → all[i]? = some x → kindB P x.op = 3 → st.testBit i = true

theorem orderF_spec {P : Program} {W : Nat} {all : List Oper} : ∀ (l : List Oper) (j wr rd bf c ld st : Nat), (∀ k, l[k]? = all[j + k]?) → OInv P W all j wr rd bf c ld st → orderF P W all l j wr rd bf c ld st = true →
    ∀ k y, j ≤ k → all[k]? = some y → (∀ e ∈ y.after, e.on < k) ∧ ∀ S, ClosedS all S → ∀ i x, i < k → all[i]? = some x → conf P all x y = true → S k → S i
  | [], j, _, _, _, _, _, _, hl, _, _, k, y, hk, hy => by
    have := hl (k - j)
    rw [show j + (k - j) = k by omega, hy] at this
    simp at this
  | y0 :: r, j, wr, rd, bf, c, ld, st, hl, hI, h, k, y, hk, hy => by
    simp only [orderF, Bool.and_eq_true] at h
    obtain ⟨hjW, hback, hmust, hrest⟩ := h
    have hjW' : j < W := by simpa [Nat.blt_eq] using hjW
    have hy0 : all[j]? = some y0 := by simpa using (hl 0).symm
    have hon : ∀ e ∈ y0.after, e.on < j := fun e he => by
      have := List.all_eq_true.1 hback e (by simpa using he)
      simpa [Nat.blt_eq] using this
    have hmask : ∀ S, ClosedS all S → S j → ∀ i, (mask W bf y0.after.toList 0).testBit i = true → S i := fun S hS hSj =>
      mask_spec _ 0 (fun e he hb => by
        have h1 := hS j y0 hy0 hSj e (by simpa using he) hb
        exact ⟨h1, fun i hi hbit => hI.hbf S hS e.on (hon e (by simpa using he)) h1 i hi hbit⟩) (by simp)
    by_cases e : k = j
    · subst e
      rw [hy0] at hy
      cases hy
      refine ⟨hon, fun S hS i x hi hx hc hk => hmask S hS hk i ?_⟩
      have hiW : i < W := by omega
      have hm : (must W wr rd c ld st (looks all y0) y0.dst.toList (kindB P y0.op)).testBit i = true := by
        simp only [conf, Bool.or_eq_true, Bool.and_eq_true, Nat.ble_eq, Nat.beq_eq] at hc
        unfold must
        simp only [Nat.testBit_or, Bool.or_eq_true]
        rcases hc with ((((hc | hc) | hc) | hc) | hc) | hc
        · obtain ⟨t, h1, h2⟩ := optMem_some hc
          exact .inl (orAll_spec hiW (hI.hwr i x t hi hx h1) _ _ h2)
        · obtain ⟨t, h1, h2⟩ := optMem_some hc
          exact .inr (.inl (orAll_spec hiW (hI.hrd i x t hi hx h2) _ _ (by simp [h1])))
        · unfold optEq at hc
          split at hc
          · rename_i s t h1 h2
            have e := Nat.eq_of_beq_eq_true hc
            subst e
            exact .inr (.inr (.inl (orAll_spec hiW (hI.hwr i x _ hi hx h1) _ _ (by simp [h2]))))
          · cases hc
        · refine .inr (.inr (.inr (.inl ?_)))
          rw [Nat.ble_eq_true_of_le hc.2, cond_true]
          exact hI.hc i x hi hx hc.1
        · refine .inr (.inr (.inr (.inr (.inl ?_))))
          rw [← hc.2]
          exact hI.hld i x hi hx hc.1.symm
        · refine .inr (.inr (.inr (.inr (.inr ?_))))
          rw [← hc.2]
          exact hI.hst i x hi hx hc.1.symm
      have he := Nat.eq_of_beq_eq_true hmust
      rw [← he] at hm
      have hm' : ((must W wr rd c ld st (looks all y0) y0.dst.toList (kindB P y0.op)) &&& (mask W bf y0.after.toList 0)).testBit i = true := hm
      rw [Nat.testBit_and, Bool.and_eq_true] at hm'
      exact hm'.2
    · refine orderF_spec r (j + 1) _ _ _ _ _ _ (fun q => by have := hl (q + 1); simpa [Nat.add_assoc, Nat.add_comm 1 q] using this) ?_ hrest k y (by omega) hy
      have hcase : ∀ i x, i < j + 1 → all[i]? = some x → i < j ∨ (i = j ∧ x = y0) := fun i x hi hx => by
        by_cases e : i = j
        · subst e; rw [hy0] at hx; cases hx; exact .inr ⟨rfl, rfl⟩
        · exact .inl (by omega)
      refine ⟨?_, ?_, ?_, ?_, ?_, ?_, ?_⟩
      · intro i x t hi hx hd
        rcases hcase i x hi hx with h1 | ⟨rfl, rfl⟩
        · exact putAll_keep _ _ (hI.hwr i x t h1 hx hd)
        · exact putAll_spec _ _ (by simp [hd])
      · intro i x t hi hx hd
        rcases hcase i x hi hx with h1 | ⟨rfl, rfl⟩
        · exact putAll_keep _ _ (hI.hrd i x t h1 hx hd)
        · exact putAll_spec _ _ hd
      · intro S hS q hq hSq i hi hbit
        simp only [Nat.testBit_or, Nat.testBit_shiftLeft, Nat.testBit_mod_two_pow, Bool.or_eq_true, Bool.and_eq_true, decide_eq_true_eq] at hbit
        by_cases e : q = j
        · subst e
          rcases hbit with hbit | ⟨_, _, hbit⟩
          · rw [hI.hbz _ (Nat.le_add_right _ _)] at hbit; cases hbit
          · rw [show q * W + i - q * W = i by omega] at hbit
            exact hmask S hS hSq i hbit
        · have hqj : q < j := by omega
          rcases hbit with hbit | ⟨hge, _⟩
          · exact hI.hbf S hS q hqj hSq i hi hbit
          · exfalso
            have : (q + 1) * W ≤ j * W := Nat.mul_le_mul_right _ hqj
            rw [Nat.add_mul, Nat.one_mul] at this
            omega
      · intro p hp
        rw [Nat.add_mul, Nat.one_mul] at hp
        simp only [Nat.testBit_or, Nat.testBit_shiftLeft, Nat.testBit_mod_two_pow, hI.hbz p (by omega), Bool.false_or]
        rw [decide_eq_false (show ¬ p - j * W < W by omega)]
        simp
      · intro i x hi hx hk2
        rcases hcase i x hi hx with h1 | ⟨rfl, rfl⟩
        · have := hI.hc i x h1 hx hk2
          cases Nat.ble 2 (kindB P y0.op) <;> simp [Nat.testBit_or, this]
        · rw [Nat.ble_eq_true_of_le hk2]; simp [Nat.testBit_or]
      · intro i x hi hx hk2
        rcases hcase i x hi hx with h1 | ⟨rfl, rfl⟩
        · have := hI.hld i x h1 hx hk2
          cases Nat.beq (kindB P y0.op) 1 <;> simp [Nat.testBit_or, this]
        · rw [hk2]; simp [Nat.testBit_or]
      · intro i x hi hx hk2
        rcases hcase i x hi hx with h1 | ⟨rfl, rfl⟩
        · have := hI.hst i x h1 hx hk2
          cases Nat.beq (kindB P y0.op) 3 <;> simp [Nat.testBit_or, this]
        · rw [hk2]; simp [Nat.testBit_or]

/-- What the check gives. -/
structure Ordered (P : Program) (all : List Oper) : Prop where
  back : ∀ (k : Nat) (y : Oper), all[k]? = some y → ∀ e ∈ y.after, e.on < k
  pair : ∀ (S : Nat → Prop), ClosedS all S → ∀ (k : Nat) (y : Oper) (i : Nat) (x : Oper), all[k]? = some y → i < k → all[i]? = some x → conf P all x y = true → S k → S i

theorem ordered_of {P : Program} {all : List Oper} (h : drawB P all = true) : Ordered P all := by
  have h1 := orderF_spec all 0 0 0 0 0 0 0 (by simp) ⟨by simp, by simp, by simp, by simp, by simp, by simp, by simp⟩ h
  exact ⟨fun k y hy => (h1 k y (Nat.zero_le _) hy).1, fun S hS k y i x hy hi hx hc hk => (h1 k y (Nat.zero_le _) hy).2 S hS i x hi hx hc hk⟩
end

/-- The same boxes, at some places (from 10000 on: what may be written). -/
def KMu (b : Nat) (H H' : PH) : Prop := cond (Nat.ble 10000 b) (H.mu[b - 10000]? = H'.mu[b - 10000]?) (H.bx[b]? = H'.bx[b]?)
theorem KMu.refl (b : Nat) (H : PH) : KMu b H H := by
  unfold KMu
  cases Nat.ble 10000 b <;> simp
theorem KMu.symm {b : Nat} {H H' : PH} (h : KMu b H H') : KMu b H' H := by
  unfold KMu at *
  cases hb : Nat.ble 10000 b <;> rw [hb] at h <;> simp only [cond_true, cond_false] at * <;> exact h.symm
theorem KMu.trans {b : Nat} {H H' H'' : PH} (h : KMu b H H') (k : KMu b H' H'') : KMu b H H'' := by
  unfold KMu at *
  cases hb : Nat.ble 10000 b <;> rw [hb] at h k <;> simp only [cond_true, cond_false] at * <;> exact h.trans k
def KEq : List Nat → PH → PH → Prop
  | [], _, _ => True
  | b :: K, H, H' => KMu b H H' ∧ KEq K H H'
theorem KEq.refl : ∀ (K : List Nat) (H : PH), KEq K H H
  | [], _ => trivial
  | _ :: K, H => ⟨.refl _ _, KEq.refl K H⟩
theorem KEq.symm : ∀ {K : List Nat} {H H' : PH}, KEq K H H' → KEq K H' H
  | [], _, _, _ => trivial
  | _ :: _, _, _, h => ⟨h.1.symm, KEq.symm h.2⟩
theorem KEq.trans : ∀ {K : List Nat} {H H' H'' : PH}, KEq K H H' → KEq K H' H'' → KEq K H H''
  | [], _, _, _, _, _ => trivial
  | _ :: _, _, _, _, h, k => ⟨h.1.trans k.1, KEq.trans h.2 k.2⟩
theorem KEq.get : ∀ {K : List Nat} {H H' : PH}, KEq K H H' → ∀ b ∈ K, KMu b H H'
  | [], _, _, _, b, hb => by simp at hb
  | k :: K, _, _, h, b, hb => by
    rcases List.mem_cons.1 hb with rfl | hb
    · exact h.1
    · exact KEq.get h.2 b hb
theorem KEq.at {K : List Nat} {H H' : PH} (h : KEq K H H') (b : Nat) (hb : b ∈ K) (hl : Nat.ble 10000 b = false) : H.bx[b]? = H'.bx[b]? := by
  have := h.get b hb
  unfold KMu at this
  rw [hl] at this
  exact this
theorem KEq.mu {K : List Nat} {H H' : PH} (h : KEq K H H') (j : Nat) (hj : 10000 + j ∈ K) : H.mu[j]? = H'.mu[j]? := by
  have := h.get _ hj
  have e : Nat.ble 10000 (10000 + j) = true := Nat.ble_eq_true_of_le (by omega)
  unfold KMu at this
  rw [e] at this
  simpa using this

/-- What is known of something that may be written, but for what its elements are. -/
def shM : Option MO → Option (Nat × Nat × Nat × Nat)
  | none => none
  | some (.gone n) => some (0, n, 0, 0)
  | some (.arr n e es) => some (1, n, e, es.length)
  | some (.map es) => some (2, 0, 0, es.length)
/-- The same things that may be written, as far as they are not written, at some places. -/
def KSh : List Nat → PH → PH → Prop
  | [], _, _ => True
  | b :: K, H, H' => cond (Nat.ble 10000 b) (shM H.mu[b - 10000]? = shM H'.mu[b - 10000]?) True ∧ KSh K H H'
theorem KSh.of_mu : ∀ {K : List Nat} {H H' : PH}, H.mu = H'.mu → KSh K H H'
  | [], _, _, _ => trivial
  | b :: K, H, H', h => by
    refine ⟨?_, KSh.of_mu h⟩
    cases Nat.ble 10000 b
    · trivial
    · simp only [cond_true]; rw [h]
theorem KSh.refl (K : List Nat) (H : PH) : KSh K H H := .of_mu rfl
theorem KSh.symm : ∀ {K : List Nat} {H H' : PH}, KSh K H H' → KSh K H' H
  | [], _, _, _ => trivial
  | b :: K, H, H', h => by
    refine ⟨?_, KSh.symm h.2⟩
    have := h.1
    cases hb : Nat.ble 10000 b
    · trivial
    · rw [hb] at this; simp only [cond_true] at *; exact this.symm
theorem KSh.trans : ∀ {K : List Nat} {H H' H'' : PH}, KSh K H H' → KSh K H' H'' → KSh K H H''
  | [], _, _, _, _, _ => trivial
  | b :: K, H, H', H'', h, k => by
    refine ⟨?_, KSh.trans h.2 k.2⟩
    have h1 := h.1
    have k1 := k.1
    cases hb : Nat.ble 10000 b
    · trivial
    · rw [hb] at h1 k1; simp only [cond_true] at *; exact h1.trans k1
theorem KEq.sh : ∀ {K : List Nat} {H H' : PH}, KEq K H H' → KSh K H H'
  | [], _, _, _ => trivial
  | b :: K, H, H', h => by
    refine ⟨?_, KEq.sh h.2⟩
    have := h.1
    unfold KMu at this
    cases hb : Nat.ble 10000 b
    · trivial
    · rw [hb] at this; simp only [cond_true] at *; rw [this]
theorem KSh.at : ∀ {K : List Nat} {H H' : PH}, KSh K H H' → ∀ j, 10000 + j ∈ K → shM H.mu[j]? = shM H'.mu[j]?
  | [], _, _, _, b, hb => by simp at hb
  | k :: K, _, _, h, j, hj => by
    rcases List.mem_cons.1 hj with rfl | hj
    · have := h.1
      have e : Nat.ble 10000 (10000 + j) = true := Nat.ble_eq_true_of_le (by omega)
      rw [e] at this
      simpa using this
    · exact KSh.at h.2 j hj

/-- What is asked of an operation of a region that draws: K: the boxes that are read in it. -/
def Cond (P : Program) (K : List Nat) (o : Oper) (env : Env) (H : PH) (v : PV) (H' : PH) : Prop :=
  (kindB P o.op = 0 ∧ H' = H ∧ ∀ H1, KSh K H H1 → PO P o env.eval H1 v H1) ∨
  (kindB P o.op = 1 ∧ H' = H ∧ ∀ H1, KEq K H H1 → PO P o env.eval H1 v H1) ∨
  (kindB P o.op = 2 ∧ PO P o env.eval H v H' ∧ KEq K H H') ∨
  (kindB P o.op = 3 ∧ PO P o env.eval H v H' ∧ KSh K H H')

def POpsD (P : Program) (N : Nat) (all : Array Oper) (K : List Nat) (Z : Env → PH → Prop) : List Oper → Env → PH → Prop
  | [], env, H => Z env H
  | o :: rest, env, H => (∀ t, o.dst = some t → t < N) ∧
    match gd all o env with
    | some true => ∃ v H', Cond P K o env H v H' ∧ POpsD P N all K Z rest (upd env o.dst v) H'
    | some false => POpsD P N all K Z rest (upd env o.dst undefP) H
    | none => False

/-- The run in the text's order. -/
structure Tr where
  E : Nat → Env
  H : Nat → PH
  V : Nat → PV

structure IsRun (P : Program) (N : Nat) (all : List Oper) (K : List Nat) (T : Tr) : Prop where
  dst : ∀ (i : Nat) (o : Oper), all[i]? = some o → ∀ t, o.dst = some t → t < N
  env : ∀ (i : Nat) (o : Oper), all[i]? = some o → T.E (i + 1) = upd (T.E i) o.dst (T.V i)
  step : ∀ (i : Nat) (o : Oper), all[i]? = some o → (gd all.toArray o (T.E i) = some true ∧ Cond P K o (T.E i) (T.H i) (T.V i) (T.H (i + 1))) ∨ (gd all.toArray o (T.E i) = some false ∧ T.V i = undefP ∧ T.H (i + 1) = T.H i)

def RunFrom (P : Program) (N : Nat) (all : List Oper) (K : List Nat) (Z : Env → PH → Prop) (j n : Nat) (env : Env) (H : PH) (T : Tr) : Prop :=
  T.E j = env ∧ T.H j = H ∧ Z (T.E (j + n)) (T.H (j + n)) ∧
    ∀ (i : Nat) (o : Oper), j ≤ i → all[i]? = some o → (∀ t, o.dst = some t → t < N) ∧ T.E (i + 1) = upd (T.E i) o.dst (T.V i) ∧
      ((gd all.toArray o (T.E i) = some true ∧ Cond P K o (T.E i) (T.H i) (T.V i) (T.H (i + 1))) ∨ (gd all.toArray o (T.E i) = some false ∧ T.V i = undefP ∧ T.H (i + 1) = T.H i))

theorem run_of {P : Program} {N : Nat} {all : List Oper} {K : List Nat} {Z : Env → PH → Prop} : ∀ (l : List Oper) (j : Nat) (env : Env) (H : PH), (∀ k, l[k]? = all[j + k]?) → POpsD P N all.toArray K Z l env H →
    ∃ T : Tr, RunFrom P N all K Z j l.length env H T
  | [], j, env, H, hl, h => ⟨⟨fun _ => env, fun _ => H, fun _ => undefP⟩, rfl, rfl, h, fun i o hi ho => by
      have := hl (i - j)
      rw [show j + (i - j) = i by omega, ho] at this
      simp at this⟩
  | o :: r, j, env, H, hl, h => by
    obtain ⟨hd, h⟩ := h
    have h0 : all[j]? = some o := by simpa using (hl 0).symm
    have hl' : ∀ k, r[k]? = all[j + 1 + k]? := fun q => by have := hl (q + 1); simpa [Nat.add_assoc, Nat.add_comm 1 q] using this
    have key : ∀ (v : PV) (H' : PH), POpsD P N all.toArray K Z r (upd env o.dst v) H' → ((gd all.toArray o env = some true ∧ Cond P K o env H v H') ∨ (gd all.toArray o env = some false ∧ v = undefP ∧ H' = H)) → ∃ T : Tr, RunFrom P N all K Z j (o :: r).length env H T := by
      intro v H' hr hc
      obtain ⟨T, e1, e2, e3, e4⟩ := run_of r (j + 1) _ _ hl' hr
      refine ⟨⟨fun i => if i = j then env else T.E i, fun i => if i = j then H else T.H i, fun i => if i = j then v else T.V i⟩, by simp, by simp, ?_, ?_⟩
      · have hne : ¬ j + (o :: r).length = j := by simp
        simp only [hne, if_false]
        rw [show j + (o :: r).length = j + 1 + r.length by simp; omega]
        exact e3
      · intro i o' hi ho'
        by_cases e : i = j
        · subst e
          rw [h0] at ho'
          cases ho'
          have hne : ¬ i + 1 = i := by omega
          simp only [hne, if_false, if_true]
          refine ⟨hd, e1, ?_⟩
          rw [e2]
          exact hc
        · have hne : ¬ i + 1 = j := by omega
          simp only [e, hne, if_false]
          exact e4 i o' (by omega) ho'
    split at h
    · rename_i hg
      obtain ⟨v, H', hc, hr⟩ := h
      exact key v H' hr (.inl ⟨hg, hc⟩)
    · rename_i hg
      exact key undefP H h (.inr ⟨hg, rfl, rfl⟩)
    · exact h.elim
end Go.Pure

/- A generic layer: regions that draw their order: the theorem. -/
namespace Go.Pure
open Go

section
variable {P : Program} {N : Nat} {all : List Oper} {K : List Nat} {T : Tr}

theorem env_last (hT : IsRun P N all K T) {t i : Nat} {o : Oper} (ho : all[i]? = some o) (hd : o.dst = some t) : ∀ k, i < k → k ≤ all.length → (∀ (j : Nat) (o' : Oper), i < j → j < k → all[j]? = some o' → o'.dst ≠ some t) → T.E k t = T.V i := by
  intro k
  induction k with
  | zero => intro h; omega
  | succ k ih =>
    intro hik hk hno
    by_cases e : i = k
    · subst e
      rw [hT.env i o ho, hd]
      simp [upd]
    · have hk' : k < all.length := by omega
      have ho' : all[k]? = some all[k] := List.getElem?_eq_getElem hk'
      rw [hT.env k _ ho']
      have hne := hno k _ (by omega) (by omega) ho'
      have : upd (T.E k) all[k].dst (T.V k) t = T.E k t := by
        cases hdk : all[k].dst with
        | none => rfl
        | some d =>
          have : Nat.beq t d = false := Bool.eq_false_iff.2 fun h => hne (by rw [hdk, Nat.eq_of_beq_eq_true h])
          simp [upd, this]
      rw [this]
      exact ih (by omega) (by omega) fun j o' h1 h2 => hno j o' h1 (by omega)

theorem env_first (hT : IsRun P N all K T) {t : Nat} : ∀ k, k ≤ all.length → (∀ (j : Nat) (o' : Oper), j < k → all[j]? = some o' → o'.dst ≠ some t) → T.E k t = T.E 0 t := by
  intro k
  induction k with
  | zero => intros; rfl
  | succ k ih =>
    intro hk hno
    have hk' : k < all.length := by omega
    have ho' : all[k]? = some all[k] := List.getElem?_eq_getElem hk'
    rw [hT.env k _ ho']
    have hne := hno k _ (by omega) ho'
    have : upd (T.E k) all[k].dst (T.V k) t = T.E k t := by
      cases hdk : all[k].dst with
      | none => rfl
      | some d =>
        have : Nat.beq t d = false := Bool.eq_false_iff.2 fun h => hne (by rw [hdk, Nat.eq_of_beq_eq_true h])
        simp [upd, this]
    rw [this]
    exact ih (by omega) fun j o' h1 => hno j o' (by omega)

/-- The state's boxes change at operations of kind 2 and 3 alone. -/
theorem H_same (hT : IsRun P N all K T) {i m : Nat} (him : i ≤ m) (hm : m ≤ all.length) (h : ∀ (j : Nat) (o : Oper), i ≤ j → j < m → all[j]? = some o → kindB P o.op < 2) : T.H m = T.H i := by
  induction m with
  | zero => have : i = 0 := by omega
            rw [this]
  | succ m ih =>
    by_cases e : i = m + 1
    · rw [e]
    · have ho : all[m]? = some all[m] := List.getElem?_eq_getElem (by omega)
      have hk := h m _ (by omega) (by omega) ho
      have : T.H (m + 1) = T.H m := by
        rcases hT.step m _ ho with ⟨_, hc⟩ | ⟨_, _, hc⟩
        · rcases hc with ⟨_, h1, _⟩ | ⟨_, h1, _⟩ | ⟨h1, _⟩ | ⟨h1, _⟩
          · exact h1
          · exact h1
          · omega
          · omega
        · exact hc
      rw [this]
      exact ih (by omega) (by omega) fun j o h1 h2 => h j o h1 (by omega)

theorem H_keq (hT : IsRun P N all K T) {i m : Nat} (him : i ≤ m) (hm : m ≤ all.length) (h : ∀ (j : Nat) (o : Oper), i ≤ j → j < m → all[j]? = some o → kindB P o.op ≠ 3) : KEq K (T.H i) (T.H m) := by
  induction m with
  | zero => have : i = 0 := by omega
            rw [this]; exact KEq.refl _ _
  | succ m ih =>
    by_cases e : i = m + 1
    · rw [e]; exact KEq.refl _ _
    · have ho : all[m]? = some all[m] := List.getElem?_eq_getElem (by omega)
      have hk := h m _ (by omega) (by omega) ho
      refine (ih (by omega) (by omega) fun j o h1 h2 => h j o h1 (by omega)).trans ?_
      rcases hT.step m _ ho with ⟨_, hc⟩ | ⟨_, _, hc⟩
      · rcases hc with ⟨_, h1, _⟩ | ⟨_, h1, _⟩ | ⟨_, _, h1⟩ | ⟨h1, _⟩
        · rw [h1]; exact KEq.refl _ _
        · rw [h1]; exact KEq.refl _ _
        · exact h1
        · exact absurd h1 hk
      · rw [hc]; exact KEq.refl _ _

theorem H_ksh (hT : IsRun P N all K T) {i m : Nat} (him : i ≤ m) (hm : m ≤ all.length) : KSh K (T.H i) (T.H m) := by
  induction m with
  | zero => have : i = 0 := by omega
            rw [this]; exact KSh.refl _ _
  | succ m ih =>
    by_cases e : i = m + 1
    · rw [e]; exact KSh.refl _ _
    · have ho : all[m]? = some all[m] := List.getElem?_eq_getElem (by omega)
      refine (ih (by omega) (by omega)).trans ?_
      rcases hT.step m _ ho with ⟨_, hc⟩ | ⟨_, _, hc⟩
      · rcases hc with ⟨_, h1, _⟩ | ⟨_, h1, _⟩ | ⟨_, _, h1⟩ | ⟨_, _, h1⟩
        · rw [h1]; exact KSh.refl _ _
        · rw [h1]; exact KSh.refl _ _
        · exact h1.sh
        · exact h1
      · rw [hc]; exact KSh.refl _ _

/-- What a slot holds when the operations in S have run. -/
def SlotOk (all : List Oper) (T : Tr) (S : Nat → Prop) (c : Ctx) (t : Nat) (v : Value) : Prop :=
  (∃ (i : Nat) (o : Oper), all[i]? = some o ∧ S i ∧ o.dst = some t ∧ (∀ (j : Nat) (o' : Oper), i < j → all[j]? = some o' → S j → o'.dst ≠ some t) ∧ RV c (T.V i) v) ∨
  ((∀ (i : Nat) (o : Oper), all[i]? = some o → S i → o.dst ≠ some t) ∧ RV c (T.E 0 t) v)

theorem SlotOk.mono {S : Nat → Prop} {c c' : Ctx} (hE : Evo c c') {t : Nat} {v : Value} (h : SlotOk all T S c t v) : SlotOk all T S c' t v := by
  rcases h with ⟨i, o, h1, h2, h3, h4, h5⟩ | ⟨h1, h2⟩
  · exact .inl ⟨i, o, h1, h2, h3, h4, h5.mono hE⟩
  · exact .inr ⟨h1, h2.mono hE⟩

theorem conf_of_look {x y : Oper} {t : Nat} (hx : x.dst = some t) (hy : t ∈ looks all y) : conf P all x y = true := by
  simp [conf, hx, optMem, memB_iff.2 hy]
theorem conf_of_look' {x y : Oper} {t : Nat} (hx : t ∈ looks all x) (hy : y.dst = some t) : conf P all x y = true := by
  simp [conf, hy, optMem, memB_iff.2 hx]
theorem conf_of_dst {x y : Oper} {t : Nat} (hx : x.dst = some t) (hy : y.dst = some t) : conf P all x y = true := by
  simp [conf, hx, hy, optEq]
theorem conf_chain {x y : Oper} (hx : 2 ≤ kindB P x.op) (hy : 2 ≤ kindB P y.op) : conf P all x y = true := by
  simp [conf, Nat.ble_eq, hx, hy]
theorem conf_ls {x y : Oper} (hx : kindB P x.op = 1) (hy : kindB P y.op = 3) : conf P all x y = true := by simp [conf, hx, hy]
theorem conf_sl {x y : Oper} (hx : kindB P x.op = 3) (hy : kindB P y.op = 1) : conf P all x y = true := by simp [conf, hx, hy]

/-- Operation i may come now. -/
structure Comes (all : List Oper) (S : Nat → Prop) (i : Nat) (o : Oper) : Prop where
  at_ : all[i]? = some o
  out : ¬ S i
  pre : ∀ e ∈ o.after, Region.binds .any e = true → S e.on

theorem Comes.before (hO : Ordered P all) {S : Nat → Prop} (hS : ClosedS all S) {i : Nat} {o : Oper} (h : Comes all S i o) {j : Nat} {x : Oper} (hj : j < i) (hx : all[j]? = some x) (hc : conf P all x o = true) : S j := by
  have hS' : ClosedS all (fun k => S k ∨ k = i) := by
    intro k y hy hk e he hb
    rcases hk with hk | rfl
    · exact .inl (hS k y hy hk e he hb)
    · rw [h.at_] at hy
      cases hy
      exact .inl (h.pre e he hb)
  rcases hO.pair _ hS' i o j x h.at_ hj hx hc (.inr rfl) with h1 | h1
  · exact h1
  · omega

theorem Comes.behind (hO : Ordered P all) {S : Nat → Prop} (hS : ClosedS all S) {i : Nat} {o : Oper} (h : Comes all S i o) {j : Nat} {y : Oper} (hj : i < j) (hy : all[j]? = some y) (hc : conf P all o y = true) : ¬ S j :=
  fun hs => h.out (hO.pair S hS j y i o hy hj h.at_ hc hs)

theorem Comes.slot (hT : IsRun P N all K T) (hO : Ordered P all) {S : Nat → Prop} (hS : ClosedS all S) {i : Nat} {o : Oper} (h : Comes all S i o) {t : Nat} (ht : t ∈ looks all o) {c : Ctx} {v : Value} (hs : SlotOk all T S c t v) : RV c (T.E i t) v := by
  have hi : i ≤ all.length := Nat.le_of_lt (List.getElem?_eq_some_iff.1 h.at_).1
  rcases hs with ⟨i', o', h1, h2, h3, h4, h5⟩ | ⟨h1, h2⟩
  · have hlt : i' < i := by
      rcases Nat.lt_trichotomy i' i with hlt | rfl | hgt
      · exact hlt
      · exact absurd h2 h.out
      · exact absurd h2 (h.behind hO hS hgt h1 (conf_of_look' ht h3))
    rw [env_last hT h1 h3 i hlt hi fun j o'' hj1 hj2 hj3 hj4 => h4 j o'' hj1 hj3 (h.before hO hS hj2 hj3 (conf_of_look hj4 ht)) hj4]
    exact h5
  · rw [env_first hT i hi fun j o'' hj1 hj2 hj3 => h1 j o'' hj2 (h.before hO hS hj1 hj2 (conf_of_look hj3 ht)) hj3]
    exact h2

theorem SlotOk.put (hO : Ordered P all) {S : Nat → Prop} (hS : ClosedS all S) {i : Nat} {o : Oper} (h : Comes all S i o) {c : Ctx} {a : Act} {v : Value} (hN : a.tmps.size = N) (hd : ∀ t, o.dst = some t → t < N) (hv : RV c (T.V i) v)
    (hs : ∀ t, SlotOk all T S c t (a.tmps.getD t undef)) : ∀ t, SlotOk all T (fun k => S k ∨ k = i) c t ((a.put o.dst v).tmps.getD t undef) := by
  intro t
  by_cases e : o.dst = some t
  · refine .inl ⟨i, o, h.at_, .inr rfl, e, fun j o' hj ho' hsj he => ?_, ?_⟩
    · rcases hsj with hsj | rfl
      · exact h.behind hO hS hj ho' (conf_of_dst e he) hsj
      · omega
    · have hlt : t < a.tmps.size := by rw [hN]; exact hd t e
      rw [e]
      simpa [Act.put, Array.getD_eq_getD_getElem?, Array.getElem?_setIfInBounds, hlt] using hv
  · have hsame : (a.put o.dst v).tmps.getD t undef = a.tmps.getD t undef := by
      cases hdd : o.dst with
      | none => rfl
      | some d =>
        have hne : d ≠ t := fun h => e (by rw [hdd, h])
        simp [Act.put, Array.getD_eq_getD_getElem?, hne]
    rw [hsame]
    rcases hs t with ⟨i', o', h1, h2, h3, h4, h5⟩ | ⟨h1, h2⟩
    · refine .inl ⟨i', o', h1, .inl h2, h3, fun j o'' hj ho'' hsj he => ?_, h5⟩
      rcases hsj with hsj | rfl
      · exact h4 j o'' hj ho'' hsj he
      · rw [h.at_] at ho''
        cases ho''
        exact e he
    · refine .inr ⟨fun j o'' ho'' hsj he => ?_, h2⟩
      rcases hsj with hsj | rfl
      · exact h1 j o'' ho'' hsj he
      · rw [h.at_] at ho''
        cases ho''
        exact e he

theorem gd_local {o : Oper} {env : Env} {c : Ctx} {tmps : Array Value} (h : ∀ t ∈ looks all o, RV c (env t) (tmps.getD t undef)) {b : Bool} (hg : gd all.toArray o env = some b) : Region.wanted o (yielded all.toArray tmps) = b := by
  unfold gd at hg
  unfold Region.wanted
  split at hg
  · rename_i e; rw [e]; simpa using hg
  · rename_i j want e
    rw [e]
    simp only [yielded]
    split at hg
    · rename_i d hd
      have hd' : (all[j]?).bind (·.dst) = some d := by simpa using hd
      have hs := h d (by simp [looks, e, hd'])
      have hd2 : ((all.toArray)[j]?).bind (·.dst) = some d := by simpa using hd'
      rw [hd2]
      simp only [Option.bind_some]
      split at hg
      · rename_i b' he
        rw [he] at hs
        cases hs with
        | g x v hr =>
          generalize hv : tmps.getD d undef = v at hr
          cases hr
          rw [Array.getD_eq_getD_getElem?] at hv
          cases hx : tmps[d]? with
          | none => rw [hx] at hv; simp [undef] at hv
          | some u => rw [hx] at hv; simp at hv; subst hv; simpa using hg
      · rename_i vs he
        rw [he] at hs
        cases hs with
        | g x v hr =>
          generalize hv : tmps.getD d undef = v at hr
          cases hr
          rw [Array.getD_eq_getD_getElem?] at hv
          cases hx : tmps[d]? with
          | none => simpa using hg
          | some u => rw [hx] at hv; simp at hv; subst hv; simpa using hg
      · cases hg
    · cases hg

/-- What holds when the operations in S have run, in whatever order. -/
def Inv (P : Program) (N : Nat) (all : List Oper) (T : Tr) (c0 : Ctx) (S : Nat → Prop) (a : Act) (w : World) : Prop :=
  ∃ (c : Ctx) (m : Nat), m ≤ all.length ∧ (∀ (j : Nat) (o : Oper), all[j]? = some o → 2 ≤ kindB P o.op → (S j ↔ j < m)) ∧ c.w = w ∧ Rel P c (T.H m) ∧ Evo c0 c ∧ a.defers = [] ∧ a.tmps.size = N ∧
    ∀ t, SlotOk all T S c t (a.tmps.getD t undef)

theorem inv_step (hT : IsRun P N all K T) (hO : Ordered P all) {c0 : Ctx} {S : Nat → Prop} (hS : ClosedS all S) {a : Act} {w : World} (hI : Inv P N all T c0 S a w) {i : Nat} {o : Oper} (h : Comes all S i o) {Z : Act → World → Prop} {Q : Exit → Act → World → Prop}
    (hZ : ∀ a' w', Inv P N all T c0 (fun k => S k ∨ k = i) a' w' → Z a' w') :
    if Region.wanted o (yielded all.toArray a.tmps) then o.wp P a w Z Q ∨ (o.asks P a w ∧ LetsOut Q) else Z (a.put o.dst undef) w := by
  obtain ⟨c, m, hm, hch, rfl, hr, hE, hdf, hN, hs⟩ := hI
  have hlooks : ∀ t ∈ looks all o, RV c (T.E i t) (a.tmps.getD t undef) := fun t ht => h.slot hT hO hS ht (hs t)
  have hilen : i < all.length := (List.getElem?_eq_some_iff.1 h.at_).1
  have hops : ∀ x ∈ o.op.operands.toList, RV c ((T.E i).eval x) (a.eval x) := by
    intro x hx
    cases x with
    | tmp t => exact hlooks t (by simp only [looks, List.mem_append]; exact .inl (List.mem_filterMap.2 ⟨.tmp t, hx, rfl⟩))
    | const v => exact constPV_ok c v
    | global g => exact .any _
    | func f => exact .g _ _ (.raw _)
  -- where the chain stands
  have hle : 2 ≤ kindB P o.op → m ≤ i := fun hk => Nat.le_of_not_lt fun hlt => h.out ((hch i o h.at_ hk).2 hlt)
  have hnochain : 2 ≤ kindB P o.op → ∀ (j : Nat) (x : Oper), m ≤ j → j < i → all[j]? = some x → kindB P x.op < 2 := by
    intro hk j x hj1 hj2 hx
    refine Nat.lt_of_not_le fun hkx => ?_
    have := (hch j x hx hkx).1 (h.before hO hS hj2 hx (conf_chain hkx hk))
    omega
  have hHm : 2 ≤ kindB P o.op → T.H i = T.H m := fun hk => H_same hT (hle hk) (by omega) (hnochain hk)
  have chain' : 2 ≤ kindB P o.op → ∀ (j : Nat) (x : Oper), all[j]? = some x → 2 ≤ kindB P x.op → ((S j ∨ j = i) ↔ j < i + 1) := by
    intro hk j x hx hkx
    constructor
    · rintro (hsj | rfl)
      · have := (hch j x hx hkx).1 hsj
        have := hle hk
        omega
      · omega
    · intro hlt
      by_cases e : j = i
      · exact .inr e
      · refine .inl ((hch j x hx hkx).2 ?_)
        refine Nat.lt_of_not_le fun hmj => ?_
        have := hnochain hk j x hmj (by omega) hx
        omega
  have plain' : kindB P o.op < 2 → ∀ (j : Nat) (x : Oper), all[j]? = some x → 2 ≤ kindB P x.op → ((S j ∨ j = i) ↔ j < m) := by
    intro hk j x hx hkx
    constructor
    · rintro (hsj | rfl)
      · exact (hch j x hx hkx).1 hsj
      · rw [h.at_] at hx
        cases hx
        omega
    · intro hlt
      exact .inl ((hch j x hx hkx).2 hlt)
  -- what a value hands on
  have done : ∀ (c' : Ctx) (m' : Nat) (rv : Value), m' ≤ all.length → (∀ (j : Nat) (x : Oper), all[j]? = some x → 2 ≤ kindB P x.op → ((S j ∨ j = i) ↔ j < m')) → Rel P c' (T.H m') → Evo c c' → RV c' (T.V i) rv → Z (a.put o.dst rv) c'.w := by
    intro c' m' rv hm' hch' hr' hE' hv
    refine hZ _ _ ⟨c', m', hm', hch', rfl, hr', hE.trans hE', by cases o.dst <;> exact hdf, by cases o.dst <;> simpa [Act.put] using hN, ?_⟩
    exact SlotOk.put hO hS h hN (hT.dst i o h.at_) hv fun t => (hs t).mono hE'
  have run : ∀ (H' : PH) (m' : Nat), m' ≤ all.length → (∀ (j : Nat) (x : Oper), all[j]? = some x → 2 ≤ kindB P x.op → ((S j ∨ j = i) ↔ j < m')) → H' = T.H m' → PO P o (T.E i).eval (T.H m) (T.V i) H' → o.wp P a c.w Z Q := by
    intro H' m' hm' hch' hH' hpo
    refine (hpo c a.eval hr hops).wp ?_
    rintro rv w' ⟨c', rfl, hr', hE', hv⟩
    exact done c' m' rv hm' hch' (hH' ▸ hr') hE' hv
  rcases hT.step i o h.at_ with ⟨hg, hc⟩ | ⟨hg, hv, hH⟩
  · rw [gd_local hlooks hg, if_pos rfl]
    left
    rcases hc with ⟨hk, _, hpo⟩ | ⟨hk, _, hpo⟩ | ⟨hk, hpo, _⟩ | ⟨hk, hpo, _⟩
    · refine run (T.H m) m hm (plain' (by omega)) rfl (hpo _ ?_)
      rcases Nat.le_total i m with him | him
      · exact H_ksh hT him hm
      · exact (H_ksh hT him (by omega)).symm
    · refine run (T.H m) m hm (plain' (by omega)) rfl (hpo _ ?_)
      rcases Nat.le_total i m with him | him
      · refine H_keq hT him hm fun j x hj1 hj2 hx hkx => ?_
        have hne : i ≠ j := fun e => by subst e; rw [h.at_] at hx; cases hx; omega
        exact h.behind hO hS (by omega) hx (conf_ls hk hkx) ((hch j x hx (by omega)).2 hj2)
      · refine (H_keq hT him (by omega) fun j x hj1 hj2 hx hkx => ?_).symm
        have := (hch j x hx (by omega)).1 (h.before hO hS hj2 hx (conf_sl hkx hk))
        omega
    · exact run (T.H (i + 1)) (i + 1) hilen (chain' (by omega)) rfl (hHm (by omega) ▸ hpo)
    · exact run (T.H (i + 1)) (i + 1) hilen (chain' (by omega)) rfl (hHm (by omega) ▸ hpo)
  · rw [gd_local hlooks hg, if_neg (by simp)]
    by_cases hk : 2 ≤ kindB P o.op
    · exact done c (i + 1) undef hilen (chain' hk) (by rw [hH, hHm hk]; exact hr) (Evo.refl c) (by rw [hv]; exact .g _ _ (.raw _))
    · exact done c m undef hm (plain' (by omega)) hr (Evo.refl c) (by rw [hv]; exact .g _ _ (.raw _))

theorem inv_end (hT : IsRun P N all K T) {c0 : Ctx} {S : Nat → Prop} (hall : ∀ i, i < all.length → S i) {a : Act} {w : World} (hI : Inv P N all T c0 S a w) :
    ∃ c, c.w = w ∧ Rel P c (T.H all.length) ∧ Evo c0 c ∧ ER c N (T.E all.length) a := by
  obtain ⟨c, m, hm, hch, rfl, hr, hE, hdf, hN, hs⟩ := hI
  have hH : T.H all.length = T.H m := H_same hT hm (Nat.le_refl _) fun j o hj1 hj2 hx => Nat.lt_of_not_le fun hk => by
    have := (hch j o hx hk).1 (hall j hj2)
    omega
  refine ⟨c, rfl, hH ▸ hr, hE, hdf, hN, fun t => ?_⟩
  rcases hs t with ⟨i, o, h1, h2, h3, h4, h5⟩ | ⟨h1, h2⟩
  · have hi := (List.getElem?_eq_some_iff.1 h1).1
    rw [env_last hT h1 h3 _ hi (Nat.le_refl _) fun j o' hj1 hj2 hj3 => h4 j o' hj1 hj3 (hall j hj2)]
    exact h5
  · rw [env_first hT _ (Nat.le_refl _) fun j o' hj1 hj2 => h1 j o' hj2 (hall j hj1)]
    exact h2

def lst (listed : Array Bool) (i : Nat) : Prop := listed.getD i false = true
def left (listed : Array Bool) (n : Nat) : Nat := ((List.range n).filter fun i => !listed.getD i false).length

theorem lst_set {listed : Array Bool} {i k : Nat} (hi : i < listed.size) : lst (listed.setIfInBounds i true) k ↔ (lst listed k ∨ k = i) := by
  unfold lst
  simp only [Array.getD_eq_getD_getElem?, Array.getElem?_setIfInBounds]
  by_cases e : i = k
  · subst e; simp [hi]
  · simp [e]; intro h; exact absurd h.symm e

theorem left_set {listed : Array Bool} {i n : Nat} (hi : i < listed.size) (hn : i < n) (hl : ¬ lst listed i) : left (listed.setIfInBounds i true) n < left listed n := by
  unfold left
  have h1 : ((List.range n).filter fun k => !(listed.setIfInBounds i true).getD k false) = ((List.range n).filter fun k => !listed.getD k false).filter (fun k => decide (k ≠ i)) := by
    rw [List.filter_filter]
    congr 1
    funext k
    by_cases e : i = k
    · subst e; simp [Array.getD_eq_getD_getElem?, hi]
    · have e' : ¬ k = i := fun h => e h.symm
      simp [Array.getD_eq_getD_getElem?, e, e']
  rw [h1]
  refine List.length_filter_lt_length_iff_exists.2 ⟨i, ?_, by simp⟩
  simp only [List.mem_filter, List.mem_range]
  refine ⟨hn, ?_⟩
  simpa [lst] using hl

theorem mem_ready' {listed : Array Bool} {i : Nat} (hsz : listed.size = all.length) (h : i ∈ Region.ready .any all.toArray listed) : ∃ o, Comes all (lst listed) i o := by
  unfold Region.ready at h
  rw [List.mem_filter] at h
  obtain ⟨h1, h2⟩ := h
  have hlt : i < all.length := by simpa using h1
  simp only [Bool.and_eq_true] at h2
  refine ⟨all[i], List.getElem?_eq_getElem hlt, ?_, ?_⟩
  · have := h2.1
    simp only [lst, Array.getD_eq_getD_getElem?] at this ⊢
    rw [Array.getElem?_eq_getElem (by omega)] at this ⊢
    simpa using this
  · intro e he hb
    have h3 := h2.2
    have : (all.toArray)[i]? = some all[i] := by simp [hlt]
    rw [this] at h3
    simp only [Option.map_some, Option.getD_some] at h3
    have h4 := Array.all_eq_true_iff_forall_mem.1 h3 e he
    simp only [hb, Bool.not_true, Bool.false_or] at h4
    exact h4

theorem ready_or_all (hO : Ordered P all) {listed : Array Bool} (hsz : listed.size = all.length) (h : Region.ready .any all.toArray listed = []) : ∀ i, i < all.length → lst listed i := by
  intro i
  induction i using Nat.strongRecOn with
  | _ i ih =>
    intro hi
    refine Classical.byContradiction fun hn => ?_
    have : i ∈ Region.ready .any all.toArray listed := by
      unfold Region.ready
      rw [List.mem_filter]
      refine ⟨by simpa using hi, ?_⟩
      simp only [Bool.and_eq_true]
      refine ⟨?_, ?_⟩
      · simp only [lst, Array.getD_eq_getD_getElem?] at hn ⊢
        rw [Array.getElem?_eq_getElem (by omega)] at hn ⊢
        simpa using hn
      · have e0 : (all.toArray)[i]? = some all[i] := by simp [hi]
        rw [e0]
        simp only [Option.map_some, Option.getD_some]
        refine Array.all_eq_true_iff_forall_mem.2 fun e he => ?_
        have hlt := hO.back i all[i] (List.getElem?_eq_getElem hi) e he
        have := ih e.on hlt (by omega)
        simp only [lst] at this
        simp [this]
    rw [h] at this
    cases this

theorem wpAny_of_inv (hT : IsRun P N all K T) (hO : Ordered P all) {c0 : Ctx} {Q : Exit → Act → World → Prop}
    (hQ : ∀ a w, (∃ c, c.w = w ∧ Rel P c (T.H all.length) ∧ Evo c0 c ∧ ER c N (T.E all.length) a) → Q .normal a w) :
    ∀ (fuel : Nat) (listed : Array Bool) (a : Act) (w : World), listed.size = all.length → left listed all.length ≤ fuel → ClosedS all (lst listed) → Inv P N all T c0 (lst listed) a w → wpAny P .any all.toArray Q fuel listed a w
  | 0, listed, a, w, hsz, hf, hS, hI => by
    have hall : ∀ i, i < all.length → lst listed i := by
      intro i hi
      refine Classical.byContradiction fun hn => ?_
      have hmem : i ∈ (List.range all.length).filter fun i => !listed.getD i false := by
        simp only [List.mem_filter, List.mem_range]
        exact ⟨hi, by simpa [lst] using hn⟩
      have h0 : (List.range all.length).filter (fun i => !listed.getD i false) = [] := List.eq_nil_of_length_eq_zero (by unfold left at hf; omega)
      rw [h0] at hmem
      cases hmem
    refine ⟨?_, hQ a w (inv_end hT hall hI)⟩
    refine List.eq_nil_iff_forall_not_mem.2 fun i hi => ?_
    obtain ⟨o, hc⟩ := mem_ready' hsz hi
    exact hc.out (hall i (List.getElem?_eq_some_iff.1 hc.at_).1)
  | fuel + 1, listed, a, w, hsz, hf, hS, hI => by
    refine ⟨fun h0 => hQ a w (inv_end hT (ready_or_all hO hsz h0) hI), fun i hi => ?_⟩
    obtain ⟨o, hc⟩ := mem_ready' hsz hi
    have hlt := (List.getElem?_eq_some_iff.1 hc.at_).1
    have hop : (all.toArray)[i]? = some o := by simpa using hc.at_
    have hstep := inv_step (Q := Q) hT hO hS hI hc (Z := wpAny P .any all.toArray Q fuel (listed.setIfInBounds i true)) (by
      intro a' w' hI'
      have hset : lst (listed.setIfInBounds i true) = fun k => lst listed k ∨ k = i := funext fun k => propext (lst_set (by omega))
      refine wpAny_of_inv hT hO hQ fuel _ a' w' (by simpa using hsz) ?_ ?_ ?_
      · have := left_set (n := all.length) (by omega : i < listed.size) hlt hc.out
        omega
      · rw [hset]
        intro k y hy hk e he hb
        rcases hk with hk | rfl
        · exact .inl (hS k y hy hk e he hb)
        · rw [hc.at_] at hy
          cases hy
          exact .inl (hc.pre e he hb)
      · rw [hset]; exact hI')
    unfold wpOp
    rw [hop]
    exact hstep

/-- A REGION THAT DRAWS ITS ORDER: the order of the text serves for all. K: the boxes that it reads. -/
theorem PW_draw {id : Nat} {l : List Oper} {Q : Exit → Env → PH → Prop} {env : Env} {H : PH} (K : List Nat) (hm : P.follows .mixedOrders = true) (hd : drawB P l = true) (h : POpsD P N l.toArray K (fun env H => Q .normal env H) l env H) :
    PW P N (.region id l.toArray true) Q env H := by
  obtain ⟨T, e1, e2, e3, e4⟩ := run_of l 0 env H (by simp) h
  have hT : IsRun P N l K T := ⟨fun i o ho => (e4 i o (Nat.zero_le _) ho).1, fun i o ho => (e4 i o (Nat.zero_le _) ho).2.1, fun i o ho => (e4 i o (Nat.zero_le _) ho).2.2⟩
  have hO := ordered_of hd
  intro c a hr he
  refine wp_region_any hm ?_
  have hg := hr.grow (Ext.drew c.w)
  have none : ∀ i, ¬ lst (Array.replicate l.toArray.size false) i := by
    intro i h
    simp only [lst, Array.getD_eq_getD_getElem?] at h
    by_cases hi : i < l.length <;> simp [hi] at h
  refine wpAny_of_inv (c0 := c) hT hO ?_ _ _ a _ (by simp) ?_ (fun j o _ hj => absurd hj (none j)) ?_
  · rintro a' w' ⟨c', rfl, hr', hE, he'⟩
    simp only [Nat.zero_add] at e3
    exact ⟨c', _, _, e3, rfl, hr', hE, he'⟩
  · unfold left
    refine Nat.le_trans (List.length_filter_le _ _) (by simp)
  · refine ⟨⟨c.σ, c.τ, c.μ, c.hid, c.w.drew⟩, 0, Nat.zero_le _, fun j o hj _ => ⟨fun h => absurd h (none j), fun h => by omega⟩, rfl, e2 ▸ hg.1, hg.2, he.defers, he.size, fun t => .inr ⟨fun i o _ hs => absurd hs (none i), ?_⟩⟩
    rw [e1]
    exact (he.slot t).mono hg.2
end
end Go.Pure

/- A generic layer: steps of regions that draw, branches at guards, calls. -/
namespace Go.Pure
open Go

section
variable {P : Program} {N : Nat} {all : Array Oper} {K : List Nat} {Z : Env → PH → Prop} {rest : List Oper} {env : Env} {H H' : PH} {v : PV} {d : Option Tmp} {op : Op} {ty : TypeId} {pos : String} {aft : Array Edge} {g : Option (Nat × Bool)} {o : Oper}

theorem POpsD_nil (h : Z env H) : POpsD P N all K Z [] env H := h
theorem POpsD_run (hg : gd all ⟨d, op, ty, pos, aft, g⟩ env = some true) (hd : dstOk N d = true) (h : Cond P K ⟨d, op, ty, pos, aft, g⟩ env H v H') (k : POpsD P N all K Z rest (upd env d v) H') :
    POpsD P N all K Z (⟨d, op, ty, pos, aft, g⟩ :: rest) env H := by
  refine ⟨dst_of hd, ?_⟩
  rw [hg]
  exact ⟨v, H', h, k⟩
theorem POpsD_skip {gg : Nat × Bool} (hg : gd all ⟨d, op, ty, pos, aft, some gg⟩ env = some false) (hd : dstOk N d = true) (k : POpsD P N all K Z rest (upd env d undefP) H) :
    POpsD P N all K Z (⟨d, op, ty, pos, aft, some gg⟩ :: rest) env H := by
  refine ⟨dst_of hd, ?_⟩
  rw [hg]
  exact k

theorem Cond_f (h : ∀ H1, PO P o env.eval H1 v H1) (hk : kindB P o.op = 0 := by rfl) : Cond P K o env H v H := .inl ⟨hk, rfl, fun H1 _ => h H1⟩
theorem Cond_c (h : PO P o env.eval H v H') (hq : KEq K H H' := by first | exact KEq.refl _ _ | (repeat (first | exact trivial | refine And.intro rfl ?_ | refine And.intro trivial ?_))) (hk : kindB P o.op = 2 := by rfl) : Cond P K o env H v H' := .inr (.inr (.inl ⟨hk, h, hq⟩))
theorem Cond_s (h : PO P o env.eval H v H') (hq : KSh K H H') (hk : kindB P o.op = 3 := by rfl) : Cond P K o env H v H' := .inr (.inr (.inr ⟨hk, h, hq⟩))
theorem Cond_i (h : ∀ H1, KSh K H H1 → PO P o env.eval H1 v H1) (hk : kindB P o.op = 0 := by rfl) : Cond P K o env H v H := .inl ⟨hk, rfl, h⟩
theorem Cond_m (h : ∀ H1, KEq K H H1 → PO P o env.eval H1 v H1) (hk : kindB P o.op = 1 := by rfl) : Cond P K o env H v H := .inr (.inl ⟨hk, rfl, h⟩)
theorem Cond_l (h : ∀ H1, PO P o env.eval H1 v H1) (hk : kindB P o.op = 1 := by rfl) : Cond P K o env H v H := .inr (.inl ⟨hk, rfl, fun H1 _ => h H1⟩)
theorem Cond_l_one {t : TypeId} {x : Operand} {b off : Nat} {cs : List PV} (ho : o.op = .load t x) (h1 : aggB P t = some false) (hp : env.eval x = .ptr b off) (hb : H.bx[b]? = some cs) (hv : cs[off]? = some v) (hK : memB K b = true) (hKl : Nat.ble 10000 b = false) : Cond P K o env H v H :=
  .inr (.inl ⟨by rw [ho]; rfl, rfl, fun H1 hq => PO_load_ptr_one ho h1 hp ((hq.at b (memB_iff.1 hK) hKl) ▸ hb) hv⟩)
theorem Cond_l_agg {t : TypeId} {x : Operand} {b off n : Nat} {cs : List PV} (ho : o.op = .load t x) (h1 : aggB P t = some true) (h2 : szB P t = some n) (hp : env.eval x = .ptr b off) (hb : H.bx[b]? = some cs) (hn : Nat.ble (off + n) cs.length = true) (hK : memB K b = true) (hKl : Nat.ble 10000 b = false) :
    Cond P K o env H (.agg ((cs.drop off).take n)) H :=
  .inr (.inl ⟨by rw [ho]; rfl, rfl, fun H1 hq => PO_load_ptr_agg ho h1 h2 hp ((hq.at b (memB_iff.1 hK) hKl) ▸ hb) (Nat.le_of_ble_eq_true hn)⟩)

theorem load_agg {ρ : Operand → PV} {t : TypeId} {x : Operand} {b off n : Nat} {cs : List PV} (ho : o.op = .load t x) (h1 : aggB P t = some true) (h2 : szB P t = some n) (hp : ρ x = .ptr b off) (hb : H.bx[b]? = some cs) (hn : Nat.ble (off + n) cs.length = true) :
    PO P o ρ H (.agg ((cs.drop off).take n)) H := PO_load_ptr_agg ho h1 h2 hp hb (Nat.le_of_ble_eq_true hn)
theorem load_pat {ρ : Operand → PV} {t : TypeId} {x : Operand} {n : Nat} {cs : List GV} (ho : o.op = .load t x) (h1 : aggB P t = some true) (h2 : szB P t = some n) (hp : ρ x = .pat cs) (hn : Nat.ble n cs.length = true) :
    PO P o ρ H (.g (.agg (cs.take n))) H := PO_load_pat_agg ho h1 h2 hp (Nat.le_of_ble_eq_true hn)
theorem store_box {ρ : Operand → PV} {t : TypeId} {x y : Operand} {b off n : Nat} {cs ds : List PV} (ho : o.op = .store t x y) (hs : szB P t = some n) (hp : ρ x = .ptr b off) (hc : pvCells (ρ y) = some cs) (hn : Nat.beq cs.length n = true)
    (hb : H.bx[b]? = some ds) (hl : Nat.ble (off + n) ds.length = true) : PO P o ρ H undefP ⟨H.bx.set b (splice ds off cs), H.tk, H.mu⟩ :=
  PO_store ho hs hp hc (Nat.eq_of_beq_eq_true hn) hb (Nat.le_of_ble_eq_true hl)

/-- A move, its value laid open. -/
theorem mv_as {ρ : Operand → PV} {x : Operand} {p : PV} (ho : o.op = .move x) (h : ρ x = p) : PO P o ρ H p H := h ▸ PO_move ho
theorem as_as {ρ : Operand → PV} {x : Operand} {p : PV} (ho : o.op = .assign x) (h : ρ x = p) : PO P o ρ H p H := h ▸ PO_assign ho
theorem pick_t {ρ : Operand → PV} {x y z : Operand} {g : GV} (ho : o.op = .pick x y z) (hb : ρ x = .g (.bool true)) (h : ρ y = .g g) : PO P o ρ H (.g g) H := by
  have := PO_pick (P := P) (H := H) ho hb
  rwa [if_pos rfl, h] at this
theorem pick_f {ρ : Operand → PV} {x y z : Operand} {g : GV} (ho : o.op = .pick x y z) (hb : ρ x = .g (.bool false)) (h : ρ z = .g g) : PO P o ρ H (.g g) H := by
  have := PO_pick (P := P) (H := H) ho hb
  rwa [if_neg (by simp), h] at this

/-- A guard that is not decided: both ways. -/
theorem upd_same {env : Env} {d : Tmp} {b c : Bool} (h : env d = .g (.bool b)) (e : b = c) : upd env (some d) (.g (.bool c)) = env := by
  subst e
  funext t
  simp only [upd]
  cases hb : Nat.beq t d with
  | true => rw [Nat.eq_of_beq_eq_true hb, cond_true, h]
  | false => rfl

theorem POps_branch {Z : Env → PH → Prop} {dj : Tmp} {b : Bool} (hb : env dj = .g (.bool b)) (h1 : b = true → POps P N all Z rest (upd env (some dj) (.g (.bool true))) H) (h2 : b = false → POps P N all Z rest (upd env (some dj) (.g (.bool false))) H) :
    POps P N all Z rest env H := by
  cases b with
  | true => have := h1 rfl; rwa [upd_same hb rfl] at this
  | false => have := h2 rfl; rwa [upd_same hb rfl] at this
theorem POpsD_branch {dj : Tmp} {b : Bool} (hb : env dj = .g (.bool b)) (h1 : b = true → POpsD P N all K Z rest (upd env (some dj) (.g (.bool true))) H) (h2 : b = false → POpsD P N all K Z rest (upd env (some dj) (.g (.bool false))) H) :
    POpsD P N all K Z rest env H := by
  cases b with
  | true => have := h1 rfl; rwa [upd_same hb rfl] at this
  | false => have := h2 rfl; rwa [upd_same hb rfl] at this
/-- The slot that decides a guard. -/
def gslot (all : Array Oper) : List Oper → Option Tmp
  | o :: _ => match o.guard with | some (j, _) => (all.toList[j]?).bind (·.dst) | none => none
  | [] => none
theorem POps_split {Z : Env → PH → Prop} {dj : Tmp} {b : Bool} (_hj : gslot all rest = some dj) (hb : env dj = .g (.bool b)) (h1 : b = true → POps P N all Z rest (upd env (some dj) (.g (.bool true))) H) (h2 : b = false → POps P N all Z rest (upd env (some dj) (.g (.bool false))) H) :
    POps P N all Z rest env H := POps_branch hb h1 h2
theorem POpsD_split {dj : Tmp} {b : Bool} (_hj : gslot all rest = some dj) (hb : env dj = .g (.bool b)) (h1 : b = true → POpsD P N all K Z rest (upd env (some dj) (.g (.bool true))) H) (h2 : b = false → POpsD P N all K Z rest (upd env (some dj) (.g (.bool false))) H) :
    POpsD P N all K Z rest env H := POpsD_branch hb h1 h2

theorem PW_draw_k {id : Nat} {l : List Oper} {Q : Exit → Env → PH → Prop} (K : List Nat) (hm : P.follows .mixedOrders = true) (hd : drawB P l = true) (h : ∀ Z : Env → PH → Prop, (∀ env H, Q .normal env H → Z env H) → POpsD P N l.toArray K Z l env H) :
    PW P N (.region id l.toArray true) Q env H := PW_draw K hm hd (h _ fun _ _ h => h)

theorem PW_cond_t {x : Operand} {t e : Code} {Q : Exit → Env → PH → Prop} (hx : env.eval x = .g (.bool true)) (h : PW P N t Q env H) : PW P N (.cond x t e) Q env H := PW_cond hx (fun _ => h) (fun h => by cases h)
theorem PW_cond_f {x : Operand} {t e : Code} {Q : Exit → Env → PH → Prop} (hx : env.eval x = .g (.bool false)) (h : PW P N e Q env H) : PW P N (.cond x t e) Q env H := PW_cond hx (fun h => by cases h) (fun _ => h)

def isG : PV → Bool | .g _ => true | _ => false
def allB : List PV → Bool | [] => true | p :: r => isG p && allB r
theorem allB_spec : ∀ {ps : List PV}, allB ps = true → ∃ as : List GV, ps = as.map .g
  | [], _ => ⟨[], rfl⟩
  | p :: r, h => by
    simp only [allB, Bool.and_eq_true] at h
    obtain ⟨as, rfl⟩ := allB_spec h.2
    cases p with
    | g x => exact ⟨x :: as, rfl⟩
    | _ => simp [isG] at h
def closedB : PV → Bool | .g _ => true | .tuple cs => allB cs | _ => false
theorem closedB_spec {v : PV} (h : closedB v = true) : closedV v := by
  unfold closedB at h
  split at h
  · trivial
  · obtain ⟨as, rfl⟩ := allB_spec h
    intro p hp
    obtain ⟨x, _, rfl⟩ := List.mem_map.1 hp
    exact ⟨x, rfl⟩
  · cases h

/-- The operands' values, without identity. -/
def packs (ρ : Operand → PV) : List Operand → List PV
  | [] => []
  | x :: r => pack (ρ x) :: packs ρ r
theorem packs_eq (ρ : Operand → PV) : ∀ l : List Operand, packs ρ l = l.map fun x => pack (ρ x)
  | [] => rfl
  | x :: r => by rw [packs, packs_eq ρ r]; rfl

theorem call_pure {ρ : Operand → PV} {f : Operand} {args : Array Operand} {ts : Array TypeId} {id : FuncId} {ps : List PV} {v : PV} (ho : o.op = .call { callee := .value f, args := args, argTypes := ts })
    (hf : ρ f = .g (.raw (.func (.func id) #[] #[]))) (he : enterB P id = true) (hp : PC P id ps ⟨[], [], []⟩ v ⟨[], [], []⟩) (ha : packs ρ args.toList = ps) (hps : allB ps = true) (hv : closedB v = true) : PO P o ρ H v H := by
  obtain ⟨as, rfl⟩ := allB_spec hps
  exact PO_call_pure ho hf he (by rw [groundArgs, ← packs_eq]; exact ha) (closedB_spec hv) hp

theorem Ret_int {rs : List ResultVar} {ps : List PV} {e : Exit} {H2 : PH} {k : IntKind} {a b : Int} (hs : resVs P env H2 rs = some ps) (hv : retV ps = .g (.int k a)) (ha : a = b) (he : e = .normal ∨ e = .ret := by first | exact .inl rfl | exact .inr rfl) :
    Ret P rs ⟨[], [], []⟩ (.g (.int k b)) ⟨[], [], []⟩ e env H2 := Ret_pure hs (ha ▸ hv) (.g _) he
theorem Ret_bool {rs : List ResultVar} {ps : List PV} {e : Exit} {H2 : PH} {a b : Bool} (hs : resVs P env H2 rs = some ps) (hv : retV ps = .g (.bool a)) (ha : a = b) (he : e = .normal ∨ e = .ret := by first | exact .inl rfl | exact .inr rfl) :
    Ret P rs ⟨[], [], []⟩ (.g (.bool b)) ⟨[], [], []⟩ e env H2 := Ret_pure hs (ha ▸ hv) (.g _) he
theorem Ret_g {rs : List ResultVar} {ps : List PV} {e : Exit} {H2 : PH} {a b : GV} (hs : resVs P env H2 rs = some ps) (hv : retV ps = .g a) (ha : a = b) (he : e = .normal ∨ e = .ret := by first | exact .inl rfl | exact .inr rfl) :
    Ret P rs ⟨[], [], []⟩ (.g b) ⟨[], [], []⟩ e env H2 := Ret_pure hs (ha ▸ hv) (.g _) he
end
end Go.Pure

/- A generic layer: structs and slices that are written out. -/
namespace Go.Pure
open Go

def placesB (P : Program) (t : TypeId) : Option (List (Nat × Nat)) :=
  match P.underlying t with
  | some (.struct fs) => fs.toList.mapM fun f => (szB P f.type).map fun n => (f.offset, n)
  | _ => none

def fillP (pl : Nat → Option (Nat × Nat)) : List PV → List (Nat × PV) → Option (List PV)
  | cells, [] => some cells
  | cells, (i, p) :: r =>
    match pl i, pvCells p with
    | some (off, n), some cs => bif Nat.beq cs.length n && Nat.ble (off + n) cells.length then fillP pl (splice cells off cs) r else none
    | _, _ => none

/-- Cells against cells. -/
def RCs (c : Ctx) (cs : List PV) (vs : Array Value) : Prop :=
  vs.size = cs.length ∧ ∀ (j : Nat) (p : PV) (v : Value), cs[j]? = some p → vs[j]? = some v → RV c p v ∧ v.oneCell' = true

theorem foldl_set (f : Nat) : ∀ (l : List Value) (k : Nat) (cells : Array Value), ((l.zipIdx k).foldl (fun cs (x : Value × Nat) => cs.setIfInBounds (f + x.2) x.1) cells).size = cells.size ∧
    ∀ i : Nat, i < cells.size → ((l.zipIdx k).foldl (fun cs (x : Value × Nat) => cs.setIfInBounds (f + x.2) x.1) cells)[i]? = if f + k ≤ i ∧ i < f + k + l.length then l[i - (f + k)]? else cells[i]?
  | [], k, cells => by simp; omega
  | v :: l, k, cells => by
    obtain ⟨h1, h2⟩ := foldl_set f l (k + 1) (cells.setIfInBounds (f + k) v)
    simp only [List.zipIdx_cons, List.foldl_cons]
    refine ⟨by rw [h1]; simp, fun i hi => ?_⟩
    rw [h2 i (by simpa using hi)]
    by_cases e : i = f + k
    · subst e
      have : ¬ (f + (k + 1) ≤ f + k ∧ f + k < f + (k + 1) + l.length) := by omega
      rw [if_neg this, if_pos (by simp)]
      simp [hi]
    · by_cases h : f + (k + 1) ≤ i ∧ i < f + (k + 1) + l.length
      · rw [if_pos h, if_pos (by simp; omega)]
        have : i - (f + k) = (i - (f + (k + 1))) + 1 := by omega
        rw [this, List.getElem?_cons_succ]
      · rw [if_neg h, if_neg (by simp; omega)]
        have e' : ¬ f + k = i := fun x => e x.symm
        simp [e']

theorem splice_ok {c : Ctx} {cs ds : List PV} {vs : Array Value} (h : RCs c cs vs) {u : Array Value} (hd : RCs c ds u) {off : Nat} (hl : off + ds.length ≤ cs.length) :
    RCs c (splice cs off ds) (u.zipIdx.foldl (fun cs (x : Value × Nat) => cs.setIfInBounds (off + x.2) x.1) vs) := by
  have key := foldl_set off u.toList 0 vs
  have e : u.zipIdx.foldl (fun cs (x : Value × Nat) => cs.setIfInBounds (off + x.2) x.1) vs = (u.toList.zipIdx 0).foldl (fun cs (x : Value × Nat) => cs.setIfInBounds (off + x.2) x.1) vs := by
    rw [← Array.foldl_toList]; simp
  rw [e]
  have hsl : (splice cs off ds).length = cs.length := by simp [splice]; omega
  refine ⟨by rw [key.1, h.1, hsl], fun j p v hp hv => ?_⟩
  have hj : j < vs.size := by rw [h.1, ← hsl]; exact (List.getElem?_eq_some_iff.1 hp).1
  rw [key.2 j hj] at hv
  simp only [Nat.add_zero, Array.length_toList] at hv
  unfold splice at hp
  by_cases h1 : j < off
  · rw [if_neg (by omega)] at hv
    rw [List.append_assoc, List.getElem?_append_left (by simp; omega), List.getElem?_take, if_pos h1] at hp
    exact h.2 j p v hp hv
  · by_cases h2 : j < off + ds.length
    · rw [if_pos (by rw [hd.1]; omega)] at hv
      rw [List.append_assoc, List.getElem?_append_right (by simp; omega), List.getElem?_append_left (by simp; omega)] at hp
      have l1 : (List.take off cs).length = off := by simp; omega
      rw [l1] at hp
      exact hd.2 (j - off) p v hp (by simpa using hv)
    · rw [if_neg (by rw [hd.1]; omega)] at hv
      rw [List.getElem?_append_right (by simp; omega)] at hp
      have l1 : (List.take off cs ++ ds).length = off + ds.length := by simp; omega
      rw [l1, List.getElem?_drop, show off + ds.length + (j - (off + ds.length)) = j by omega] at hp
      exact h.2 j p v hp hv

theorem fill_ok {c : Ctx} {pl : Nat → Option (Nat × Nat)} : ∀ (ps : List (Nat × PV)) (us : List (Nat × Value)) (cs : List PV) (vs : Array Value) (cs' : List PV), RCs c cs vs → ps.length = us.length →
    (∀ (k : Nat) (x : Nat × PV) (y : Nat × Value), ps[k]? = some x → us[k]? = some y → x.1 = y.1 ∧ RV c x.2 y.2) → fillP pl cs ps = some cs' → ∃ vs', Instr.fill pl vs us = some vs' ∧ RCs c cs' vs'
  | [], [], cs, vs, cs', h, _, _, hf => by simp [fillP] at hf; subst hf; exact ⟨vs, rfl, h⟩
  | (i, p) :: ps, (i', v) :: us, cs, vs, cs', h, hl, hr, hf => by
    obtain ⟨e, hv⟩ := hr 0 _ _ rfl rfl
    simp only at e hv
    subst e
    unfold fillP at hf
    split at hf
    · rename_i off n ds hpl hds
      cases hb : (Nat.beq ds.length n && Nat.ble (off + n) cs.length) with
      | false => rw [hb] at hf; cases hf
      | true =>
        rw [hb, cond_true] at hf
        simp only [Bool.and_eq_true] at hb
        have e1 := Nat.eq_of_beq_eq_true hb.1
        have e2 := Nat.le_of_ble_eq_true hb.2
        obtain ⟨f1, f2⟩ := pvCells_ok hv hds
        have hd : RCs c ds v.cells := ⟨f1.symm, f2⟩
        have hs := splice_ok h hd (off := off) (by omega)
        obtain ⟨vs', g1, g2⟩ := fill_ok ps us _ _ cs' hs (by simpa using hl) (fun k x y hx hy => hr (k + 1) x y (by simpa using hx) (by simpa using hy)) hf
        refine ⟨vs', ?_, g2⟩
        unfold Instr.fill
        simp only [hpl]
        have hcond : (decide (v.cells.size ≠ n) || decide (off + v.cells.size > vs.size)) = false := by
          simp only [Bool.or_eq_false_iff, decide_eq_false_iff_not]
          rw [h.1, ← f1]
          omega
        have : (v.cells.size ≠ n || off + v.cells.size > vs.size) = false := hcond
        rw [this]
        simpa using g1
    · cases hf
  | [], _ :: _, _, _, _, _, hl, _, _ => by simp at hl
  | _ :: _, [], _, _, _, _, hl, _, _ => by simp at hl

theorem run_mapM {P : Program} {α β : Type} {f : α → Sem β} {g : α → Option β} {w : World} (h : ∀ a b, g a = some b → (f a).run P w = .ok b w) : ∀ (l : List α) (bs : List β), l.mapM g = some bs → (l.mapM f).run P w = .ok bs w
  | [], bs, hb => by simp at hb; subst hb; simp
  | a :: l, bs, hb => by
    simp only [List.mapM_cons, Option.bind_eq_bind, Option.bind_eq_some_iff] at hb
    obtain ⟨b, hb1, bs', hb2, hb3⟩ := hb
    simp at hb3
    subst hb3
    simp only [List.mapM_cons, Sem.run_bind, h a b hb1, Result.andThen_ok, run_mapM h l bs' hb2, Sem.run_pure]

section
variable {P : Program} {o : Oper} {ρ : Operand → PV} {H : PH}

/-- The parts of a literal. -/
def partsP (ρ : Operand → PV) : List (Nat × Operand) → List (Nat × PV)
  | [] => []
  | (i, x) :: r => (i, ρ x) :: partsP ρ r
theorem partsP_eq (ρ : Operand → PV) : ∀ l, partsP ρ l = l.map fun x => (x.1, ρ x.2)
  | [] => rfl
  | (i, x) :: r => by rw [partsP, partsP_eq ρ r]; rfl

def pls (l : List (Nat × Nat)) (i : Nat) : Option (Nat × Nat) := l[i]?

theorem zero_ok (c : Ctx) {z : Value} (h1 : z.cells.toList.all (·.oneCell') = true) : RCs c (z.cells.toList.map constC) z.cells := by
  refine ⟨by simp, fun j p v hp hv => ?_⟩
  simp only [List.getElem?_map, Option.map_eq_some_iff] at hp
  obtain ⟨u, hu, rfl⟩ := hp
  rw [Array.getElem?_toList, hv] at hu
  cases hu
  exact ⟨constC_ok _ _, List.all_eq_true.1 h1 v (by rw [Array.mem_toList_iff]; exact Array.mem_of_getElem? hv)⟩

theorem RCs.agg {c : Ctx} {cs : List PV} {vs : Array Value} (h : RCs c cs vs) : RV c (.agg cs) (.agg vs) := by
  refine .agg _ _ h.1.symm (fun v hv => ?_) fun i p v hp hv => (h.2 i p v hp hv).1
  obtain ⟨j, hj, rfl⟩ := List.mem_iff_getElem.1 hv
  have hj' : j < vs.size := by simpa using hj
  exact (h.2 j (cs[j]'(by rw [← h.1]; exact hj')) _ (List.getElem?_eq_getElem _) (by simp [hj'])).2

theorem PO_build {t : TypeId} {parts : Array (Nat × Operand)} {z : Value} {pl : List (Nat × Nat)} {cs : List PV} (ho : o.op = .build t parts) (hz : zeroB P t = some z) (h1 : z.cells.toList.all (·.oneCell') = true) (hp : placesB P t = some pl)
    (hf : fillP (pls pl) (z.cells.toList.map constC) (partsP ρ parts.toList) = some cs) : PO P o ρ H (.agg cs) H :=
  PO_val fun c ρr hr hx => by
    obtain ⟨vs', g1, g2⟩ := fill_ok (c := c) (partsP ρ parts.toList) ((parts.map fun x => (x.1, ρr x.2)).toList) _ _ cs (zero_ok c h1) (by simp [partsP_eq]) (by
      intro k x y hx1 hy1
      simp only [partsP_eq, List.getElem?_map, Option.map_eq_some_iff, Array.toList_map] at hx1 hy1
      obtain ⟨q, hq, rfl⟩ := hx1
      obtain ⟨q', hq', rfl⟩ := hy1
      rw [hq] at hq'
      cases hq'
      refine ⟨rfl, hx q.2 ?_⟩
      simp only [ho, Op.operands, List.mem_map]
      exact ⟨q, List.mem_of_getElem? hq, rfl⟩) hf
    refine ⟨.agg vs', ?_, g2.agg⟩
    unfold placesB at hp
    split at hp
    · rename_i fs hu
      have hpl := run_mapM (P := P) (w := c.w) (f := fun f : Field => do pure (f.offset, ← sizeOf f.type)) (fun f b hb => by
        simp only [Option.map_eq_some_iff] at hb
        obtain ⟨n, hn, rfl⟩ := hb
        simp [run_sizeOf hn]) _ _ hp
      have g1' : Instr.fill (fun i => (pl.toArray)[i]?) z.cells (parts.map fun x => (x.1, ρr x.2)).toList = some vs' := by
        have : (fun i => (pl.toArray)[i]?) = pls pl := funext fun i => by simp [pls]
        rw [this]; exact g1
      simp only [execOp, ho, Instr.build, Sem.run_bind, run_zero hz, Result.andThen_ok, run_underlying hu]
      have e : (fs.mapM fun f => (do pure (f.offset, ← sizeOf f.type) : Sem (Nat × Nat))).run P c.w = .ok pl.toArray c.w := by
        rw [← Array.toArray_toList (xs := fs), List.mapM_toArray]
        simp only [Sem.run_map, hpl, Result.andThen_ok]
      simp only [e, Result.andThen_ok, g1', Sem.run_pure]
    · cases hp
end
end Go.Pure

/- A generic layer: operations carried out by a function. -/
namespace Go.Pure
open Go

section
variable {P : Program} {o : Oper} {ρ : Operand → PV} {H : PH}
theorem PO_min {x y : Operand} {ts : Array TypeId} {k : IntKind} {a b : Int} (ho : o.op = .call { callee := .builtin .min, args := #[x, y], argTypes := ts }) (ha : ρ x = .g (.int k a)) (hb : ρ y = .g (.int k b)) : PO P o ρ H (.g (.int k (if b < a then b else a))) H :=
  PO_val fun c ρr hr hx => by
    have h1 := hx x (by simp [ho, Op.operands, Call.operands])
    have h2 := hx y (by simp [ho, Op.operands, Call.operands])
    rw [ha] at h1; rw [hb] at h2
    exact ⟨.int k (if b < a then b else a), by simp [execOp, ho, resolve, invoke, builtin, Builtin.min_, RV_int h1, RV_int h2, Builtin.min2], .g _ _ (.int _ _)⟩
theorem PO_max {x y : Operand} {ts : Array TypeId} {k : IntKind} {a b : Int} (ho : o.op = .call { callee := .builtin .max, args := #[x, y], argTypes := ts }) (ha : ρ x = .g (.int k a)) (hb : ρ y = .g (.int k b)) : PO P o ρ H (.g (.int k (if a < b then b else a))) H :=
  PO_val fun c ρr hr hx => by
    have h1 := hx x (by simp [ho, Op.operands, Call.operands])
    have h2 := hx y (by simp [ho, Op.operands, Call.operands])
    rw [ha] at h1; rw [hb] at h2
    exact ⟨.int k (if a < b then b else a), by simp [execOp, ho, resolve, invoke, builtin, Builtin.max_, RV_int h1, RV_int h2, Builtin.max2], .g _ _ (.int _ _)⟩
end

def kindEq : IntKind → IntKind → Bool
  | .i8, .i8 | .i16, .i16 | .i32, .i32 | .i64, .i64 | .u8, .u8 | .u16, .u16 | .u32, .u32 | .u64, .u64 => true
  | _, _ => false
theorem kindEq_ok {a b : IntKind} (h : kindEq a b = true) : a = b := by cases a <;> cases b <;> first | rfl | cases h

/-- A struct of whole numbers: its fields' places. -/
def intFs (P : Program) : List Field → Option (List Nat)
  | [] => some []
  | f :: r => match P.underlying f.type, intFs P r with
    | some (.int _), some l => bif f.name == "_" then none else some (f.offset :: l)
    | _, _ => none
def eqfB (P : Program) (t : TypeId) : Option (List Nat) :=
  match P.underlying t with
  | some (.struct fs) => bif P.stoodInHeld t || P.eqGuardType P.depth t then none else intFs P fs.toList
  | _ => none
def eqI (cs ds : List PV) : List Nat → Option Bool
  | [] => some true
  | k :: r => match cs[k]?, ds[k]? with
    | some (.g (.int k1 a)), some (.g (.int k2 b)) => bif kindEq k1 k2 then (match eqI cs ds r with
      | some e => some ((a == b) && e)
      | none => none) else none
    | _, _ => none

theorem run_eqFields {P : Program} {w : World} {c : Ctx} {cs ds : List PV} {xs ys : Array Value} (h1 : RCs c cs xs) (h2 : RCs c ds ys) : ∀ (fs : List Field) (l : List Nat) (e : Bool), intFs P fs = some l → eqI cs ds l = some e → (Op.eqFields 9999 xs ys fs).run P w = .ok e w
  | [], l, e, hl, he => by
    simp only [intFs, Option.some.injEq] at hl
    subst hl
    simp only [eqI, Option.some.injEq] at he
    subst he
    rfl
  | f :: fs, l, e, hl, he => by
    simp only [intFs] at hl
    split at hl
    · rename_i k l' hu hl'
      cases hn : f.name == "_" with
      | true => rw [hn] at hl; cases hl
      | false =>
        rw [hn] at hl
        simp only [cond_false, Option.some.injEq] at hl
        subst hl
        simp only [eqI] at he
        split at he
        · rename_i k1 a k2 b ha hb
          cases hk : kindEq k1 k2 with
          | false => rw [hk] at he; cases he
          | true =>
            rw [hk, cond_true] at he
            have ek := kindEq_ok hk
            subst ek
            split at he
            · rename_i e' he'
              cases he
              have ag : aggB P f.type = some false := by simp [aggB, hu]
              have part1 : ∀ {cs : List PV} {xs : Array Value} {k : IntKind} {a : Int}, RCs c cs xs → cs[f.offset]? = some (.g (.int k a)) → (part f.type xs f.offset).run P w = .ok (.int k a) w := by
                intro cs xs k a h ha
                have hlt : f.offset < xs.size := by rw [h.1]; exact (List.getElem?_eq_some_iff.1 ha).1
                have hx := h.2 f.offset _ xs[f.offset] ha (by simp [hlt])
                have hx' := RV_int hx.1
                simp only [part, Sem.run_bind, run_isAgg ag, Result.andThen_ok, Bool.false_eq_true, if_false, Array.getElem?_eq_getElem hlt, hx', Sem.run_pure]
              have hne : f.name ≠ "_" := by simpa using hn
              have ih := run_eqFields (w := w) h1 h2 fs l' e' hl' he'
              have hq := run_equalIn_int (P := P) w 9998 f.type k1 k a b hu
              simp only [Op.eqFields, hne, ne_eq, not_false_eq_true, if_true, Sem.run_bind, part1 h1 ha, part1 h2 hb, Result.andThen_ok, hq]
              cases a == b with
              | true => simpa using ih
              | false => simp
            · cases he
        · cases he
    · cases hl

/-- What is known of a program's types. -/
structure Tab where
  ag : Nat → Option Bool
  sz : Nat → Option Nat
  fd : Nat → Nat → Option (Nat × Nat)
  el : Nat → Option Nat
  bo : Nat → Bool
  st : Nat → Bool
  zr : Nat → Option (List PV)
  pl : Nat → Option (List (Nat × Nat))
  ef : Nat → Option (List Nat)

structure TabOk (P : Program) (T : Tab) : Prop where
  ag : ∀ t b, T.ag t = some b → aggB P t = some b
  sz : ∀ t n, T.sz t = some n → szB P t = some n
  fd : ∀ t k d ft, T.fd t k = some (d, ft) → fieldB P t k = some (d, ft)
  el : ∀ t e, T.el t = some e → P.underlying t = some (.slice e)
  bo : ∀ t, T.bo t = true → P.underlying t = some .bool
  st : ∀ t, T.st t = true → P.underlying t = some .string
  zr : ∀ t cs, T.zr t = some cs → ∃ z, zeroB P t = some z ∧ z.cells.toList.all (·.oneCell') = true ∧ cs = z.cells.toList.map constC
  pl : ∀ t p, T.pl t = some p → placesB P t = some p
  ef : ∀ t l, T.ef t = some l → eqfB P t = some l

def binP (T : Tab) (op : BinOp) (t : Nat) (a b : PV) : Option PV :=
  match a, b with
  | .g (.int k x), .g (.int k' y) => bif kindEq k k' then (match intOp op k x y with | some g => some (.g g) | none => none) else none
  | .g (.str x), .g (.str y) => match strOp op x y with | some g => some (.g g) | none => none
  | .g (.bool x), .g (.bool y) => bif T.bo t then (match op with | .eql => some (.g (.bool (x == y))) | .neq => some (.g (.bool (x != y))) | _ => none) else none
  | .g (.agg xs), .g (.agg ys) => match T.ef t with
    | some l => match op with
      | .eql => match eqI (xs.map .g) (ys.map .g) l with | some e => some (.g (.bool e)) | none => none
      | .neq => match eqI (xs.map .g) (ys.map .g) l with | some e => some (.g (.bool (!e))) | none => none
      | _ => none
    | none => none
  | .agg xs, .agg ys => match T.ef t with
    | some l => match op with
      | .eql => match eqI xs ys l with | some e => some (.g (.bool e)) | none => none
      | .neq => match eqI xs ys l with | some e => some (.g (.bool (!e))) | none => none
      | _ => none
    | none => none
  | _, _ => none

def unP (op : UnOp) (a : PV) : Option PV :=
  match op, a with
  | .not, .g (.bool b) => some (.g (.bool (!b)))
  | .neg, .g (.int k n) => some (.g (.int k (k.wrap (0 - n))))
  | _, _ => none

/-- Laid open. -/
def force : PV → Option PV
  | .g x => some (.g x)
  | .own es id => some (.own es id)
  | .ptr b off => some (.ptr b off)
  | .nilp => some .nilp
  | .nils => some .nils
  | .pat cs => some (.pat cs)
  | .clo f a b => some (.clo f a b)
  | .agg cs => some (.agg cs)
  | .tuple cs => some (.tuple cs)
  | .lit es => some (.lit es)
  | .mar id n => some (.mar id n)
  | .mref id n i off => some (.mref id n i off)
  | .mp id => some (.mp id)
  | .any => some .any
theorem force_eq (p : PV) : force p = some p := by cases p <;> rfl

/-- A small number, as a numeral. -/
def litL : List Nat → Nat → Option Nat
  | [], n => some n
  | k :: r, n => bif Nat.beq n k then some k else litL r n
theorem litL_eq (n : Nat) : ∀ l : List Nat, litL l n = some n
  | [] => rfl
  | k :: r => by
    unfold litL
    cases h : Nat.beq n k with
    | true => rw [cond_true, Nat.eq_of_beq_eq_true h]
    | false => exact litL_eq n r
def litO (n : Nat) : Option Nat := litL [0, 1, 2, 3, 4, 5, 6, 7, 8, 9, 10, 11, 12, 13, 14, 15, 16, 17, 18, 19, 20, 21, 22, 23, 24, 25, 26, 27, 28, 29, 30, 31] n
theorem litO_eq (n : Nat) : litO n = some n := litL_eq n _
/-- A list, cell by cell. -/
def forceL : List PV → Option (List PV)
  | [] => some []
  | a :: r => match forceL r with
    | some r' => some (a :: r')
    | none => none
theorem forceL_eq : ∀ l : List PV, forceL l = some l
  | [] => rfl
  | a :: r => by simp [forceL, forceL_eq r]
def forceB : List (List PV) → Option (List (List PV))
  | [] => some []
  | a :: r => match forceB r with
    | some r' => some (a :: r')
    | none => none
theorem forceB_eq : ∀ l : List (List PV), forceB l = some l
  | [] => rfl
  | a :: r => by simp [forceB, forceB_eq r]
def nrmV : PV → Option PV
  | .g x => some (.g x)
  | .own es id => match litO id with | some id' => some (.own es id') | none => none
  | .ptr b off => match litO b with
    | some b' => match litO off with | some off' => some (.ptr b' off') | none => none
    | none => none
  | .nilp => some .nilp
  | .nils => some .nils
  | .pat cs => some (.pat cs)
  | .clo f a b => some (.clo f a b)
  | .agg cs => match forceL cs with | some cs' => some (.agg cs') | none => none
  | .tuple cs => match forceL cs with | some cs' => some (.tuple cs') | none => none
  | .lit es => some (.lit es)
  | .mar id n => match litO id with | some id' => some (.mar id' n) | none => none
  | .mref id n i off => match litO id with
    | some id' => match litO off with | some off' => some (.mref id' n i off') | none => none
    | none => none
  | .mp id => match litO id with | some id' => some (.mp id') | none => none
  | .any => some .any
theorem nrmV_eq (p : PV) : nrmV p = some p := by cases p <;> simp [nrmV, litO_eq, forceL_eq]

def hasCells : PV → Option (List PV)
  | .g (.agg cs) => some (cs.map .g)
  | .agg cs => some cs
  | _ => none

/-- Operations that leave memory as it is and read no box. -/
def popF (T : Tab) (o : Op) (ρ : Operand → PV) : Option PV :=
  match o with
  | .move x | .assign x => force (ρ x)
  | .pick c a b => match ρ c with
    | .g (.bool true) => force (ρ a)
    | .g (.bool false) => force (ρ b)
    | _ => none
  | .fieldAddr s x k => match T.fd s k with
    | some (d, _) => match ρ x with
      | .ptr b off => some (.ptr b (off + d))
      | .pat cs => some (.pat (cs.drop d))
      | .mref id n i off => some (.mref id n i (off + d))
      | _ => none
    | none => none
  | .field s x k => match T.fd s k with
    | some (d, ft) => match T.ag ft with
      | some false => match hasCells (ρ x) with
        | some cs => cs[d]?
        | none => none
      | _ => none
    | none => none
  | .binOp op t x y _ => binP T op t (ρ x) (ρ y)
  | .unOp op _ x => unP op (ρ x)
  | .build t parts => match T.zr t with
    | some zs => match T.pl t with
      | some pl => match fillP (pls pl) zs (partsP ρ parts.toList) with
        | some cs => some (.agg cs)
        | none => none
      | none => none
    | none => none
  | .extract x i => match ρ x with
    | .tuple ps => ps[i]?
    | _ => none
  | .call { callee := .builtin .len, args := ⟨[x]⟩, argTypes := ⟨[t]⟩ } =>
    match T.el t with
    | some _ => match elems (ρ x) with
      | some es => some (.g (.int .i64 es.length))
      | none => none
    | none => match ρ x with
      | .g (.str s) => bif T.st t then some (.g (.int .i64 s.size)) else none
      | _ => none
  | .call { callee := .builtin .min, args := ⟨[x, y]⟩, argTypes := _ } => match ρ x, ρ y with
    | .g (.int k a), .g (.int k' b) => bif kindEq k k' then some (.g (.int k (if b < a then b else a))) else none
    | _, _ => none
  | .call { callee := .builtin .max, args := ⟨[x, y]⟩, argTypes := _ } => match ρ x, ρ y with
    | .g (.int k a), .g (.int k' b) => bif kindEq k k' then some (.g (.int k (if a < b then b else a))) else none
    | _, _ => none
  | .load t x => match ρ x with
    | .pat cs => match T.ag t with
      | some false => match cs with
        | g :: _ => some (.g g)
        | [] => none
      | some true => match T.sz t with
        | some n => bif Nat.ble n cs.length then some (.g (.agg (cs.take n))) else none
        | none => none
      | none => none
    | _ => none
  | _ => none

/-- Reading a box. -/
def popL (T : Tab) (o : Op) (ρ : Operand → PV) (H : PH) : Option (Nat × PV) :=
  match o with
  | .load t x => match ρ x with
    | .ptr b off => match H.bx[b]? with
      | some cs => match T.ag t with
        | some false => match cs[off]? with
          | some p => match force p with
            | some q => some (b, q)
            | none => none
          | none => none
        | some true => match T.sz t with
          | some n => bif Nat.ble (off + n) cs.length then some (b, .agg ((cs.drop off).take n)) else none
          | none => none
        | none => none
      | none => none
    | _ => none
  | _ => none

/-- New boxes. -/
def popC (T : Tab) (o : Op) (ρ : Operand → PV) : Option (List PV) :=
  match o with
  | .box _ x => pvCells (ρ x)
  | .alloc t => T.zr t
  | _ => none

/-- A box's cells, written. -/
def newCells : PH → Nat → List PV → Option PH
  | ⟨bx, tk, mu⟩, b, cs => match forceL cs with
    | some cs' => match forceB (bx.set b cs') with
      | some bx' => some ⟨bx', tk, mu⟩
      | none => none
    | none => none
theorem newCells_eq (H : PH) (b : Nat) (cs : List PV) : newCells H b cs = some ⟨H.bx.set b cs, H.tk, H.mu⟩ := by simp [newCells, forceL_eq, forceB_eq]

/-- Writing a box. -/
def popS (T : Tab) (o : Op) (ρ : Operand → PV) (H : PH) : Option PH :=
  match o with
  | .store t x y => match ρ x with
    | .ptr b off => match T.sz t with
      | some n => match pvCells (ρ y) with
        | some cs => match H.bx[b]? with
          | some ds => bif Nat.beq cs.length n && Nat.ble (off + n) ds.length then newCells H b (splice ds off cs) else none
          | none => none
        | none => none
      | none => none
    | _ => none
  | _ => none

section
variable {P : Program} {T : Tab} (hT : TabOk P T) {o : Oper} {ρ : Operand → PV} {H : PH} {v : PV}
include hT

omit hT in
theorem PO_eqs {op : BinOp} {t u : TypeId} {x y : Operand} {xs ys : List PV} {l : List Nat} {e : Bool} (ho : o.op = .binOp op t x y u) (hop : op = .eql ∨ op = .neq) (hf : eqfB P t = some l) (ha : hasCells (ρ x) = some xs) (hb : hasCells (ρ y) = some ys) (he : eqI xs ys l = some e) :
    PO P o ρ H (.g (.bool (if op = .eql then e else !e))) H :=
  PO_val fun c ρr hr hx => by
    have cellsOf : ∀ {p : PV} {v : Value} {cs : List PV}, RV c p v → hasCells p = some cs → ∃ vs, v = .agg vs ∧ RCs c cs vs := by
      intro p v cs h hc
      unfold hasCells at hc
      split at hc
      · rename_i gs
        cases hc
        obtain ⟨e1, e2⟩ := pvCells_ok h (cs := gs.map .g) rfl
        cases h with
        | g _ _ hg => cases hg; exact ⟨_, rfl, e1.symm, e2⟩
      · cases hc
        obtain ⟨e1, e2⟩ := pvCells_ok h (cs := cs) rfl
        cases h
        exact ⟨_, rfl, e1.symm, e2⟩
      · cases hc
    obtain ⟨us, e1, r1⟩ := cellsOf (hx x (by simp [ho, Op.operands])) ha
    obtain ⟨ws, e2, r2⟩ := cellsOf (hx y (by simp [ho, Op.operands])) hb
    unfold eqfB at hf
    split at hf
    · rename_i fs hu
      cases hs : (P.stoodInHeld t || P.eqGuardType P.depth t) with
      | true => rw [hs] at hf; cases hf
      | false =>
        rw [hs, cond_false] at hf
        simp only [Bool.or_eq_false_iff] at hs
        have hfs : P.fieldsOf t = fs := by simp [Program.fieldsOf, hu]
        have hrun : (Op.equalIn 10000 t (.agg us) (.agg ws)).run P c.w = .ok e c.w := by
          have := run_equalIn_struct (P := P) c.w 9999 t us ws (by rw [hfs]; exact hu) hs.1
          rw [this, hfs]
          exact run_eqFields r1 r2 fs.toList l e hf he
        refine ⟨.bool (if op = .eql then e else !e), ?_, .g _ _ (.bool _)⟩
        simp only [execOp, ho, e1, e2, Sem.run_bind, run_eqGuard_agg c.w op t x y us ws hs.2, Result.andThen_ok]
        rcases hop with rfl | rfl
        · rw [run_eql_struct, hrun]; rfl
        · rw [run_neq_struct, hrun]; rfl
    · cases hf

theorem binP_ok {op : BinOp} {t u : TypeId} {x y : Operand} (ho : o.op = .binOp op t x y u) (h : binP T op t (ρ x) (ρ y) = some v) : PO P o ρ H v H := by
  unfold binP at h
  split at h
  · rename_i k a k' b ha hb
    cases hk : kindEq k k' with
    | false => rw [hk] at h; cases h
    | true =>
      rw [hk, cond_true] at h
      have e := kindEq_ok hk
      subst e
      split at h
      · rename_i g hg; cases h; exact PO_int ho ha hb hg
      · cases h
  · rename_i a b ha hb
    split at h
    · rename_i g hg; cases h; exact PO_str ho ha hb hg
    · cases h
  · rename_i a b ha hb
    cases hk : T.bo t with
    | false => rw [hk] at h; cases h
    | true =>
      rw [hk, cond_true] at h
      split at h
      · cases h; exact PO_eqb ho (hT.bo t hk) ha hb
      · cases h; exact PO_neb ho (hT.bo t hk) ha hb
      · cases h
  · rename_i xs ys ha hb
    split at h
    · rename_i l hl
      split at h
      · split at h
        · rename_i e he; cases h; exact PO_eqs ho (.inl rfl) (hT.ef _ _ hl) (by rw [ha]; rfl) (by rw [hb]; rfl) he
        · cases h
      · split at h
        · rename_i e he; cases h; exact PO_eqs ho (.inr rfl) (hT.ef _ _ hl) (by rw [ha]; rfl) (by rw [hb]; rfl) he
        · cases h
      · cases h
    · cases h
  · rename_i xs ys ha hb
    split at h
    · rename_i l hl
      split at h
      · split at h
        · rename_i e he; cases h; exact PO_eqs ho (.inl rfl) (hT.ef _ _ hl) (by rw [ha]; rfl) (by rw [hb]; rfl) he
        · cases h
      · split at h
        · rename_i e he; cases h; exact PO_eqs ho (.inr rfl) (hT.ef _ _ hl) (by rw [ha]; rfl) (by rw [hb]; rfl) he
        · cases h
      · cases h
    · cases h
  · cases h

theorem popF_ok (h : popF T o.op ρ = some v) : PO P o ρ H v H := by
  unfold popF at h
  split at h
  · rename_i x ho; rw [force_eq] at h; cases h; exact PO_move ho
  · rename_i x ho; rw [force_eq] at h; cases h; exact PO_assign ho
  · rename_i c a b ho
    split at h
    · rename_i hc; rw [force_eq] at h; cases h; have := PO_pick (P := P) (H := H) ho hc; rwa [if_pos rfl] at this
    · rename_i hc; rw [force_eq] at h; cases h; have := PO_pick (P := P) (H := H) ho hc; rwa [if_neg (by simp)] at this
    · cases h
  · rename_i s x k ho
    split at h
    · rename_i d ft hf
      split at h
      · rename_i b off hp; cases h; exact PO_fieldAddr_ptr ho (hT.fd _ _ _ _ hf) hp
      · rename_i cs hp; cases h; exact PO_fieldAddr_pat ho (hT.fd _ _ _ _ hf) hp
      · rename_i id n i off hp; cases h; exact PO_fieldAddr_mref ho (hT.fd _ _ _ _ hf) hp
      · cases h
    · cases h
  · rename_i s x k ho
    split at h
    · rename_i d ft hf
      split at h
      · rename_i hag
        split at h
        · rename_i cs hcs
          unfold hasCells at hcs
          split at hcs
          · rename_i gs hg; cases hcs; exact PO_field ho (hT.fd _ _ _ _ hf) (hT.ag _ _ hag) (by rw [hg]; rfl) ⟨gs, .inl hg⟩ h
          · rename_i gs hg; cases hcs; exact PO_field ho (hT.fd _ _ _ _ hf) (hT.ag _ _ hag) (by rw [hg]; rfl) ⟨[], .inr ⟨_, hg⟩⟩ h
          · cases hcs
        · cases h
      · cases h
    · cases h
  · rename_i op t x y u ho; exact binP_ok hT ho h
  · rename_i op t x ho
    unfold unP at h
    split at h
    · rename_i b hb; cases h; exact PO_not ho hb
    · rename_i k n hb; cases h; exact PO_neg ho hb
    · cases h
  · rename_i t parts ho
    split at h
    · rename_i zs hz
      split at h
      · rename_i pl hpl
        split at h
        · rename_i cs hcs
          cases h
          obtain ⟨z, h1, h2, rfl⟩ := hT.zr t zs hz
          exact PO_build ho h1 h2 (hT.pl t pl hpl) hcs
        · cases h
      · cases h
    · cases h
  · rename_i x i ho
    split at h
    · rename_i ps hp; exact PO_extract ho hp h
    · cases h
  · rename_i x t ho
    split at h
    · rename_i e he
      split at h
      · rename_i es hes; cases h; exact PO_len ho (hT.el t e he) hes
      · cases h
    · split at h
      · rename_i s hs
        cases hk : T.st t with
        | false => rw [hk] at h; cases h
        | true => rw [hk, cond_true] at h; cases h; exact PO_lens ho (hT.st t hk) hs
      · cases h
  · rename_i x y ts ho
    split at h
    · rename_i k a k' b ha hb
      cases hk : kindEq k k' with
      | false => rw [hk] at h; cases h
      | true =>
        rw [hk, cond_true] at h; cases h
        have e := kindEq_ok hk
        subst e
        exact PO_min ho ha hb
    · cases h
  · rename_i x y ts ho
    split at h
    · rename_i k a k' b ha hb
      cases hk : kindEq k k' with
      | false => rw [hk] at h; cases h
      | true =>
        rw [hk, cond_true] at h; cases h
        have e := kindEq_ok hk
        subst e
        exact PO_max ho ha hb
    · cases h
  · rename_i t x ho
    split at h
    · rename_i cs hp
      split at h
      · rename_i hag
        split at h
        · rename_i g r; cases h; exact PO_load_pat_one ho (hT.ag _ _ hag) hp rfl
        · cases h
      · rename_i hag
        split at h
        · rename_i n hn
          cases hk : Nat.ble n cs.length with
          | false => rw [hk] at h; cases h
          | true => rw [hk, cond_true] at h; cases h; exact load_pat ho (hT.ag _ _ hag) (hT.sz _ _ hn) hp hk
        · cases h
      · cases h
    · cases h
  · cases h

theorem popL_ok {b : Nat} (h : popL T o.op ρ H = some (b, v)) {H1 : PH} (hb : H.bx[b]? = H1.bx[b]?) : PO P o ρ H1 v H1 := by
  unfold popL at h
  split at h
  · rename_i t x ho
    split at h
    · rename_i b' off hp
      split at h
      · rename_i cs hcs
        split at h
        · rename_i hag
          split at h
          · rename_i p hpp; rw [force_eq] at h; cases h; exact PO_load_ptr_one ho (hT.ag _ _ hag) hp (hb ▸ hcs) hpp
          · cases h
        · rename_i hag
          split at h
          · rename_i n hn
            cases hk : Nat.ble (off + n) cs.length with
            | false => rw [hk] at h; cases h
            | true => rw [hk, cond_true] at h; cases h; exact load_agg ho (hT.ag _ _ hag) (hT.sz _ _ hn) hp (hb ▸ hcs) hk
          · cases h
        · cases h
      · cases h
    · cases h
  · cases h

theorem popC_ok {cs : List PV} (h : popC T o.op ρ = some cs) : PO P o ρ H (.ptr H.bx.length 0) ⟨H.bx ++ [cs], H.tk, H.mu⟩ := by
  unfold popC at h
  split at h
  · rename_i t x ho; exact PO_box ho h
  · rename_i t ho
    obtain ⟨z, h1, h2, rfl⟩ := hT.zr t cs h
    exact PO_alloc ho h1 h2
  · cases h

theorem popS_ok {H' : PH} (h : popS T o.op ρ H = some H') : PO P o ρ H undefP H' := by
  unfold popS at h
  split at h
  · rename_i t x y ho
    split at h
    · rename_i b off hp
      split at h
      · rename_i n hn
        split at h
        · rename_i cs hcs
          split at h
          · rename_i ds hds
            cases hk : (Nat.beq cs.length n && Nat.ble (off + n) ds.length) with
            | false => rw [hk] at h; cases h
            | true =>
              rw [hk, cond_true, newCells_eq] at h; cases h
              simp only [Bool.and_eq_true] at hk
              exact store_box ho (hT.sz _ _ hn) hp hcs hk.1 hds hk.2
          · cases h
        · cases h
      · cases h
    · cases h
  · cases h
end

theorem kind_popF {P : Program} {T : Tab} {o : Op} {ρ : Operand → PV} {v : PV} (h : popF T o ρ = some v) : kindB P o = 0 ∨ kindB P o = 1 := by
  unfold popF at h
  split at h <;> first | exact .inl rfl | exact .inr rfl | cases h

def newBox : PH → List PV → Option (PV × PH)
  | ⟨bx, tk, mu⟩, cs => match litO bx.length with
    | some n => match forceL cs with
      | some cs' => match forceB (bx ++ [cs']) with
        | some bx' => some (.ptr n 0, ⟨bx', tk, mu⟩)
        | none => none
      | none => none
    | none => none
theorem newBox_eq (H : PH) (cs : List PV) : newBox H cs = some (.ptr H.bx.length 0, ⟨H.bx ++ [cs], H.tk, H.mu⟩) := by simp [newBox, litO_eq, forceL_eq, forceB_eq]
/-- One operation. -/
def pop (T : Tab) (o : Op) (ρ : Operand → PV) (H : PH) : Option (PV × PH) :=
  match popF T o ρ with
  | some v => match nrmV v with | some v => some (v, H) | none => none
  | none => match popL T o ρ H with
    | some (_, v) => match nrmV v with | some v => some (v, H) | none => none
    | none => match popC T o ρ with
      | some cs => newBox H cs
      | none => match popS T o ρ H with
        | some H' => some (undefP, H')
        | none => none

/-- One operation of a region that draws. -/
def popD (T : Tab) (K : List Nat) (o : Op) (ρ : Operand → PV) (H : PH) : Option (PV × PH) :=
  match popF T o ρ with
  | some v => match nrmV v with | some v => some (v, H) | none => none
  | none => match popL T o ρ H with
    | some (b, v) => bif memB K b && !Nat.ble 10000 b then (match nrmV v with | some v => some (v, H) | none => none) else none
    | none => match popC T o ρ with
      | some cs => bif K.all (fun k => Nat.blt k H.bx.length || Nat.ble 10000 k) then newBox H cs else none
      | none => match popS T o ρ H with
        | some H' => some (undefP, H')
        | none => none

section
variable {P : Program} {T : Tab} (hT : TabOk P T) {N : Nat} {all : Array Oper} {K : List Nat} {Z : Env → PH → Prop} {o : Oper} {env : Env} {H H' : PH} {v : PV}
include hT

theorem pop_ok {ρ : Operand → PV} (h : pop T o.op ρ H = some (v, H')) : PO P o ρ H v H' := by
  unfold pop at h
  split at h
  · rename_i u hu; simp only [nrmV_eq] at h; cases h; exact popF_ok hT hu
  · split at h
    · rename_i b u hu; simp only [nrmV_eq] at h; cases h; exact popL_ok hT hu rfl
    · split at h
      · rename_i cs hcs; rw [newBox_eq] at h; cases h; exact popC_ok hT hcs
      · split at h
        · rename_i H1 h1; cases h; exact popS_ok hT h1
        · cases h

omit hT in
theorem KEq_new {K : List Nat} {cs : List PV} {tk : List (TypeId × Nat)} (h : K.all (fun k => Nat.blt k H.bx.length || Nat.ble 10000 k) = true) : KEq K H ⟨H.bx ++ [cs], tk, H.mu⟩ := by
  induction K with
  | nil => trivial
  | cons k K ih =>
    simp only [List.all_cons, Bool.and_eq_true] at h
    refine ⟨?_, ih h.2⟩
    unfold KMu
    cases hb : Nat.ble 10000 k with
    | true => simp
    | false =>
      have h1 : k < H.bx.length := by have := h.1; rw [hb] at this; simpa [Nat.blt_eq] using this
      simp only [cond_false]
      exact (List.getElem?_append_left h1).symm

omit hT in
theorem popS_mu {ρ : Operand → PV} {op : Op} (h : popS T op ρ H = some H') : H.mu = H'.mu := by
  unfold popS at h
  repeat' split at h
  all_goals first
    | cases h; done
    | skip
  rename_i hh
  rw [newCells_eq] at h
  revert h
  cases (Nat.beq _ _ && Nat.ble _ _) <;> intro h <;> cases h
  rfl

theorem popD_ok (h : popD T K o.op env.eval H = some (v, H')) : Cond P K o env H v H' := by
  unfold popD at h
  split at h
  · rename_i u hu; simp only [nrmV_eq] at h; cases h
    rcases kind_popF hu with hk | hk
    · exact .inl ⟨hk, rfl, fun H1 _ => popF_ok hT hu⟩
    · exact .inr (.inl ⟨hk, rfl, fun H1 _ => popF_ok hT hu⟩)
  · split at h
    · rename_i b u hu
      cases hk : (memB K b && !Nat.ble 10000 b) with
      | false => rw [hk] at h; cases h
      | true =>
        rw [hk, cond_true] at h; simp only [nrmV_eq] at h; cases h
        simp only [Bool.and_eq_true, Bool.not_eq_true'] at hk
        have hkind : kindB P o.op = 1 := by
          unfold popL at hu
          split at hu
          · rename_i ho; rw [ho]; rfl
          · cases hu
        exact .inr (.inl ⟨hkind, rfl, fun H1 hq => popL_ok hT hu (hq.at b (memB_iff.1 hk.1) hk.2)⟩)
    · split at h
      · rename_i cs hcs
        cases hk : K.all (fun k => Nat.blt k H.bx.length || Nat.ble 10000 k) with
        | false => rw [hk] at h; cases h
        | true =>
          rw [hk, cond_true, newBox_eq] at h; cases h
          have hkind : kindB P o.op = 2 := by
            unfold popC at hcs
            split at hcs
            · rename_i ho; rw [ho]; rfl
            · rename_i ho; rw [ho]; rfl
            · cases hcs
          exact .inr (.inr (.inl ⟨hkind, popC_ok hT hcs, KEq_new hk⟩))
      · split at h
        · rename_i H1 h1
          cases h
          have hkind : kindB P o.op = 3 := by
            unfold popS at h1
            split at h1
            · rename_i ho; rw [ho]; rfl
            · cases h1
          exact .inr (.inr (.inr ⟨hkind, popS_ok hT h1, .of_mu (popS_mu h1)⟩))
        · cases h
omit hT

/-- As many operations as can be carried out by themselves, so many at most. -/
def runO (T : Tab) (N : Nat) (all : Array Oper) : Nat → List Oper → Env → PH → Option (List Oper × Env × PH)
  | 0, l, env, H => some (l, env, H)
  | _ + 1, [], env, H => some ([], env, H)
  | n + 1, ⟨d, op, ty, pos, aft, gg⟩ :: r, env, H =>
    bif dstOk N d then
      match gd all ⟨d, op, ty, pos, aft, gg⟩ env with
      | some true => match pop T op env.eval H with
        | some (v, H') => runO T N all n r (upd env d v) H'
        | none => some (⟨d, op, ty, pos, aft, gg⟩ :: r, env, H)
      | some false => runO T N all n r (upd env d undefP) H
      | none => some (⟨d, op, ty, pos, aft, gg⟩ :: r, env, H)
    else none
def runD (T : Tab) (N : Nat) (all : Array Oper) (K : List Nat) : Nat → List Oper → Env → PH → Option (List Oper × Env × PH)
  | 0, l, env, H => some (l, env, H)
  | _ + 1, [], env, H => some ([], env, H)
  | n + 1, ⟨d, op, ty, pos, aft, gg⟩ :: r, env, H =>
    bif dstOk N d then
      match gd all ⟨d, op, ty, pos, aft, gg⟩ env with
      | some true => match popD T K op env.eval H with
        | some (v, H') => runD T N all K n r (upd env d v) H'
        | none => some (⟨d, op, ty, pos, aft, gg⟩ :: r, env, H)
      | some false => runD T N all K n r (upd env d undefP) H
      | none => some (⟨d, op, ty, pos, aft, gg⟩ :: r, env, H)
    else none
/-- Can the first one be carried out by itself? -/
def canO (T : Tab) (N : Nat) (all : Array Oper) : List Oper → Env → PH → Bool
  | [], _, _ => false
  | o :: _, env, H => bif dstOk N o.dst then (match gd all o env with | some true => (match pop T o.op env.eval H with | some _ => true | none => false) | some false => true | none => false) else false
def canD (T : Tab) (N : Nat) (all : Array Oper) (K : List Nat) : List Oper → Env → PH → Bool
  | [], _, _ => false
  | o :: _, env, H => bif dstOk N o.dst then (match gd all o env with | some true => (match popD T K o.op env.eval H with | some _ => true | none => false) | some false => true | none => false) else false

include hT
theorem runO_spec : ∀ (n : Nat) (l : List Oper) (env : Env) (H : PH) (l' : List Oper) (env' : Env) (H' : PH), runO T N all n l env H = some (l', env', H') → POps P N all Z l' env' H' → POps P N all Z l env H
  | 0, l, env, H, l', env', H', e, h => by simp only [runO, Option.some.injEq, Prod.mk.injEq] at e; obtain ⟨rfl, rfl, rfl⟩ := e; exact h
  | n + 1, [], env, H, l', env', H', e, h => by simp only [runO, Option.some.injEq, Prod.mk.injEq] at e; obtain ⟨rfl, rfl, rfl⟩ := e; exact h
  | n + 1, ⟨d, op, ty, pos, aft, gg⟩ :: r, env, H, l', env', H', e, h => by
    unfold runO at e
    cases hd : dstOk N d with
    | false => rw [hd] at e; cases e
    | true =>
      rw [hd] at e
      simp only [cond_true] at e
      split at e
      · rename_i hg
        split at e
        · rename_i v H1 hp
          refine ⟨dst_of hd, ?_⟩
          rw [hg]
          exact ⟨v, H1, pop_ok hT (o := ⟨d, op, ty, pos, aft, gg⟩) hp, runO_spec n r _ _ _ _ _ e h⟩
        · simp only [Option.some.injEq, Prod.mk.injEq] at e; obtain ⟨rfl, rfl, rfl⟩ := e; exact h
      · rename_i hg
        refine ⟨dst_of hd, ?_⟩
        rw [hg]
        exact runO_spec n r _ _ _ _ _ e h
      · simp only [Option.some.injEq, Prod.mk.injEq] at e; obtain ⟨rfl, rfl, rfl⟩ := e; exact h

theorem runD_spec : ∀ (n : Nat) (l : List Oper) (env : Env) (H : PH) (l' : List Oper) (env' : Env) (H' : PH), runD T N all K n l env H = some (l', env', H') → POpsD P N all K Z l' env' H' → POpsD P N all K Z l env H
  | 0, l, env, H, l', env', H', e, h => by simp only [runD, Option.some.injEq, Prod.mk.injEq] at e; obtain ⟨rfl, rfl, rfl⟩ := e; exact h
  | n + 1, [], env, H, l', env', H', e, h => by simp only [runD, Option.some.injEq, Prod.mk.injEq] at e; obtain ⟨rfl, rfl, rfl⟩ := e; exact h
  | n + 1, ⟨d, op, ty, pos, aft, gg⟩ :: r, env, H, l', env', H', e, h => by
    unfold runD at e
    cases hd : dstOk N d with
    | false => rw [hd] at e; cases e
    | true =>
      rw [hd] at e
      simp only [cond_true] at e
      split at e
      · rename_i hg
        split at e
        · rename_i v H1 hp
          refine ⟨dst_of hd, ?_⟩
          rw [hg]
          exact ⟨v, H1, popD_ok hT (o := ⟨d, op, ty, pos, aft, gg⟩) hp, runD_spec n r _ _ _ _ _ e h⟩
        · simp only [Option.some.injEq, Prod.mk.injEq] at e; obtain ⟨rfl, rfl, rfl⟩ := e; exact h
      · rename_i hg
        refine ⟨dst_of hd, ?_⟩
        rw [hg]
        exact runD_spec n r _ _ _ _ _ e h
      · simp only [Option.some.injEq, Prod.mk.injEq] at e; obtain ⟨rfl, rfl, rfl⟩ := e; exact h

theorem runO_ok (n : Nat) {l l' : List Oper} {env' : Env} (_hc : canO T N all l env H = true) (h : runO T N all n l env H = some (l', env', H')) (k : POps P N all Z l' env' H') : POps P N all Z l env H :=
  runO_spec hT n l env H l' env' H' h k
theorem runD_ok (n : Nat) {l l' : List Oper} {env' : Env} (_hc : canD T N all K l env H = true) (h : runD T N all K n l env H = some (l', env', H')) (k : POpsD P N all K Z l' env' H') : POpsD P N all K Z l env H :=
  runD_spec hT n l env H l' env' H' h k
omit hT

theorem PW_draw_all {id : Nat} {l : List Oper} {Q : Exit → Env → PH → Prop} (hm : P.follows .mixedOrders = true) (hd : drawB P l = true) (h : POpsD P N l.toArray (List.range H.bx.length) (fun env H => Q .normal env H) l env H) :
    PW P N (.region id l.toArray true) Q env H := PW_draw _ hm hd h
end
end Go.Pure

/- A generic layer: a loop that goes no round; what a frame forgets. -/
namespace Go.Pure
open Go
section
variable {P : Program} {N : Nat} {Q : Exit → Env → PH → Prop} {env : Env} {H : PH}

theorem PW_of {code : Code} (h : PW P N code Q env H) : PW P N code Q env H := h
theorem PW_loop_none {body : Code} (h : PW P N body (Next (fun _ _ => False) Q) env H) : PW P N (.loop body) Q env H := by
  intro c a hr he
  refine wp_loop_once (wp_mono (h c a hr he) ?_)
  rintro e a' w' ⟨c', env', H', q, rfl, hr', hE, he'⟩
  cases e <;> simp only [Next] at q <;> simp only [Exit.then]
  all_goals first | exact q.elim | exact ⟨c', env', H', q, rfl, hr', hE, he'⟩

/-- A frame that is told slot by slot; what is not told may be anything. -/
def slots : List (Nat × PV) → Env
  | [], _ => .any
  | (k, p) :: r, t => bif Nat.beq t k then p else slots r t

theorem EnvLe.slots_of {l : List (Nat × PV)} (h : ∀ x ∈ l, ∀ (c : Ctx) (v : Value), RV c (env x.1) v → RV c x.2 v) : EnvLe env (slots l) := by
  intro t c v hv
  induction l with
  | nil => exact .any v
  | cons x r ih =>
    obtain ⟨k, p⟩ := x
    simp only [slots]
    cases e : Nat.beq t k with
    | true =>
      rw [cond_true]
      have e' := Nat.eq_of_beq_eq_true e
      subst e'
      exact h _ List.mem_cons_self c v hv
    | false => rw [cond_false]; exact ih fun x hx => h x (List.mem_cons_of_mem _ hx)

/-- Slot by slot: the same, or said without identity. -/
def SlotsOk (env : Env) : List (Nat × PV) → Prop
  | [] => True
  | (k, p) :: r => (env k = p ∨ pack (env k) = p) ∧ SlotsOk env r
theorem SlotsOk.le : ∀ {l : List (Nat × PV)}, SlotsOk env l → EnvLe env (slots l) := by
  intro l h
  refine EnvLe.slots_of ?_
  induction l with
  | nil => simp
  | cons x r ih =>
    intro y hy c v hv
    rcases List.mem_cons.1 hy with rfl | hy
    · rcases h.1 with e | e
      · rw [← e]; exact hv
      · rw [← e]; exact pack_ok hv
    · exact ih h.2 y hy c v hv
theorem HLe.refl (H : PH) : HLe P H H := fun _ h => h
theorem HLe.of_eq {H H' : PH} (h : H = H') : HLe P H H' := h ▸ HLe.refl H
end
end Go.Pure

/- A generic layer: what a law's arguments read as; from a law's contract to its row. -/
namespace Go.Pure
open Go Go.ChangeShapes Go.WideShapes Go.RowKit

/-- What a type's values are like. -/
inductive GT (P : Program) : TypeId → GV → Prop where
  | int (t : TypeId) (k : IntKind) (n : Int) (h : P.underlying t = some (.int k)) (hw : (Lit.int k n).wf = true) : GT P t (.int k n)
  | bool (t : TypeId) (b : Bool) (h : P.underlying t = some .bool) : GT P t (.bool b)
  | str (t : TypeId) (s : ByteArray) (h : P.underlying t = some .string) (hs : s.size ≤ maxLen) : GT P t (.str s)
  | sl (t e : TypeId) (es : List GV) (h : P.underlying t = some (.slice e)) (hl : es.length ≤ maxLen) (he : ∀ x ∈ es, GT P e x) : GT P t (.sl es)
  | agg (t : TypeId) (fs : Array Field) (xs : List GV) (h : P.underlying t = some (.struct fs)) (hl : xs.length = fs.size) (hx : ∀ (i : Nat) (f : Field) (x : GV), fs[i]? = some f → xs[i]? = some x → GT P f.type x) :
      GT P t (.agg (xs.flatMap GV.cells))

/-- A datum against a ground value. -/
inductive DG {H : Type} : DataW H → GV → Prop where
  | int (k : IntKind) (n : Int) : DG (.lit (.int k n)) (.int k n)
  | bool (b : Bool) : DG (.lit (.bool b)) (.bool b)
  | str (s : ByteArray) : DG (.lit (.string s.data.toList)) (.str s)
  | nil : DG .nil (.sl [])
  | sl (ds sp : List (DataW H)) (es : List GV) (hl : ds.length = es.length) (h : ∀ (i : Nat) (d : DataW H) (x : GV), ds[i]? = some d → es[i]? = some x → DG d x) : DG (.slice ds sp) (.sl es)
  | agg (ds : List (DataW H)) (xs : List GV) (hl : ds.length = xs.length) (h : ∀ (i : Nat) (d : DataW H) (x : GV), ds[i]? = some d → xs[i]? = some x → DG d x) : DG (.agg ds) (.agg (xs.flatMap GV.cells))

def tiles (P : Program) : List Field → Nat → Option Nat
  | [], n => some n
  | f :: r, n => bif f.offset == n then tiles P r (n + P.cellsOf f.type) else none

def plainB (P : Program) (set : List Nat) : Bool := set.all fun t =>
  match P.underlying t with
  | some (.int _) | some .bool | some .string => P.cellsOf t == 1
  | some (.slice e) => P.cellsOf t == 1 && (set.contains e && Nat.ble 1 (P.cellsOf e))
  | some (.struct fs) => tiles P fs.toList 0 == some (P.cellsOf t) && fs.toList.all fun f => set.contains f.type
  | _ => false

/-- Cells against cells, ground. -/
def GCs (w : World) (gs : List GV) (vs : List Value) : Prop :=
  gs.length = vs.length ∧ ∀ (i : Nat) (g : GV) (v : Value), gs[i]? = some g → vs[i]? = some v → RG w (fun _ _ => True) g v ∧ v.oneCell' = true

theorem GCs.append {w : World} {a b : List GV} {us vs : List Value} (h1 : GCs w a us) (h2 : GCs w b vs) : GCs w (a ++ b) (us ++ vs) := by
  refine ⟨by simp [h1.1, h2.1], fun i g v hg hv => ?_⟩
  by_cases hi : i < a.length
  · rw [List.getElem?_append_left hi] at hg
    rw [List.getElem?_append_left (by rw [← h1.1]; exact hi)] at hv
    exact h1.2 i g v hg hv
  · rw [List.getElem?_append_right (by omega)] at hg
    rw [List.getElem?_append_right (by rw [← h1.1]; omega), ← h1.1] at hv
    exact h2.2 _ g v hg hv

theorem GCs.one {w : World} {g : GV} {v : Value} (h : RG w (fun _ _ => True) g v) (h1 : v.oneCell' = true) : GCs w [g] [v] := by
  refine ⟨rfl, fun i g' v' hg hv => ?_⟩
  cases i with
  | zero => simp at hg hv; subst hg; subst hv; exact ⟨h, h1⟩
  | succ i => simp at hg

section
variable {H : Type} {enc : TypeId × Value → H} {P : Program} {w : World} {base : Nat} {spare : Nat → Bool} {held : Bool}

theorem addr_addAdd (a : Addr) (m n : Nat) : (a.add m).add n = a.add (m + n) := by
  unfold Addr.add
  split
  · subst_vars; simp
  · split
    · subst_vars; simp_all
    · simp_all [Nat.add_assoc]

theorem choose_lt' {α : Type} [Inhabited α] {n : Nat} {Q : Nat → α → Prop} (h : ∀ i, i < n → ∃ x, Q i x) : ∃ F : Nat → α, ∀ i, i < n → Q i (F i) := by
  refine ⟨fun i => if hi : i < n then Classical.choose (h i hi) else default, fun i hi => ?_⟩
  simp only [hi, dif_pos]
  exact Classical.choose_spec (h i hi)

/-- A struct's cells, field by field. -/
theorem tiled {cs : List Value} {m : Nat} (hcs : cs.length = m) : ∀ (l : List Field) (n0 : Nat) (xs : List (DataW H × List MemPlace)), tiles P l n0 = some m → xs.length = l.length →
    (∀ (i : Nat) (f : Field) (x : DataW H × List MemPlace), l[i]? = some f → xs[i]? = some x → ∃ g, DG x.1 g ∧ GT P f.type g ∧ GCs w g.cells ((cs.drop f.offset).take (P.cellsOf f.type)) ∧ ((cs.drop f.offset).take (P.cellsOf f.type)).length = P.cellsOf f.type) →
    ∃ gs : List GV, gs.length = l.length ∧ (∀ (i : Nat) (d : DataW H) (x : GV), (xs.map (·.1))[i]? = some d → gs[i]? = some x → DG d x) ∧
      (∀ (i : Nat) (f : Field) (x : GV), l[i]? = some f → gs[i]? = some x → GT P f.type x) ∧ GCs w (gs.flatMap GV.cells) (cs.drop n0)
  | [], n0, xs, ht, hl, _ => by
    simp only [tiles, Option.some.injEq] at ht
    refine ⟨[], rfl, by simp, by simp, ?_⟩
    rw [List.drop_eq_nil_of_le (by omega)]
    exact ⟨rfl, by simp⟩
  | f :: r, n0, [], ht, hl, _ => by simp at hl
  | f :: r, n0, x :: xs, ht, hl, h => by
    simp only [tiles] at ht
    cases hb : f.offset == n0 with
    | false => rw [hb] at ht; cases ht
    | true =>
      rw [hb] at ht
      have hoff : f.offset = n0 := by simpa using hb
      obtain ⟨gs, e1, e2, e3, e4⟩ := tiled hcs r _ xs ht (by simpa using hl) (fun i f' x' h1 h2 => h (i + 1) f' x' (by simpa using h1) (by simpa using h2))
      obtain ⟨g, g1, g2, g3, g4⟩ := h 0 f x rfl rfl
      refine ⟨g :: gs, by simp [e1], ?_, ?_, ?_⟩
      · intro i d y hd hy
        cases i with
        | zero => simp at hd hy; subst hd; subst hy; exact g1
        | succ i => exact e2 i d y (by simpa using hd) (by simpa using hy)
      · intro i f' y hd hy
        cases i with
        | zero => simp at hd hy; subst hd; subst hy; exact g2
        | succ i => exact e3 i f' y (by simpa using hd) (by simpa using hy)
      · rw [hoff] at g3
        have := g3.append e4
        rw [← List.drop_drop, List.take_append_drop] at this
        simpa using this

theorem trod_g {set : List Nat} (hset : plainB P set = true) : ∀ (fuel : Nat) (t : TypeId) (cs : List Value) (x : DataW H × List MemPlace), t ∈ set → DataW.trod enc P w base spare held fuel t cs = some x →
    ∃ g, DG x.1 g ∧ GT P t g ∧ GCs w g.cells cs ∧ cs.length = P.cellsOf t
  | 0, t, cs, x, _, h => by simp [DataW.trod] at h
  | fuel + 1, t, cs, x, hmem, h => by
    have hp := List.all_eq_true.1 hset t hmem
    cases hu : P.underlying t with
    | none => rw [hu] at hp; cases hp
    | some d =>
      rw [hu] at hp
      cases d with
      | int k =>
        obtain ⟨n, rfl, rfl, hw⟩ := DataW.trod_int hu h
        exact ⟨.int k n, .int k n, .int t k n hu hw, GCs.one (.int k n) rfl, by simpa using (beq_iff_eq.1 hp).symm⟩
      | bool =>
        obtain ⟨b, rfl, rfl⟩ := DataW.trod_bool hu h
        exact ⟨.bool b, .bool b, .bool t b hu, GCs.one (.bool b) rfl, by simpa using (beq_iff_eq.1 hp).symm⟩
      | string =>
        obtain ⟨s, rfl, rfl, hs⟩ := DataW.trod_string hu h
        exact ⟨.str s, .str s, .str t s hu hs, GCs.one (.str s) rfl, by simpa using (beq_iff_eq.1 hp).symm⟩
      | slice e =>
        simp only [Bool.and_eq_true] at hp
        have he : e ∈ set := by simpa using hp.2.1
        have hpos : 0 < P.cellsOf e := Nat.le_of_ble_eq_true hp.2.2
        rcases DataW.trod_slice hu h with ⟨rfl, rfl⟩ | ⟨a, len, cap, elems, rest, n, hn, rfl, rfl, hb, hl, hm, hlen, hel, _, _⟩
        · exact ⟨.sl [], .nil, .sl t e [] hu (by simp) (by simp), GCs.one .nil rfl, by simpa using (beq_iff_eq.1 hp.1).symm⟩
        · obtain rfl : fuel = n := by omega
          -- each element
          have hE : ∀ i, i < len → ∃ (g : GV) (y : DataW H × List MemPlace) (cs' : List Value), elems[i]? = some y ∧ w.cells? base (a.add (i * P.cellsOf e)) (P.cellsOf e) = some cs' ∧ DG y.1 g ∧ GT P e g ∧ GCs w g.cells cs' := by
            intro i hi
            have h1 := hel i hi
            have h2 : elems[i]? = some (elems[i]'(by omega)) := List.getElem?_eq_getElem _
            rw [h2, Option.bind_eq_some_iff] at h1
            obtain ⟨cs', hc, ht⟩ := h1
            obtain ⟨g, g1, g2, g3, _⟩ := trod_g hset fuel e cs' _ he ht
            exact ⟨g, _, cs', h2, hc, g1, g2, g3⟩
          -- as functions of the index
          have hF : ∃ F : Nat → GV, ∀ i, i < len → ∃ (y : DataW H × List MemPlace) (cs' : List Value), elems[i]? = some y ∧ w.cells? base (a.add (i * P.cellsOf e)) (P.cellsOf e) = some cs' ∧ DG y.1 (F i) ∧ GT P e (F i) ∧ GCs w (F i).cells cs' :=
            choose_lt' hE
          obtain ⟨F, hF⟩ := hF
          refine ⟨.sl ((List.range len).map F), ?_, ?_, ?_, by simpa using (beq_iff_eq.1 hp.1).symm⟩
          · refine .sl _ _ _ (by simp [hlen]) fun i d x hd hx => ?_
            simp only [List.getElem?_map, Option.map_eq_some_iff] at hd hx
            obtain ⟨y, hy, rfl⟩ := hd
            obtain ⟨i', hi', rfl⟩ := hx
            obtain ⟨hlt, rfl⟩ := List.getElem?_eq_some_iff.1 hi'
            rw [List.getElem_range]
            have hlt' : i < len := by simpa using hlt
            obtain ⟨y', cs', e1, _, e3, _⟩ := hF i hlt'
            rw [hy] at e1
            cases e1
            exact e3
          · refine .sl t e _ hu (by simp; omega) fun x hx => ?_
            simp only [List.mem_map, List.mem_range] at hx
            obtain ⟨i, hi, rfl⟩ := hx
            obtain ⟨_, _, _, _, _, e4, _⟩ := hF i hi
            exact e4
          · -- the slice itself
            have hcells : ∀ (A : Addr) (n : Nat) (cs' : List Value), w.cells? base A n = some cs' → cs'.length = n ∧ ∀ j (hj : j < n), w.cell? (A.add j) = some (cs'[j]?.getD undef) := by
              intro A n cs' hc
              obtain ⟨_, hcl, hat⟩ := World.cells?_some hc
              refine ⟨hcl, fun j hj => ?_⟩
              have hj' : j < cs'.length := by rw [hcl]; exact hj
              rw [hat j hj, List.getElem?_eq_getElem hj']
              rfl
            have hsz : ∀ i, i < len → (F i).cells.length = P.cellsOf e := by
              intro i hi
              obtain ⟨_, cs', _, e2, _, _, e5⟩ := hF i hi
              rw [e5.1, (hcells _ _ _ e2).1]
            have hspot : 0 < len → a.spot = none := by
              intro h0
              obtain ⟨_, cs', _, e2, _, _, _⟩ := hF 0 h0
              have := (hcells _ _ _ e2).2 0 hpos
              simp only [Nat.zero_mul] at this
              have e3 : (a.add 0).add 0 = a := rfl
              rw [e3] at this
              unfold World.cell? at this
              split at this
              · split at this
                · cases this
                · rename_i hs; cases hsp : a.spot with
                  | none => rfl
                  | some _ => rw [hsp] at hs; simp at hs
              · cases this
            have hone : GCs w [GV.sl ((List.range len).map F)] [Value.slice (some a) len cap] := by
              refine GCs.one ?_ rfl
              have hlen' : ((List.range len).map F).length = len := by simp
              have := RG.sl (w := w) (S := fun _ _ => True) ((List.range len).map F) a cap (P.cellsOf e) (fun k => (w.cell? (a.add k)).getD undef) (fun hne => hspot (Nat.pos_of_ne_zero fun h0 => hne (by rw [h0]; rfl))) (by rw [hlen']; exact hl) hm ?_ ?_ ?_
              · rw [hlen'] at this; exact this
              · intro i x hx
                simp only [List.getElem?_map, Option.map_eq_some_iff] at hx
                obtain ⟨i', hi', rfl⟩ := hx
                obtain ⟨hlt, rfl⟩ := List.getElem?_eq_some_iff.1 hi'
                rw [List.getElem_range]
                exact hsz i (by simpa using hlt)
              · intro k hk
                rw [hlen'] at hk
                have hpos : 0 < P.cellsOf e := Nat.pos_of_ne_zero fun h0 => by rw [h0] at hk; omega
                have hdiv : k / P.cellsOf e < len := Nat.div_lt_of_lt_mul (by rw [Nat.mul_comm]; exact hk)
                have hmod : k % P.cellsOf e < P.cellsOf e := Nat.mod_lt _ hpos
                obtain ⟨y, cs', e1, e2, _, _, e5⟩ := hF _ hdiv
                have e6 := (hcells _ _ _ e2).2 _ hmod
                have e7 : (a.add (k / P.cellsOf e * P.cellsOf e)).add (k % P.cellsOf e) = a.add k := by
                  rw [addr_addAdd]; congr 1; rw [Nat.mul_comm]; exact Nat.div_add_mod k _
                rw [e7] at e6
                refine ⟨by rw [e6]; rfl, trivial, ?_⟩
                rw [e6]
                have hj : k % P.cellsOf e < cs'.length := by rw [(hcells _ _ _ e2).1]; exact hmod
                have hj2 : k % P.cellsOf e < (F (k / P.cellsOf e)).cells.length := by rw [e5.1]; exact hj
                have := (e5.2 _ _ cs'[k % P.cellsOf e] (List.getElem?_eq_getElem hj2) (List.getElem?_eq_getElem hj)).2
                simpa [hj] using this
              · intro i x j g hx hg
                simp only [List.getElem?_map, Option.map_eq_some_iff] at hx
                obtain ⟨i', hi', rfl⟩ := hx
                obtain ⟨hlt, rfl⟩ := List.getElem?_eq_some_iff.1 hi'
                rw [List.getElem_range] at hg
                have hlt' : i < len := by simpa using hlt
                obtain ⟨y, cs', e1, e2, _, _, e5⟩ := hF i hlt'
                have hj : j < P.cellsOf e := by rw [← hsz i hlt']; exact (List.getElem?_eq_some_iff.1 hg).1
                have e6 := (hcells _ _ _ e2).2 j hj
                rw [addr_addAdd] at e6
                show RG w _ g ((w.cell? (a.add (i * P.cellsOf e + j))).getD undef)
                rw [e6]
                have hj' : j < cs'.length := by rw [(hcells _ _ _ e2).1]; exact hj
                have := (e5.2 j g cs'[j] hg (List.getElem?_eq_getElem hj')).1
                simpa [hj'] using this
            exact hone
      | struct fs =>
        simp only [Bool.and_eq_true] at hp
        obtain ⟨xs, n, hn, rfl, hlen, hxl, hf⟩ := DataW.trod_struct hu h
        obtain rfl : fuel = n := by omega
        obtain ⟨gs, e1, e2, e3, e4⟩ := tiled (w := w) (P := P) (cs := cs) hlen fs.toList 0 xs (by simpa using hp.1) (by simpa using hxl) (fun i f x hi hx => by
          have hfi : fs[i]? = some f := by simpa using hi
          have hms : f.type ∈ set := by
            have := List.all_eq_true.1 hp.2 f (List.mem_of_getElem? hi)
            simpa using this
          have h1 := hf i f hfi
          rw [hx] at h1
          obtain ⟨g, g1, g2, g3, g4⟩ := trod_g hset fuel f.type _ _ hms h1
          exact ⟨g, g1, g2, g3, g4⟩)
        refine ⟨.agg (gs.flatMap GV.cells), .agg _ _ (by simp [e1, hxl]) e2, .agg t fs gs hu (by simpa using e1) (fun i f x hi hx => e3 i f x (by simpa using hi) hx), by simpa [GV.cells] using e4, hlen⟩
      | _ => simp at hp
end
end Go.Pure

/- A generic layer: from a law's contract to what its row asks. -/
namespace Go.Pure
open Go Go.ChangeShapes Go.WideShapes Go.RowKit

section
variable {H : Type} {enc : TypeId × Value → H} {P : Program} {w : World}

theorem GCs.uncell {g : GV} {v : Value} (h : GCs w [g] [v]) : RG w (fun _ _ => True) g v := (h.2 0 g v rfl rfl).1

/-- An argument, as a ground value. -/
theorem rv_param {set : List Nat} (hset : plainB P set = true) {t : TypeId} (hmem : t ∈ set) {r : Reach} {b0 : Nat} {v : Value} {d : DataW H} {ps : List MemPlace} {spare : Nat → Bool} {held : Bool} {base : Nat}
    (hval : Value.okWide P w r b0 t v) (hd : DataW.Trod enc P w base spare held t v d ps) : ∃ g, DG d g ∧ GT P t g ∧ RG w (fun _ _ => True) g v := by
  obtain ⟨fuel, hf⟩ := hd
  obtain ⟨g, h1, h2, h3, h4⟩ := trod_g hset fuel t _ _ hmem hf
  refine ⟨g, h1, h2, ?_⟩
  cases h2 with
  | int _ k n hu hw => obtain ⟨m, rfl⟩ := okWide_int hu hval; exact h3.uncell
  | bool _ b hu => obtain ⟨m, rfl⟩ := okWide_bool hu hval; exact h3.uncell
  | str _ s hu hs =>
    have : ∃ s', v = .string s' := by
      simp only [Value.okWide, hu, Cell.okWide] at hval
      cases v <;> simp_all [Cell.ok]
    obtain ⟨s', rfl⟩ := this
    exact h3.uncell
  | sl _ e es hu hl he =>
    have : ∃ a n m, v = .slice a n m := by
      simp only [Value.okWide, hu, Cell.okWide] at hval
      cases v <;> simp_all [Cell.ok]
    obtain ⟨a, n, m, rfl⟩ := this
    exact h3.uncell
  | agg _ fs xs hu hl hx =>
    obtain ⟨cs, rfl, _⟩ := okWide_struct hu hval
    refine .agg _ cs (by simpa [GV.cells, Value.cells] using h3.1) (fun v hv => ?_) (fun i g v hg hv => ?_)
    · obtain ⟨i, hi⟩ := List.getElem?_of_mem hv
      have hlt := (List.getElem?_eq_some_iff.1 hi).1
      have h5 : i < (GV.agg (xs.flatMap GV.cells)).cells.length := by rw [h3.1]; exact hlt
      exact (h3.2 i _ v (List.getElem?_eq_getElem h5) hi).2
    · exact (h3.2 i g v hg (by simpa [Value.cells] using hv)).1

theorem rvs_params {set : List Nat} (hset : plainB P set = true) {r : Reach} {b0 : Nat} {spare : Nat → Bool} {held : Bool} {base : Nat} : ∀ (ts : List TypeId) (vs : List Value) (ds : List (DataW H)) (ps : List MemPlace),
    (∀ t ∈ ts, t ∈ set) → (∀ (j : Nat) t v, ts[j]? = some t → vs[j]? = some v → Value.okWide P w r b0 t v) → DataW.TrodAll enc P w base spare held ts vs ds ps →
    ∃ gs : List GV, gs.length = vs.length ∧ gs.length = ts.length ∧ gs.length = ds.length ∧ (∀ (i : Nat) (d : DataW H) (g : GV), ds[i]? = some d → gs[i]? = some g → DG d g) ∧
      (∀ (i : Nat) (t : TypeId) (g : GV), ts[i]? = some t → gs[i]? = some g → GT P t g) ∧ (∀ (i : Nat) (g : GV) (v : Value), gs[i]? = some g → vs[i]? = some v → RG w (fun _ _ => True) g v)
  | [], vs, ds, ps, _, _, h => by
    obtain ⟨rfl, rfl, rfl⟩ := trodAll_nil h
    exact ⟨[], by simp⟩
  | t :: ts, vs, ds, ps, hm, hv, h => by
    obtain ⟨v, vs1, d, ds1, a, b, rfl, rfl, rfl, h1, h2⟩ := trodAll_cons h
    obtain ⟨gs, e1, e2, e3, e4, e5, e6⟩ := rvs_params hset ts vs1 ds1 b (fun t ht => hm t (by simp [ht])) (fun j t v ht hv' => hv (j + 1) t v (by simpa using ht) (by simpa using hv')) h2
    obtain ⟨g, g1, g2, g3⟩ := rv_param hset (hm t (by simp)) (hv 0 t v rfl rfl) h1
    refine ⟨g :: gs, by simp [e1], by simp [e2], by simp [e3], ?_, ?_, ?_⟩
    · intro i x y hx hy
      cases i with
      | zero => simp at hx hy; subst hx; subst hy; exact g1
      | succ i => exact e4 i x y (by simpa using hx) (by simpa using hy)
    · intro i x y hx hy
      cases i with
      | zero => simp at hx hy; subst hx; subst hy; exact g2
      | succ i => exact e5 i x y (by simpa using hx) (by simpa using hy)
    · intro i x y hx hy
      cases i with
      | zero => simp at hx hy; subst hx; subst hy; exact g3
      | succ i => exact e6 i x y (by simpa using hx) (by simpa using hy)

theorem trodAll_stays (hl : laidOutB P = true) {W W' : World} {sp : Nat → Bool} : ∀ (ts : List TypeId) (vs : List Value) (ds : List (DataW H)) (ps : List MemPlace),
    (∀ t ∈ ts, P.readableRec t = true ∧ t < P.types.size) → (∀ p ∈ ps, W.sameAt W' p) → (∀ p ∈ ps, sp p.block = true) →
    DataW.TrodAll enc P W 0 (fun _ => true) true ts vs ds ps → DataW.TrodAll enc P W' 0 sp true ts vs ds ps
  | [], vs, ds, ps, _, _, _, h => by
    obtain ⟨rfl, rfl, rfl⟩ := trodAll_nil h
    exact h
  | t :: ts, vs, ds, ps, hr, hs, hp, h => by
    obtain ⟨v, vs1, d, ds1, a, b, rfl, rfl, rfl, h1, h2⟩ := trodAll_cons h
    exact ⟨a, b, WideElems.Trod_stays hl (hr t (by simp)).1 (hr t (by simp)).2 h1 (fun p hp' => hs p (by simp [hp'])) (fun p hp' => hp p (by simp [hp'])),
      trodAll_stays hl ts vs1 ds1 b (fun t ht => hr t (by simp [ht])) (fun p hp' => hs p (by simp [hp'])) (fun p hp' => hp p (by simp [hp'])) h2, rfl⟩

/-- What is done to memory, seen from without. -/
theorem Evo.below {w w' : World} {c' : Ctx} (h : Evo ⟨[], [], [], fun _ _ => False, w⟩ c') (hw : c'.w = w') : Below w.heap.size w w' := by
  subst hw
  exact ⟨h.os, h.tape, h.output, h.size, fun k hk => h.frame k hk (by simp) (by simp) (by simp)⟩

theorem rel_nil (P : Program) (w : World) : Rel P ⟨[], [], [], fun _ _ => False, w⟩ ⟨[], [], []⟩ :=
  ⟨rfl, by simp, rfl, by simp, by simp, by simp, by simp, by simp, by simp, by simp, by simp, rfl, by simp, by simp, by simp, by simp, by simp, by simp⟩

/-- FROM A LAW'S CONTRACT TO WHAT ITS ROW ASKS: it returns true, and the arguments read as they did. -/
theorem law_calls {set : List Nat} {f : FuncId} {fn : Func} {s : ChangeSpec} {B : TypeId} (hset : plainB P set = true) (hts : (fn.params.toList.all fun t => set.contains t && (P.readableRec t && decide (t < P.types.size))) = true)
    (hl : laidOutB P = true) (hvars : s.vars = []) (hres : fn.resultTypes = #[B]) (hB : P.underlying B = some .bool)
    (hfn : ∀ ds : List (DataW H), ds.length = fn.params.size → s.fn H ds = { results := [.lit (.bool true)], args := ds, vars := [] })
    (W : World) (base : Nat) (args : Array Value) (ds gs : List (DataW H)) (before : List MemPlace)
    (hval : ∀ (j : Nat) t v, fn.params[j]? = some t → args[j]? = some v → Value.okWide P W .any base t v)
    (hW : DataW.Whole enc P fn.params.toList s.vars false W args.toList ds gs before)
    (hpc : ∀ xs : List GV, xs.length = fn.params.size → xs.length = ds.length → (∀ (i : Nat) (d : DataW H) (g : GV), ds[i]? = some d → xs[i]? = some g → DG d g) →
      (∀ (i : Nat) (t : TypeId) (g : GV), fn.params[i]? = some t → xs[i]? = some g → GT P t g) → PC P f (xs.map .g) ⟨[], [], []⟩ (.g (.bool true)) ⟨[], [], []⟩) :
    Calls P f args W fun e W' => ∃ v, e = .returned v ∧ s.post enc P fn false true false false W args v W' := by
  have hW' := hW
  obtain ⟨p, q, hA, hV, hbe, hfz, hnd⟩ := hW
  rw [hvars] at hV
  obtain ⟨rfl, rfl⟩ := trodVars_none hV
  have hall := List.all_eq_true.1 hts
  have hmem : ∀ t ∈ fn.params.toList, t ∈ set := fun t ht => by have := hall t ht; simp only [Bool.and_eq_true] at this; simpa using this.1
  have hrd : ∀ t ∈ fn.params.toList, P.readableRec t = true ∧ t < P.types.size := fun t ht => by have := hall t ht; simp only [Bool.and_eq_true, decide_eq_true_eq] at this; exact this.2
  obtain ⟨xs, e1, e2, e3, e4, e5, e6⟩ := rvs_params hset fn.params.toList args.toList ds p hmem (fun j t v ht hv => hval j t v (by simpa using ht) (by simpa using hv)) hA
  have hc := hpc xs (by simpa using e2) e3 e4 (fun i t g ht hg => e5 i t g (by simpa using ht) hg) ⟨[], [], [], fun _ _ => False, W⟩ args (rel_nil P W)
    ⟨by simpa using e1, fun i pv v hp hv => by
      simp only [List.getElem?_map, Option.map_eq_some_iff] at hp
      obtain ⟨g, hg, rfl⟩ := hp
      refine .g _ _ ((e6 i g v hg (by simpa using hv)).mono ?_)
      intro a v _ _ hcell
      exact ⟨hcell, by simp [Ctx.stab]⟩⟩
  refine hc.mono fun e W1 ⟨rv, c', he, hw, hr, hE, hv⟩ => ?_
  subst he
  have hb : Below W.heap.size W W1 := hE.below hw
  cases hv with
  | g x v hx =>
  cases hx
  have hlt : ∀ x ∈ before, x.block < W.heap.size := fun x hx => hW'.lt x hx
  have hpb : p = before := by rw [hbe]; simp
  subst hpb
  refine ⟨_, rfl, ds, [], p, [], p, [], hW', ?_, ?_, ?_, Below.frame hb _, fun h => by cases h⟩
  · rw [hres, List.append_nil, hfn ds (by rw [← e3]; simpa using e2)]
    exact ⟨[], [], shut_bool hB _, rfl, rfl⟩
  · rw [List.append_nil, hfn ds (by rw [← e3]; simpa using e2)]
    exact trodAll_stays hl _ _ _ _ hrd (fun x hx => hb.same (hlt x hx)) (fun x hx => by simpa using hlt x hx) hA
  · rw [hvars, List.append_nil, hfn ds (by rw [← e3]; simpa using e2)]
    rfl
end
end Go.Pure

/- A generic layer: what a value of a type looks like. -/
namespace Go.Pure
open Go

section
variable {P : Program} {t : TypeId} {g : GV}
theorem GT.int_inv {k : IntKind} (hu : P.underlying t = some (.int k)) (h : GT P t g) : ∃ n, g = .int k n ∧ (Lit.int k n).wf = true := by
  cases h with
  | int _ k' n hu' hw => rw [hu] at hu'; cases hu'; exact ⟨n, rfl, hw⟩
  | bool _ b hu' => rw [hu] at hu'; cases hu'
  | str _ s hu' => rw [hu] at hu'; cases hu'
  | sl _ e es hu' => rw [hu] at hu'; cases hu'
  | agg _ fs xs hu' => rw [hu] at hu'; cases hu'
theorem GT.bool_inv (hu : P.underlying t = some .bool) (h : GT P t g) : ∃ b, g = .bool b := by
  cases h with
  | int _ k' n hu' hw => rw [hu] at hu'; cases hu'
  | bool _ b hu' => exact ⟨b, rfl⟩
  | str _ s hu' => rw [hu] at hu'; cases hu'
  | sl _ e es hu' => rw [hu] at hu'; cases hu'
  | agg _ fs xs hu' => rw [hu] at hu'; cases hu'
theorem GT.str_inv (hu : P.underlying t = some .string) (h : GT P t g) : ∃ s, g = .str s ∧ s.size ≤ maxLen := by
  cases h with
  | int _ k' n hu' hw => rw [hu] at hu'; cases hu'
  | bool _ b hu' => rw [hu] at hu'; cases hu'
  | str _ s hu' hs => exact ⟨s, rfl, hs⟩
  | sl _ e es hu' => rw [hu] at hu'; cases hu'
  | agg _ fs xs hu' => rw [hu] at hu'; cases hu'
theorem GT.sl_inv {e : TypeId} (hu : P.underlying t = some (.slice e)) (h : GT P t g) : ∃ es, g = .sl es ∧ es.length ≤ maxLen ∧ ∀ x ∈ es, GT P e x := by
  cases h with
  | int _ k' n hu' hw => rw [hu] at hu'; cases hu'
  | bool _ b hu' => rw [hu] at hu'; cases hu'
  | str _ s hu' => rw [hu] at hu'; cases hu'
  | sl _ e' es hu' hl he => rw [hu] at hu'; cases hu'; exact ⟨es, rfl, hl, he⟩
  | agg _ fs xs hu' => rw [hu] at hu'; cases hu'
theorem GT.agg_inv {fs : Array Field} (hu : P.underlying t = some (.struct fs)) (h : GT P t g) : ∃ xs : List GV, g = .agg (xs.flatMap GV.cells) ∧ xs.length = fs.size ∧ ∀ (i : Nat) (f : Field) (x : GV), fs[i]? = some f → xs[i]? = some x → GT P f.type x := by
  cases h with
  | int _ k' n hu' hw => rw [hu] at hu'; cases hu'
  | bool _ b hu' => rw [hu] at hu'; cases hu'
  | str _ s hu' => rw [hu] at hu'; cases hu'
  | sl _ e es hu' => rw [hu] at hu'; cases hu'
  | agg _ fs' xs hu' hl hx => rw [hu] at hu'; cases hu'; exact ⟨xs, rfl, hl, hx⟩
end
end Go.Pure
