/- A generic layer: values without memory, and code over them. -/
import Derived.Calls
import Derived.Lib.DecodeN
import Derived.Lib.Props
import Derived.Lib.RangeT
import Derived.Orders
import Derived.Tactics
import Derived.Laws.AppendOwn
import Derived.Below
import Derived.Deep.LoopGhost
import Derived.Laws.Alloc2
import Derived.Laws.Panics
import Derived.MapKept
namespace Go.Pure
open Go
def gfacts(β:Nat→Value):List (Nat×List Value):=[(9,[Value.int .i64 12]),(10,[Value.int .i64 80]),(11,[Value.int .i64 40]),(14,[Value.int .i64 40]),
 (0,(List.range 256).map fun c=>Value.int .u8 (Lib.firstT c)),(1,(List.range 32).map fun k=>Value.int .u8 (if k%2=0 then Lib.accLo (k/2)else Lib.accHi (k/2))),
 (4,[β 0]),(3,[β 1]),(2,Lib.propertiesTab.map fun z=>Value.int .u8 z)]
def gdrawn:Prop:=False
def gok(β:Nat→Value):Prop:=(∃a,β 0= .iface 375 (.pointer (some a)))∧ ∃a,β 1= .pointer (some a)
def gRanges(k:IntKind)(b off:Nat)(T:Array (Nat×Nat×Nat))(w:World):Prop:=
 ∀i,i<T.size→w.cell? ⟨b,off+3 *i,none⟩=some (.int k (T.getD i (0,0,0)).1)∧w.cell? ⟨b,off+3 *i+1,none⟩=some (.int k (T.getD i (0,0,0)).2.1)∧w.cell? ⟨b,off+3 *i+2,none⟩=some (.int k (T.getD i (0,0,0)).2.2)
def gq(w:World):Prop:= ∃(Tb oT:Nat) (a16 a32:Option Addr) (b16 o16 c16 b32 o32 c32:Nat),w.cell? ⟨3,0,none⟩=some (.pointer (some ⟨Tb,oT,none⟩))∧
 w.cell? ⟨Tb,oT,none⟩=some (.slice a16 Lib.letterT.r16.size c16)∧w.cell? ⟨Tb,oT+1,none⟩=some (.slice a32 Lib.letterT.r32.size c32)∧w.cell? ⟨Tb,oT+2,none⟩=some (.int .i64 Lib.letterT.off)∧
 a16=some ⟨b16,o16,none⟩∧a32=some ⟨b32,o32,none⟩∧gRanges .u16 b16 o16 Lib.letterT.r16 w∧gRanges .u32 b32 o32 Lib.letterT.r32 w∧Lib.letterT.r16.size≤c16
inductive GV where
 |int (k:IntKind) (n:Int)
 |bool (b:Bool)
 |str (s:ByteArray)
 |raw (v:Value)
 |agg (cs:List GV)
 |sl (es:List GV)
 deriving Inhabited
def GV.cells:GV→List GV
 | .agg cs=>cs
 |g=>[g]
inductive RG(w:World)(S:Nat→Nat→Prop):GV→Value→Prop where
 |int (k:IntKind) (n:Int):RG w S (.int k n) (.int k n)
 |bool (b:Bool):RG w S (.bool b) (.bool b)
 |str (s:ByteArray):RG w S (.str s) (.string s)
 |raw (v:Value):RG w S (.raw v) v
 |agg (cs:List GV) (vs:Array Value) (hl:cs.length=vs.size) (h1: ∀v∈vs.toList,v.oneCell'=true)
   (h: ∀(i:Nat) (g:GV) (v:Value),cs[i]? =some g→vs[i]? =some v→RG w S g v):RG w S (.agg cs) (.agg vs)
 |nil:RG w S (.sl []) (.slice none 0 0)
 |sl (es:List GV) (a:Addr) (cap size:Nat) (f:Nat→Value) (ha:es≠[]→a.spot=none) (hc:es.length≤cap) (hm:cap≤maxLen)
   (hs: ∀(i:Nat) (e:GV),es[i]? =some e→e.cells.length=size)
   (hf: ∀k,k<es.length *size→w.cell? (a.add k)=some (f k)∧S a.block (a.off+k)∧(f k).oneCell'=true)
   (h: ∀(i:Nat) (e:GV) (j:Nat) (g:GV),es[i]? =some e→e.cells[j]? =some g→RG w S g (f (i *size+j))):
   RG w S (.sl es) (.slice (some a) es.length cap)
theorem add_block(a:Addr)(k:Nat):(a.add k).block=a.block:=by unfold Addr.add;split<;>rfl
theorem add_off(a:Addr)(k:Nat):(a.add k).off=a.off+k:=by unfold Addr.add;split<;>simp_all
theorem add_spot(a:Addr)(k:Nat)(h:a.spot=none):(a.add k).spot=none:=by unfold Addr.add;split<;>simp_all
theorem add_eq(a:Addr)(k:Nat)(h:a.spot=none):a.add k=⟨a.block,a.off+k,none⟩:=by
 unfold Addr.add;split
 ·subst_vars;cases a;simp_all
 ·rfl
def Keeps(w w':World)(S S':Nat→Nat→Prop):Prop:=
 ∀(a:Addr) (v:Value),a.spot=none→S a.block a.off→w.cell? a=some v→w'.cell? a=some v∧S' a.block a.off
theorem RG.mono{w w':World}{S S':Nat→Nat→Prop}(hk:Keeps w w' S S'){g:GV}{v:Value}(h:RG w S g v):RG w' S' g v:=by
 induction h with
 |int k n=>exact .int k n
 |bool b=>exact .bool b
 |str s=>exact .str s
 |raw v=>exact .raw v
 |agg cs vs hl h1 _ ih=>exact .agg cs vs hl h1 ih
 |nil=>exact .nil
 |sl es a cap size f ha hc hm hs hf _ ih=>
  refine .sl es a cap size f ha hc hm hs (fun k hk'=> ?_) ih
  obtain⟨h1,h2,h3⟩:=hf k hk'
  have:=hk (a.add k) (f k) (add_spot a k (ha (by rintro rfl;simp at hk'))) (by rw[add_block,add_off];exact h2) h1
  rw[add_block,add_off]at this
  exact⟨this.1,this.2,h3⟩
inductive PV where
 |g (x:GV)
 |own (es:List GV) (id:Nat)
 |ptr (b:Nat) (off:Nat)
 |nilp
 |nils
 |pat (cs:List GV)
 |clo (fn:Fn) (first cap:List PV)
 |agg (cs:List PV)
 |tuple (cs:List PV)
 |lit (es:List GV)
 |mar (id n:Nat)
 |mref (id n i off:Nat)
 |mp (id:Nat)
 |vw (id n off len cap:Nat)
 |glob (g off:Nat)
 |kv (g off:Nat)
 |ifc (t:TypeId) (p:PV)
 |any
 deriving Inhabited
structure Tok where
 live:Bool
 g:Nat
 e:TypeId
 size:Nat
 cap:Nat
 hw:Nat
structure MTok where
 live:Bool
 g:Nat
 size:Nat
 gen:Nat
 len:Nat
 cap:Nat
structure Hid where
 f:Nat→Nat→Prop
 d:List Deferred
instance:CoeFun Hid fun _=>Nat→Nat→Prop:=⟨Hid.f⟩
structure Ctx where
 σ:List Nat
 τ:List Tok
 μ:List MTok
 hid:Hid
 w:World
def Ctx.stab(c:Ctx)(b p:Nat):Prop:= ¬c.hid b p∧b∉c.σ∧(∀t∈c.τ,t.live=true→t.g=b→p<t.hw *t.size)∧ ∀t∈c.μ,t.live=true→t.g≠b
def GX(w:World)(S:Nat→Nat→Prop):Prop:= ∀w':World,(∀(a:Addr) (v:Value),a.spot=none→S a.block a.off→w.cell? a=some v→w'.cell? a=some v)→gq w'
def GL(c:Ctx):Prop:=(∃β:Nat→Value,gok β∧ ∀x∈gfacts β,∀(k:Nat) (v:Value),x.2[k]? =some v→c.w.cell? ⟨x.1,k,none⟩=some v∧c.stab x.1 k)∧GX c.w c.stab
theorem GX.keep{w w':World}{S S':Nat→Nat→Prop}(h:GX w S)(hk:Keeps w w' S S'):GX w' S':=fun w2 h2=>h w2 fun a v hs hst hc=>h2 a v hs (hk a v hs hst hc).2 (hk a v hs hst hc).1
theorem GL.keep{c c':Ctx}(h:GL c)(hk:Keeps c.w c'.w c.stab c'.stab):GL c':=⟨h.1.imp fun _ h=>⟨h.1,fun x hx k v hv=>hk ⟨x.1,k,none⟩ v rfl (h.2 x hx k v hv).2 (h.2 x hx k v hv).1⟩,h.2.keep hk⟩
theorem GL.of_stab{c c':Ctx}(h:GL c)(hw:c'.w=c.w)(hs: ∀b p,c.stab b p→c'.stab b p):GL c':=h.keep fun _ _ _ hst hc=>⟨by rw[hw];exact hc,hs _ _ hst⟩
theorem GL.q{c:Ctx}(h:GL c):gq c.w:=h.2 c.w fun _ _ _ _ hc=>hc
inductive RV(c:Ctx):PV→Value→Prop where
 |g (x:GV) (v:Value) (h:RG c.w c.stab x v):RV c (.g x) v
 |own (es:List GV) (id:Nat) (v:Value) (t:Tok) (h:RG c.w c.stab (.sl es) v) (ht:c.τ[id]? =some t)
   (hs: ∀(i:Nat) (e:GV),es[i]? =some e→e.cells.length=t.size) (hl:es.length≤t.hw)
   (hv:es.length=t.hw→(t.live=true∧v= .slice (some ⟨t.g,0,none⟩) es.length t.cap)∨(es=[]∧v= .slice none 0 0)):RV c (.own es id) v
 |ptr (b off:Nat) (blk:Nat) (h:c.σ[b]? =some blk):RV c (.ptr b off) (.pointer (some ⟨blk,off,none⟩))
 |nilp:RV c .nilp (.pointer none)
 |nils:RV c .nils (.slice none 0 0)
 |pat (cs:List GV) (a:Addr) (f:Nat→Value) (ha:a.spot=none)
   (hf: ∀k,k<cs.length→c.w.cell? (a.add k)=some (f k)∧c.stab a.block (a.off+k)∧(f k).oneCell'=true)
   (h: ∀(j:Nat) (g:GV),cs[j]? =some g→RG c.w c.stab g (f j)):RV c (.pat cs) (.pointer (some a))
 |clo (fn:Fn) (ps qs:List PV) (us vs:Array Value) (hp:ps.length=us.size) (hq:qs.length=vs.size)
   (h1: ∀(i:Nat) (p:PV) (v:Value),ps[i]? =some p→us[i]? =some v→RV c p v)
   (h2: ∀(i:Nat) (p:PV) (v:Value),qs[i]? =some p→vs[i]? =some v→RV c p v):RV c (.clo fn ps qs) (.func fn us vs)
 |agg (cs:List PV) (vs:Array Value) (hl:cs.length=vs.size) (h1: ∀v∈vs.toList,v.oneCell'=true)
   (h: ∀(i:Nat) (p:PV) (v:Value),cs[i]? =some p→vs[i]? =some v→RV c p v):RV c (.agg cs) (.agg vs)
 |tuple (cs:List PV) (vs:Array Value) (hl:cs.length=vs.size)
   (h: ∀(i:Nat) (p:PV) (v:Value),cs[i]? =some p→vs[i]? =some v→RV c p v):RV c (.tuple cs) (.tuple vs)
 |lit (es:List GV) (a:Option Addr) (h:RG c.w c.stab (.sl es) (.slice a es.length es.length)):RV c (.lit es) (.slice a es.length es.length)
 |mar (id n:Nat) (v:Value) (t:MTok) (ht:c.μ[id]? =some t) (hn:n≤t.gen) (h1:v.oneCell'=true) (hv:n=t.gen→(t.live=true∧v= .slice (some ⟨t.g,0,none⟩) t.len t.cap)∨(t.live=false∧v= .slice none 0 0)):RV c (.mar id n) v
 |mref (id n i off:Nat) (a:Addr) (t:MTok) (ht:c.μ[id]? =some t) (hn:n≤t.gen) (h1:a.spot=none) (hv:n=t.gen→a=⟨t.g,i *t.size+off,none⟩):RV c (.mref id n i off) (.pointer (some a))
 |mp (id:Nat) (v:Value) (t:MTok) (ht:c.μ[id]? =some t) (h1:v.oneCell'=true) (hv:t.gen=0→v= .map (some t.g)):RV c (.mp id) v
 |vw (id n off len cap g:Nat) (t:MTok) (ht:c.μ[id]? =some t) (hn:n≤t.gen) (h1:len≤cap) (h2:cap≤maxLen) (hv:n=t.gen→t.live=true∧t.g=g∧t.size=1∧off+cap≤t.len):RV c (.vw id n off len cap) (.slice (some ⟨g,off,none⟩) len cap)
 |glob (g off:Nat):RV c (.glob g off) (.pointer (some ⟨g,off,none⟩))
 |kv (g off:Nat) (v:Value) (h:c.w.cell? ⟨g,off,none⟩=some v) (hs:c.stab g off) (h1:v.oneCell'=true):RV c (.kv g off) v
 |ifc (t:TypeId) (p:PV) (v:Value) (h:RV c p v):RV c (.ifc t p) (.iface t v)
 |any (v:Value):RV c .any v
structure Evo(c c':Ctx):Prop where
 os:c'.w.os=c.w.os
 tape:c'.w.tape=c.w.tape∧(gdrawn→c.w.drawn≤c'.w.drawn)
 output:c'.w.output=c.w.output
 size:c.w.heap.size≤c'.w.heap.size
 hid:c'.hid=c.hid
 sig: ∃n,c'.σ=c.σ++n∧ ∀b∈n,c.w.heap.size≤b
 tok: ∀(id:Nat) (t:Tok),c.τ[id]? =some t→ ∃t',c'.τ[id]? =some t'∧t'.size=t.size∧t'.e=t.e∧(t'=t∨t.hw<t'.hw)
 mu: ∀(id:Nat) (t:MTok),c.μ[id]? =some t→ ∃t',c'.μ[id]? =some t'∧t'.size=t.size∧(t'=t∨t.gen<t'.gen)
 munew: ∀t'∈c'.μ,t'.live=true→(∃t∈c.μ,t.live=true∧t.g=t'.g)∨c.w.heap.size≤t'.g
 toknew: ∀t'∈c'.τ,t'.live=true→(∃t∈c.τ,t.live=true∧t.g=t'.g)∨c.w.heap.size≤t'.g
 keep:Keeps c.w c'.w c.stab c'.stab
 frame: ∀b,b<c.w.heap.size→b∉c.σ→(∀t∈c.τ,t.live=true→t.g≠b)→(∀t∈c.μ,t.live=true→t.g≠b)→c'.w.heap[b]? =c.w.heap[b]?
theorem Evo.refl(c:Ctx):Evo c c:=
 ⟨rfl,⟨rfl,fun _=>Nat.le_refl _⟩,rfl,Nat.le_refl _,rfl,⟨[],by simp⟩,fun _ t h=>⟨t,h,rfl,rfl, .inl rfl⟩,fun _ t h=>⟨t,h,rfl, .inl rfl⟩,fun t h hl=> .inl ⟨t,h,hl,rfl⟩,fun t h hl=> .inl ⟨t,h,hl,rfl⟩,fun _ _ _ hs hc=>⟨hc,hs⟩,fun _ _ _ _ _=>rfl⟩
theorem Evo.trans{a b c:Ctx}(h:Evo a b)(k:Evo b c):Evo a c:=by
 obtain⟨n,hn,hn'⟩:=h.sig
 obtain⟨m,hm,hm'⟩:=k.sig
 refine⟨k.os.trans h.os,⟨k.tape.1.trans h.tape.1,fun g=>Nat.le_trans (h.tape.2 g) (k.tape.2 g)⟩,k.output.trans h.output,Nat.le_trans h.size k.size,k.hid.trans h.hid,⟨n++m,by rw[hm,hn,List.append_assoc], ?_⟩, ?_, ?_, ?_, ?_, ?_, ?_⟩
 ·intro b hb
  rcases List.mem_append.1 hb with hb|hb
  ·exact hn' b hb
  ·exact Nat.le_trans h.size (hm' b hb)
 ·intro id t ht
  obtain⟨t1,h1,s1,e1,d1⟩:=h.tok id t ht
  obtain⟨t2,h2,s2,e2,d2⟩:=k.tok id t1 h1
  refine⟨t2,h2,s2.trans s1,e2.trans e1, ?_⟩
  rcases d1 with rfl|d1
  ·exact d2
  ·rcases d2 with rfl|d2
   ·exact .inr d1
   ·exact .inr (Nat.lt_trans d1 d2)
 ·intro id t ht
  obtain⟨t1,h1,s1,d1⟩:=h.mu id t ht
  obtain⟨t2,h2,s2,d2⟩:=k.mu id t1 h1
  refine⟨t2,h2,s2.trans s1, ?_⟩
  rcases d1 with rfl|d1
  ·exact d2
  ·rcases d2 with rfl|d2
   ·exact .inr d1
   ·exact .inr (Nat.lt_trans d1 d2)
 ·intro t' ht' hlv
  rcases k.munew t' ht' hlv with⟨t,ht,lv,e⟩|hl
  ·rcases h.munew t ht lv with⟨t0,ht0,lv0,e0⟩|hl
   ·exact .inl ⟨t0,ht0,lv0,e0.trans e⟩
   ·exact .inr (e▸hl)
  ·exact .inr (Nat.le_trans h.size hl)
 ·intro t' ht' hlv
  rcases k.toknew t' ht' hlv with⟨t,ht,lv,e⟩|hl
  ·rcases h.toknew t ht lv with⟨t0,ht0,lv0,e0⟩|hl
   ·exact .inl ⟨t0,ht0,lv0,e0.trans e⟩
   ·exact .inr (e▸hl)
  ·exact .inr (Nat.le_trans h.size hl)
 ·intro x v hx hs hc
  obtain⟨h1,h2⟩:=h.keep x v hx hs hc
  exact k.keep x v hx h2 h1
 ·intro x hx hs ht hm
  rw[k.frame x (Nat.lt_of_lt_of_le hx h.size),h.frame x hx hs ht hm]
  ·rw[hn]
   intro hmem
   rcases List.mem_append.1 hmem with hmem|hmem
   ·exact hs hmem
   ·have:=hn' x hmem;omega
  ·intro t htm lv e
   rcases h.toknew t htm lv with⟨t0,ht0,lv0,e0⟩|hl
   ·exact ht t0 ht0 lv0 (e0.trans e)
   ·omega
  ·intro t htm lv e
   rcases h.munew t htm lv with⟨t0,ht0,lv0,e0⟩|hl
   ·exact hm t0 ht0 lv0 (e0.trans e)
   ·omega
structure EvoL(c c':Ctx):Prop where
 sig: ∃n,c'.σ=c.σ++n
 tok: ∀(id:Nat) (t:Tok),c.τ[id]? =some t→ ∃t',c'.τ[id]? =some t'∧t'.size=t.size∧t'.e=t.e∧(t'=t∨t.hw<t'.hw)
 mu: ∀(id:Nat) (t:MTok),c.μ[id]? =some t→ ∃t',c'.μ[id]? =some t'∧t'.size=t.size∧(t'=t∨t.gen<t'.gen)
 keep:Keeps c.w c'.w c.stab c'.stab
theorem Evo.light{c c':Ctx}(h:Evo c c'):EvoL c c':=⟨h.sig.imp fun _ h=>h.1,h.tok,h.mu,h.keep⟩
theorem RV.light{c c':Ctx}(hE:EvoL c c'){p:PV}{v:Value}(h:RV c p v):RV c' p v:=by
 induction h with
 |g x v h=>exact .g x v (h.mono hE.keep)
 |own es id v t h ht hs hl hv=>
  obtain⟨t',ht',s',_,d⟩:=hE.tok id t ht
  refine .own es id v t' (h.mono hE.keep) ht' (fun i e he=>(hs i e he).trans s'.symm) ?_ ?_
  ·rcases d with rfl|d<;>omega
  ·intro e
   rcases d with rfl|d
   ·exact hv e
   ·omega
 |ptr b off blk h=>
  obtain⟨n,hn⟩:=hE.sig
  refine .ptr b off blk ?_
  rw[hn,List.getElem?_append_left (List.getElem?_eq_some_iff.1 h).1]
  exact h
 |nilp=>exact .nilp
 |nils=>exact .nils
 |pat cs a f ha hf h=>
  refine .pat cs a f ha (fun k hk=> ?_) (fun j g hj=>(h j g hj).mono hE.keep)
  obtain⟨h1,h2,h3⟩:=hf k hk
  have:=hE.keep (a.add k) (f k) (add_spot a k ha) (by rw[add_block,add_off];exact h2) h1
  rw[add_block,add_off]at this
  exact⟨this.1,this.2,h3⟩
 |clo fn ps qs us vs hp hq _ _ h1 h2=>exact .clo fn ps qs us vs hp hq h1 h2
 |agg cs vs hl h1 _ ih=>exact .agg cs vs hl h1 ih
 |tuple cs vs hl _ ih=>exact .tuple cs vs hl ih
 |lit es a h=>exact .lit es a (h.mono hE.keep)
 |mar id n v t ht hn h1 hv=>
  obtain⟨t',ht',s',d⟩:=hE.mu id t ht
  refine .mar id n v t' ht' (by rcases d with rfl|d<;>omega) h1 (fun e=> ?_)
  rcases d with rfl|d
  ·exact hv e
  ·omega
 |mref id n i off v t ht hn h1 hv=>
  obtain⟨t',ht',s',d⟩:=hE.mu id t ht
  refine .mref id n i off v t' ht' (by rcases d with rfl|d<;>omega) h1 (fun e=> ?_)
  rcases d with rfl|d
  ·exact hv e
  ·omega
 |mp id v t ht h1 hv=>
  obtain⟨t',ht',s',d⟩:=hE.mu id t ht
  refine .mp id v t' ht' h1 (fun e=> ?_)
  rcases d with rfl|d
  ·exact hv e
  ·omega
 |vw id n off len cap g t ht hn h1 h2 hv=>
  obtain⟨t',ht',s',d⟩:=hE.mu id t ht
  refine .vw id n off len cap g t' ht' (by rcases d with rfl|d<;>omega) h1 h2 (fun e=> ?_)
  rcases d with rfl|d
  ·exact hv e
  ·omega
 |glob g off=>exact .glob g off
 |kv g off v h hs h1=>exact .kv g off v (hE.keep ⟨g,off,none⟩ v rfl hs h).1 (hE.keep ⟨g,off,none⟩ v rfl hs h).2 h1
 |ifc t p v _ ih=>exact .ifc t p v ih
 |any v=>exact .any v
theorem RV.mono{c c':Ctx}(hE:Evo c c'){p:PV}{v:Value}(h:RV c p v):RV c' p v:=h.light hE.light
inductive MO where
 |gone (n:Nat)
 |arr (n:Nat) (e:TypeId) (es:List GV)
 |map (es:List (GV×GV))
 |iter (n:Nat) (s:ByteArray) (pos:Nat)
structure PH where
 bx:List (List PV)
 tk:List (TypeId×Nat)
 mu:List MO
def MOk(P:Program)(c:Ctx)(t:MTok):MO→Prop
 | .gone n=>t.live=false∧t.gen=n
 | .arr n e es=>t.gen=n∧t.len=es.length∧(P.info? e).map (·.size)=some t.size∧((t.live=false∧es=[])∨(t.live=true∧ ∃cur,c.w.heap[t.g]? =some (.cells cur e (0,0))∧cur.size=t.cap *t.size∧es.length≤t.cap∧t.cap≤maxLen∧
   (∀x∈es,x.cells.length=t.size)∧ ∀(i:Nat) (x:GV) (j:Nat) (g:GV) (v:Value),es[i]? =some x→x.cells[j]? =some g→cur[i *t.size+j]? =some v→RG c.w c.stab g v∧v.oneCell'=true))
 | .map es=>t.gen=0∧t.live=true∧ ∃(ents:Array MapEntry) (es':List (GV×GV)),es.Perm es'∧c.w.heap[t.g]? =some (.map ents ents.size)∧ents.size=es'.length∧
   ∀(i:Nat) (k v:GV) (n:MapEntry),es'[i]? =some (k,v)→ents[i]? =some n→RG c.w c.stab k n.key∧RG c.w c.stab v n.val∧n.born=i
 | .iter n s pos=>t.gen=n∧t.live=true∧c.w.heap[t.g]? =some (.stringIter s pos)
structure Rel(P:Program)(c:Ctx)(H:PH):Prop where
 len:c.σ.length=H.bx.length
 bx: ∀(i b:Nat) (cs:List PV),c.σ[i]? =some b→H.bx[i]? =some cs→ ∃(vals:Array Value) (T:TypeId),c.w.heap[b]? =some (.cells vals T (0,0))∧vals.size=cs.length∧
  ∀(j:Nat) (p:PV) (v:Value),cs[j]? =some p→vals[j]? =some v→RV c p v∧v.oneCell'=true
 tk:c.τ.map (fun t=>(t.e,t.hw))=H.tk
 tb: ∀t∈c.τ,t.live=true→ ∃cur,c.w.heap[t.g]? =some (.cells cur t.e (0,0))∧cur.size=t.cap *t.size∧t.hw≤t.cap∧t.cap≤maxLen∧(P.info? t.e).map (·.size)=some t.size
 nd:c.σ.Nodup
 td: ∀(i j:Nat) (t t':Tok),c.τ[i]? =some t→c.τ[j]? =some t'→t.live=true→t'.live=true→t.g=t'.g→i=j
 st: ∀t∈c.τ,t.live=true→t.g∉c.σ
 hidlt: ∀b p,c.hid b p→b<c.w.heap.size
 thid: ∀t∈c.τ,t.live=true→ ∀p,¬c.hid t.g p
 shid: ∀b∈c.σ,b<c.w.heap.size
 dead: ∀t∈c.τ,t.live=false→t.hw=0∧(P.info? t.e).map (·.size)=some t.size
 mlen:c.μ.length=H.mu.length
 mu: ∀(i:Nat) (t:MTok) (o:MO),c.μ[i]? =some t→H.mu[i]? =some o→MOk P c t o
 mlt: ∀t∈c.μ,t.live=true→t.g<c.w.heap.size
 md: ∀(i j:Nat) (t t':MTok),c.μ[i]? =some t→c.μ[j]? =some t'→t.live=true→t'.live=true→t.g=t'.g→i=j
 ms: ∀t∈c.μ,t.live=true→t.g∉c.σ
 mt: ∀t∈c.μ,t.live=true→ ∀t'∈c.τ,t'.live=true→t.g≠t'.g
 mhid: ∀t∈c.μ,t.live=true→ ∀p,¬c.hid t.g p
 gl:GL c
theorem MOk.light{P:Program}{c c':Ctx}(hE:EvoL c c'){t:MTok}{o:MO}(hb:t.live=true→c'.w.heap[t.g]? =c.w.heap[t.g]?)(h:MOk P c t o):MOk P c' t o:=by
 cases o with
 |gone n=>exact h
 |arr n e es=>
  obtain⟨h1,h2,h3,h4⟩:=h
  refine⟨h1,h2,h3, ?_⟩
  rcases h4 with h4|⟨lv,cur,a1,a2,a3,a4,a5,a6⟩
  ·exact .inl h4
  ·exact .inr ⟨lv,cur,(hb lv).trans a1,a2,a3,a4,a5,fun i x j g v hx hg hv=>⟨(a6 i x j g v hx hg hv).1.mono hE.keep,(a6 i x j g v hx hg hv).2⟩⟩
 |map es=>
  obtain⟨h1,lv,ents,es',hp,a1,a2,a3⟩:=h
  exact⟨h1,lv,ents,es',hp,(hb lv).trans a1,a2,fun i k v n hk hn=>⟨(a3 i k v n hk hn).1.mono hE.keep,(a3 i k v n hk hn).2.1.mono hE.keep,(a3 i k v n hk hn).2.2⟩⟩
 |iter n s pos=>exact⟨h.1,h.2.1,(hb h.2.1).trans h.2.2⟩
theorem MOk.mono{P:Program}{c c':Ctx}(hE:Evo c c'){t:MTok}{o:MO}(hb:t.live=true→c'.w.heap[t.g]? =c.w.heap[t.g]?)(h:MOk P c t o):MOk P c' t o:=h.light hE.light hb
def RVs(c:Ctx)(ps:List PV)(vs:Array Value):Prop:=ps.length=vs.size∧ ∀(i:Nat) (p:PV) (v:Value),ps[i]? =some p→vs[i]? =some v→RV c p v
def PC(P:Program)(f:FuncId)(args:List PV)(H:PH)(v:PV)(H':PH):Prop:=
 ∀(c:Ctx) (vs:Array Value),Rel P c H→RVs c args vs→
  Calls P f vs c.w fun e w'=> ∃rv c',e= .returned rv∧c'.w=w'∧Rel P c' H'∧Evo c c'∧RV c' v rv
def PCx(P:Program)(f:FuncId)(args:List PV)(H:PH)(R:PV→PH→Prop):Prop:=
 ∀(c:Ctx) (vs:Array Value),Rel P c H→RVs c args vs→
  Calls P f vs c.w fun e w'=> ∃v H' rv c',R v H'∧e= .returned rv∧c'.w=w'∧Rel P c' H'∧Evo c c'∧RV c' v rv
theorem PC.x{P:Program}{f:FuncId}{args:List PV}{H H':PH}{v:PV}(h:PC P f args H v H'):PCx P f args H fun a b=>a=v∧b=H':=
 fun c vs hr ha=>(h c vs hr ha).mono fun _ _ ⟨rv,c',h1,h2,h3,h4,h5⟩=>⟨v,H',rv,c',⟨rfl,rfl⟩,h1,h2,h3,h4,h5⟩
theorem PCx.one{P:Program}{f:FuncId}{args:List PV}{H H':PH}{v:PV}{R:PV→PH→Prop}(h:PCx P f args H R)(hR: ∀a b,R a b→a=v∧b=H'):PC P f args H v H':=
 fun c vs hr ha=>(h c vs hr ha).mono fun _ _ ⟨a,b,rv,c',hab,h1,h2,h3,h4,h5⟩=>by
  obtain⟨e1,e2⟩:=hR a b hab
  subst e1;subst e2
  exact⟨rv,c',h1,h2,h3,h4,h5⟩
abbrev Env:=Nat→PV
def constG:Value→GV
 | .int k n=> .int k n
 | .bool b=> .bool b
 | .string s=> .str s
 |v=> .raw v
def constC:Value→PV
 | .pointer none=> .nilp
 | .slice none 0 0=> .nils
 |v=> .g (constG v)
def constPV:Value→PV
 | .agg cs=>if cs.toList.all (·.oneCell')then .agg (cs.toList.map constC)else .g (.raw (.agg cs))
 |v=>constC v
theorem constG_ok(w:World)(S:Nat→Nat→Prop)(v:Value):RG w S (constG v) v:=by
 unfold constG
 split
 ·exact .int _ _
 ·exact .bool _
 ·exact .str _
 ·exact .raw _
theorem constC_ok(c:Ctx)(v:Value):RV c (constC v) v:=by
 unfold constC
 split
 ·exact .nilp
 ·exact .nils
 ·exact .g _ _ (constG_ok _ _ _)
theorem constPV_ok(c:Ctx)(v:Value):RV c (constPV v) v:=by
 unfold constPV
 split
 ·rename_i cs
  split
  ·rename_i h
   refine .agg _ _ (by simp) (fun v hv=>List.all_eq_true.1 h v hv) ?_
   intro i g u hg hu
   simp only[List.getElem?_map]at hg
   rw[Array.getElem?_toList]at hg
   rw[hu]at hg
   simp at hg
   subst hg
   exact constC_ok _ _
  ·exact .g _ _ (.raw _)
 ·exact constC_ok _ _
def Env.eval(env:Env):Operand→PV
 | .tmp t=>env t
 | .const v=>constPV v
 | .global g=> .glob g 0
 | .func f=> .g (.raw (.func (.func f) #[] #[]))
def upd(env:Env)(d:Option Tmp)(v:PV):Env:=
 match d with
 |some d=>fun t=>bif Nat.beq t d then v else env t
 |none=>env
structure ER(c:Ctx)(N:Nat)(env:Env)(a:Act):Prop where
 defers:a.defers=c.hid.d
 size:a.tmps.size=N
 slot: ∀t,RV c (env t) (a.tmps.getD t undef)
theorem ER.eval{c:Ctx}{N:Nat}{env:Env}{a:Act}(h:ER c N env a)(x:Operand):RV c (env.eval x) (a.eval x):=by
 cases x with
 |tmp t=>exact h.slot t
 |const v=>exact constPV_ok c v
 |global g=>exact .glob g 0
 |func f=>exact .g _ _ (.raw _)
theorem ER.mono{c c':Ctx}{N:Nat}{env:Env}{a:Act}(hE:Evo c c')(h:ER c N env a):ER c' N env a:=
 ⟨h.defers.trans (congrArg Hid.d hE.hid).symm,h.size,fun t=>(h.slot t).mono hE⟩
theorem ER.put{c:Ctx}{N:Nat}{env:Env}{a:Act}(h:ER c N env a){d:Option Tmp}{p:PV}{v:Value}(hd: ∀t,d=some t→t<N)(hv:RV c p v):
  ER c N (upd env d p) (a.put d v):=by
 cases d with
 |none=>exact h
 |some d=>
  refine⟨h.defers,by simpa[Act.put]using h.size,fun t=> ?_⟩
  have hlt:d<a.tmps.size:=by rw[h.size];exact hd d rfl
  simp only[upd,Act.put]
  by_cases e:t=d
  ·subst e
   rw[Nat.beq_refl,cond_true]
   simpa[Array.getD_eq_getD_getElem?,Array.getElem?_setIfInBounds,hlt]using hv
  ·have e': ¬d=t:=fun x=>e x.symm
   have e2:Nat.beq t d=false:=Bool.eq_false_iff.2 fun h=>e (Nat.eq_of_beq_eq_true h)
   rw[e2,cond_false]
   simpa[Array.getD_eq_getD_getElem?,Array.getElem?_setIfInBounds,e']using h.slot t
def OpGoes(P:Program)(ρ:Operand→Value)(o:Oper)(w:World)(R:Value→World→Prop):Prop:=
 match(execOp ρ o).run P w with
 | .ok (.value rv) w'=>R rv w'
 | .ok .skip w'=>R undef w'
 | .ok (.enter f args) w'=>Calls P f args w' fun e w''=> ∃rv,e= .returned rv∧R rv w''
 |_=>False
def PO(P:Program)(o:Oper)(ρ:Operand→PV)(H:PH)(v:PV)(H':PH):Prop:=
 ∀(c:Ctx) (ρr:Operand→Value),Rel P c H→(∀x∈o.op.operands.toList,RV c (ρ x) (ρr x))→
  OpGoes P ρr o c.w fun rv w'=> ∃c',c'.w=w'∧Rel P c' H'∧Evo c c'∧RV c' v rv
theorem OpGoes.wp{P:Program}{o:Oper}{a:Act}{w:World}{R:Value→World→Prop}{K:Act→World→Prop}{Q:Exit→Act→World→Prop}
  (h:OpGoes P a.eval o w R) (hK: ∀v w',R v w'→K (a.put o.dst v) w'):o.wp P a w K Q:=by
 unfold OpGoes at h
 unfold Oper.wp
 generalize(execOp a.eval o).run P w=r at *
 cases r with
 |ok n w'=>
  cases n<;>simp only[Oper.upon]at h⊢
  case value v=>exact hK _ _ h
  case skip=>exact hK _ _ h
  case enter f args=>exact h.mono fun e w'' ⟨rv,he,hR⟩=>by subst he;exact hK _ _ hR
  all_goals exact h.elim
 |halt x w'=>exact h.elim
def gd(all:Array Oper)(o:Oper)(env:Env):Option Bool:=
 match o.guard with
 |none=>some true
 |some (j,want)=>
  match(all.toList[j]?).bind (·.dst)with
  |some d=>match env d with
   | .g (.bool b)=>some (b==want)
   | .g (.raw (.tuple _))=>some false
   |_=>none
  |none=>none
theorem gd_ok{all:Array Oper}{o:Oper}{env:Env}{c:Ctx}{N:Nat}{a:Act}(h:ER c N env a){b:Bool}(hg:gd all o env=some b):Region.wanted o (yielded all a.tmps)=b:=by
 unfold gd at hg
 unfold Region.wanted
 split at hg
 ·rename_i e;rw[e];simpa using hg
 ·rename_i j want e
  rw[e]
  simp only[yielded]
  split at hg
  ·rename_i d hd
   rw[Array.getElem?_toList]at hd
   rw[hd]
   have hs:=h.slot d
   simp only[Option.bind_some]
   split at hg
   ·rename_i b' he
    rw[he]at hs
    cases hs with
    |g x v hr=>
     generalize hv:a.tmps.getD d undef=v at hr
     cases hr
     rw[Array.getD_eq_getD_getElem?]at hv
     cases hx:a.tmps[d]? with
     |none=>rw[hx]at hv;simp[undef]at hv
     |some u=>rw[hx]at hv;simp at hv;subst hv;simpa using hg
   ·rename_i vs he
    rw[he]at hs
    cases hs with
    |g x v hr=>
     generalize hv:a.tmps.getD d undef=v at hr
     cases hr
     rw[Array.getD_eq_getD_getElem?]at hv
     cases hx:a.tmps[d]? with
     |none=>simpa using hg
     |some u=>rw[hx]at hv;simp at hv;subst hv;simpa using hg
   ·cases hg
  ·cases hg
def undefP:PV:= .g (.raw undef)
def POps(P:Program)(N:Nat)(all:Array Oper)(K:Env→PH→Prop):List Oper→Env→PH→Prop
 |[],env,H=>K env H
 |o::rest,env,H=>(∀t,o.dst=some t→t<N)∧
  match gd all o env with
  |some true=> ∃v H',PO P o env.eval H v H'∧POps P N all K rest (upd env o.dst v) H'
  |some false=>POps P N all K rest (upd env o.dst undefP) H
  |none=>False
def QR(P:Program)(c:Ctx)(N:Nat)(Q:Exit→Env→PH→Prop):Exit→Act→World→Prop:=
 fun e a' w'=> ∃c' env' H',Q e env' H'∧c'.w=w'∧Rel P c' H'∧Evo c c'∧ER c' N env' a'
theorem QR.mono{P:Program}{c c':Ctx}{N:Nat}{Q Q':Exit→Env→PH→Prop}(hE:Evo c c')(hq: ∀e env H,Q e env H→Q' e env H){e:Exit}{a:Act}{w:World}(h:QR P c' N Q e a w):QR P c N Q' e a w:=
 let⟨c1,env,H,q,hw,hr,hE',her⟩:=h
 ⟨c1,env,H,hq _ _ _ q,hw,hr,hE.trans hE',her⟩
def PW(P:Program)(N:Nat)(code:Code)(Q:Exit→Env→PH→Prop)(env:Env)(H:PH):Prop:=
 ∀(c:Ctx) (a:Act),Rel P c H→ER c N env a→code.wp P (QR P c N Q) a c.w
section
variable{P:Program}{N:Nat}{Q:Exit→Env→PH→Prop}{env:Env}{H:PH}
theorem wpList_of_POps{all:Array Oper}{K:Env→PH→Prop}: ∀(l:List Oper) (env:Env) (H:PH),POps P N all K l env H→ ∀(c:Ctx) (a:Act),Rel P c H→ER c N env a→
  wpList P all (QR P c N fun e env H=>e= .normal∧K env H) l a c.w
 |[],env,H,h,c,a,hr,he=>⟨c,env,H,⟨rfl,h⟩,rfl,hr,Evo.refl c,he⟩
 |o::rest,env,H,h,c,a,hr,he=>by
  obtain⟨hd,h⟩:=h
  unfold wpList
  split at h
  ·rename_i hg
   rw[gd_ok he hg,if_pos rfl]
   obtain⟨v,H',hpo,hrest⟩:=h
   refine .inl ((hpo c a.eval hr (fun x _=>he.eval x)).wp ?_)
   rintro rv w' ⟨c',rfl,hr',hE,hv⟩
   have:=wpList_of_POps rest _ _ hrest c' (a.put o.dst rv) hr' ((he.mono hE).put hd hv)
   refine wpList_mono (fun e a w h=>QR.mono hE (fun _ _ _ h=>h) h) this
  ·rename_i hg
   rw[gd_ok he hg,if_neg (by simp)]
   exact wpList_of_POps rest _ _ h c (a.put o.dst undef) hr (he.put hd (.g _ _ (.raw _)))
  ·exact h.elim
where
 wpList_mono {all:Array Oper} {Q Q':Exit→Act→World→Prop} (hq: ∀e a w,Q e a w→Q' e a w): ∀{l:List Oper} {a:Act} {w:World},wpList P all Q l a w→wpList P all Q' l a w
  |[],_,_,h=>hq _ _ _ h
  |o::rest,a,w,h=>by
   unfold wpList at *
   split
   ·rename_i hw
    rw[if_pos hw]at h
    refine h.imp ?_ ?_
    ·intro h
     have h1:=Oper.wp_mono (Q:=Q) (fun a w h=>wpList_mono hq (l:=rest) (a:=a) (w:=w) h) h
     unfold Oper.wp at *
     generalize(execOp a.eval o).run P w=r at *
     cases r with
     |ok n w'=>
      cases n<;>simp only[Oper.upon]at h1⊢ <;>
       first
        |exact h1
        |exact Calls.mono h1 (fun e w'' he=>by
          cases e
          ·exact he
          ·exact hq _ _ _ he
          ·obtain⟨a,w,h⟩:=he;exact⟨a,w,hq _ _ _ h⟩)
     |halt x w'=>cases x<;>simp only[Oper.upon]at h1⊢ <;>first|exact h1|exact hq _ _ _ h1
    ·rintro⟨h1,a,w,h2⟩
     exact⟨h1,a,w,hq _ _ _ h2⟩
   ·rename_i hw
    rw[if_neg hw]at h
    exact wpList_mono hq h
theorem PW_mono{code:Code}{Q':Exit→Env→PH→Prop}(h:PW P N code Q env H)(hq: ∀e env H,Q e env H→Q' e env H):PW P N code Q' env H:=
 fun c a hr he=>wp_mono (h c a hr he) fun _ _ _ h=>QR.mono (Evo.refl c) hq h
def Next(K:Env→PH→Prop)(Q:Exit→Env→PH→Prop):Exit→Env→PH→Prop
 | .normal,env,H=>K env H
 |e,env,H=>Q e env H
theorem PW_seq{x y:Code}(h:PW P N x (Next (PW P N y Q) Q) env H):PW P N (.seq x y) Q env H:=by
 intro c a hr he
 refine wp_seq (wp_mono (h c a hr he) ?_)
 rintro e a' w' ⟨c',env',H',q,rfl,hr',hE,he'⟩
 cases e<;>simp only[Next]at q<;>simp only[Exit.then]
 case normal=>exact wp_mono (q c' a' hr' he') fun _ _ _ h=>QR.mono hE (fun _ _ _ h=>h) h
 all_goals exact⟨c',env',H',q,rfl,hr',hE,he'⟩
theorem PW_skip(h:Q .normal env H):PW P N .skip Q env H:=fun c _ hr he=>wp_skip ⟨c,env,H,h,rfl,hr,Evo.refl c,he⟩
theorem PW_ret(h:Q .ret env H):PW P N .ret Q env H:=fun c _ hr he=>wp_ret ⟨c,env,H,h,rfl,hr,Evo.refl c,he⟩
theorem PW_exit{id:Nat}(h:Q (.exit id) env H):PW P N (.exit id) Q env H:=fun c _ hr he=>wp_exit ⟨c,env,H,h,rfl,hr,Evo.refl c,he⟩
theorem PW_cond{x:Operand}{t e:Code}{b:Bool}(hx:env.eval x= .g (.bool b))(h1:b=true→PW P N t Q env H)(h2:b=false→PW P N e Q env H):PW P N (.cond x t e) Q env H:=by
 intro c a hr he
 have hv:=he.eval x
 rw[hx]at hv
 cases hv with
 |g _ v hg=>
  generalize hv:a.eval x=v at hg
  cases hg
  exact wp_cond_split hv (fun e=>h1 e c a hr he) (fun e=>h2 e c a hr he)
def Blk(id:Nat)(Q:Exit→Env→PH→Prop):Exit→Env→PH→Prop
 | .exit id',env,H=>bif Nat.beq id' id then Q .normal env H else Q (.exit id') env H
 |e,env,H=>Q e env H
theorem PW_block{id:Nat}{x:Code}(h:PW P N x (Blk id Q) env H):PW P N (.block id x) Q env H:=by
 intro c a hr he
 refine wp_block (wp_mono (h c a hr he) ?_)
 rintro e a' w' ⟨c',env',H',q,rfl,hr',hE,he'⟩
 cases e<;>simp only[Blk]at q<;>simp only[Exit.inBlock]
 case exit id'=>
  by_cases e:id'=id
  ·subst e
   rw[Nat.beq_refl,cond_true]at q
   rw[if_pos rfl]
   exact⟨c',env',H',q,rfl,hr',hE,he'⟩
  ·rw[Bool.eq_false_iff.2 fun h=>e (Nat.eq_of_beq_eq_true h),cond_false]at q
   rw[if_neg e]
   exact⟨c',env',H',q,rfl,hr',hE,he'⟩
 all_goals exact⟨c',env',H',q,rfl,hr',hE,he'⟩
theorem PW_region{id:Nat}{l:List Oper}(h:POps P N l.toArray (fun env H=>Q .normal env H) l env H):PW P N (.region id l.toArray false) Q env H:=by
 intro c a hr he
 refine wp_region_lit ?_
 refine wpList_of_POps.wpList_mono ?_ (wpList_of_POps l env H h c a hr he)
 rintro e a' w' ⟨c',env',H',⟨rfl,q⟩,hw,hr',hE,he'⟩
 exact⟨c',env',H',q,hw,hr',hE,he'⟩
def EnvLe(env env':Env):Prop:= ∀t (c:Ctx) (v:Value),RV c (env t) v→RV c (env' t) v
def HLe(P:Program)(H H':PH):Prop:= ∀c:Ctx,Rel P c H→Rel P c H'
theorem EnvLe.er{env env':Env}(h:EnvLe env env'){c:Ctx}{a:Act}(he:ER c N env a):ER c N env' a:=⟨he.defers,he.size,fun t=>h t c _ (he.slot t)⟩
theorem PW_weak{code:Code}{env':Env}{H':PH}(h1:EnvLe env env')(h2:HLe P H H')(h:PW P N code Q env' H'):PW P N code Q env H:=
 fun c a hr he=>h c a (h2 c hr) (h1.er he)
theorem PW_loop{S:Type}{body:Code}(E:S→Env)(F:S→PH)(Inv:S→Prop)(μ:S→Nat)(s0:S)(hi:Inv s0)(h1:EnvLe env (E s0))(h2:HLe P H (F s0))
  (round: ∀s,Inv s→PW P N body (Next (fun env' H'=> ∃s',Inv s'∧μ s'<μ s∧EnvLe env' (E s')∧HLe P H' (F s')) Q) (E s) (F s)):PW P N (.loop body) Q env H:=by
 intro c a hr he
 refine wp_loop_ghost (fun n a w=> ∃s c',Inv s∧μ s=n∧c'.w=w∧Rel P c' (F s)∧Evo c c'∧ER c' N (E s) a) (μ s0) ⟨s0,c,hi,rfl,rfl,h2 c hr,Evo.refl c,h1.er he⟩ ?_
 rintro n a w ⟨s,c1,hInv,rfl,rfl,hr1,hE1,he1⟩
 refine wp_mono (round s hInv c1 a hr1 he1) ?_
 rintro e a' w' ⟨c2,env2,H2,q,rfl,hr2,hE2,he2⟩
 cases e<;>simp only[Next]at q<;>simp only[Exit.then]
 case normal=>
  obtain⟨s',hi',hlt,e1,e2⟩:=q
  exact⟨μ s',hlt,s',c2,hi',rfl,rfl,e2 c2 hr2,hE1.trans hE2,e1.er he2⟩
 all_goals exact⟨c2,env2,H2,q,rfl,hr2,hE1.trans hE2,he2⟩
end
def aggB(P:Program)(t:TypeId):Option Bool:=(P.underlying t).map fun| .struct _| .array _ _=>true|_=>false
def szB(P:Program)(t:TypeId):Option Nat:=(P.info? t).map (·.size)
def fieldB(P:Program)(s:TypeId)(k:Nat):Option (Nat×TypeId):=
 match P.underlying s with
 |some (.struct fs)=>match fs[k]? with
  |some f=>match szB P f.type with
   |some (_+1)=>some (f.offset,f.type)
   |_=>none
  |none=>none
 |_=>none
def zeroB(P:Program)(t:TypeId):Option Value:=(P.info? t).bind (·.zero)
section
variable{P:Program}{w:World}
theorem run_isAgg{t:TypeId}{b:Bool}(h:aggB P t=some b):(isAgg t).run P w= .ok b w:=by
 unfold aggB at h
 cases hu:P.underlying t with
 |none=>rw[hu]at h;cases h
 |some d=>
  rw[hu]at h
  simp only[Option.map_some,Option.some.injEq]at h
  simp only[isAgg,Sem.run_bind,run_underlying hu,Result.andThen_ok]
  split at h<;>subst h<;>simp_all
theorem run_sizeOf{t:TypeId}{n:Nat}(h:szB P t=some n):(sizeOf t).run P w= .ok n w:=by
 unfold szB at h
 cases hu:P.info? t with
 |none=>rw[hu]at h;cases h
 |some d=>
  rw[hu]at h
  simp only[Option.map_some,Option.some.injEq]at h
  simp[sizeOf,typeInfo,hu,h]
theorem run_zero{t:TypeId}{z:Value}(h:zeroB P t=some z):(zeroValue t).run P w= .ok z w:=by
 unfold zeroB at h
 cases hu:P.info? t with
 |none=>rw[hu]at h;cases h
 |some d=>
  rw[hu]at h
  simp only[Option.bind_some]at h
  simp[zeroValue,typeInfo,hu,h]
theorem run_fieldAt{s:TypeId}{k off:Nat}{ft:TypeId}(h:fieldB P s k=some (off,ft))(a:Addr):
  (Instr.fieldAt s (.pointer (some a)) k).run P w= .ok (.pointer (some (a.add off))) w:=by
 unfold fieldB at h
 split at h
 ·rename_i fs hu
  split at h
  ·rename_i f hf
   split at h
   ·rename_i n hn
    simp only[Option.some.injEq,Prod.mk.injEq]at h
    simp[Instr.fieldAt,run_underlying hu,hf,Instr.sureAddr,fieldPlace,run_sizeOf hn,h.1]
   ·cases h
  ·cases h
 ·cases h
end
/-! ### Values and their cells -/
theorem RG.oneCell{w:World}{S:Nat→Nat→Prop}{g:GV}{v:Value}(h:RG w S g v)(h1: ∀cs,g≠ .agg cs)(h2: ∀v,g≠ .raw v):v.oneCell'=true:=by
 cases h<;>first|rfl|exact absurd rfl (h1 _)|exact absurd rfl (h2 _)
def pvCells:PV→Option (List PV)
 | .g (.agg cs)=>some (cs.map .g)
 | .g (.raw v)=>if v.oneCell' then some [.g (.raw v)]else none
 | .agg cs=>some cs
 | .tuple _| .any=>none
 |p=>some [p]
theorem cells_one{v:Value}(h:v.oneCell'=true):v.cells= #[v]:=by cases v<;>first|rfl|cases h
theorem pvCells_ok{c:Ctx}{p:PV}{v:Value}(h:RV c p v){cs:List PV}(hc:pvCells p=some cs):
  cs.length=v.cells.size∧ ∀(j:Nat) (q:PV) (u:Value),cs[j]? =some q→v.cells[j]? =some u→RV c q u∧u.oneCell'=true:=by
 have one: ∀{p:PV} {v:Value},RV c p v→v.oneCell'=true→([p]:List PV).length=v.cells.size∧
   ∀(j:Nat) (q:PV) (u:Value),([p]:List PV)[j]? =some q→v.cells[j]? =some u→RV c q u∧u.oneCell'=true:=by
  intro p v h h1
  rw[cells_one h1]
  refine⟨rfl,fun j q u hq hu=> ?_⟩
  cases j with
  |zero=>simp at hq hu;subst hq;subst hu;exact⟨h,h1⟩
  |succ j=>simp at hq
 cases h with
 |g x v hg=>
  cases hg with
  |agg gs vs hl h1 hh=>
   simp only[pvCells,Option.some.injEq]at hc
   subst hc
   refine⟨by simpa[Value.cells]using hl,fun j q u hq hu=> ?_⟩
   simp only[List.getElem?_map,Option.map_eq_some_iff]at hq
   obtain⟨x,hx,rfl⟩:=hq
   simp only[Value.cells]at hu
   exact⟨.g _ _ (hh j x u hx hu),h1 u (by rw[Array.mem_toList_iff];exact Array.mem_of_getElem? hu)⟩
  |raw v=>
   simp only[pvCells]at hc
   split at hc
   ·rename_i h1;simp at hc;subst hc;exact one (.g _ _ (.raw _)) h1
   ·cases hc
  |int k n=>simp[pvCells]at hc;subst hc;exact one (.g _ _ (.int _ _)) rfl
  |bool b=>simp[pvCells]at hc;subst hc;exact one (.g _ _ (.bool _)) rfl
  |str s=>simp[pvCells]at hc;subst hc;exact one (.g _ _ (.str _)) rfl
  |nil=>simp[pvCells]at hc;subst hc;exact one (.g _ _ .nil) rfl
  |sl es a cap size f ha hcc hm hs hf hh=>simp[pvCells]at hc;subst hc;exact one (.g _ _ (.sl es a cap size f ha hcc hm hs hf hh)) rfl
 |own es id v t hg ht hs hl hv=>
  simp[pvCells]at hc;subst hc
  exact one (.own es id v t hg ht hs hl hv) (hg.oneCell (by simp) (by simp))
 |ptr b off blk hb=>simp[pvCells]at hc;subst hc;exact one (.ptr _ _ _ hb) rfl
 |nilp=>simp[pvCells]at hc;subst hc;exact one .nilp rfl
 |nils=>simp[pvCells]at hc;subst hc;exact one .nils rfl
 |pat cs a f ha hf hh=>simp[pvCells]at hc;subst hc;exact one (.pat cs a f ha hf hh) rfl
 |clo fn ps qs us vs hp hq h1 h2=>simp[pvCells]at hc;subst hc;exact one (.clo fn ps qs us vs hp hq h1 h2) rfl
 |agg gs vs hl h1 hh=>
  simp[pvCells]at hc;subst hc
  refine⟨hl,fun j q u hq hu=> ?_⟩
  simp only[Value.cells]at hu
  exact⟨hh j q u hq hu,h1 u (by rw[Array.mem_toList_iff];exact Array.mem_of_getElem? hu)⟩
 |tuple=>cases hc
 |lit es a h=>simp[pvCells]at hc;subst hc;exact one (.lit es a h) rfl
 |mar id n v t ht hn h1 hv=>simp[pvCells]at hc;subst hc;exact one (.mar id n v t ht hn h1 hv) h1
 |mref id n i off v t ht hn h1 hv=>simp[pvCells]at hc;subst hc;exact one (.mref id n i off v t ht hn h1 hv) rfl
 |mp id v t ht h1 hv=>simp[pvCells]at hc;subst hc;exact one (.mp id v t ht h1 hv) h1
 |glob g off=>simp[pvCells]at hc;subst hc;exact one (.glob g off) rfl
 |kv g off v h hs h1=>simp[pvCells]at hc;subst hc;exact one (.kv g off v h hs h1) h1
 |ifc t p v h=>simp[pvCells]at hc;subst hc;exact one (.ifc t p v h) rfl
 |vw id n off len cap g t ht hn h1 h2 hv=>simp[pvCells]at hc;subst hc;exact one (.vw id n off len cap g t ht hn h1 h2 hv) rfl
 |any=>cases hc
def allG:List PV→Option (List GV)
 |[]=>some []
 |p::r=>
  match p with
  | .g x=>(allG r).map (x:: ·)
  | .nils=>(allG r).map (.sl []:: ·)
  | .own es _=>(allG r).map (.sl es:: ·)
  | .lit es=>(allG r).map (.sl es:: ·)
  |_=>none
def pack:PV→PV
 | .own es _=> .g (.sl es)
 | .lit es=> .g (.sl es)
 | .nils=> .g (.sl [])
 | .agg cs=>match allG cs with|some gs=> .g (.agg gs)|none=> .agg cs
 |p=>p
theorem allG_ok{c:Ctx}: ∀{cs:List PV} {gs:List GV},allG cs=some gs→gs.length=cs.length∧ ∀(i:Nat) (g:GV) (p:PV),gs[i]? =some g→cs[i]? =some p→ ∀v,RV c p v→RG c.w c.stab g v
 |[],gs,h=>by simp[allG]at h;subst h;simp
 |p::r,gs,h=>by
  have key: ∀(x:GV),(∀v,RV c p v→RG c.w c.stab x v)→(allG r).map (x:: ·)=some gs→gs.length=(p::r).length∧ ∀(i:Nat) (g:GV) (q:PV),gs[i]? =some g→(p::r)[i]? =some q→ ∀v,RV c q v→RG c.w c.stab g v:=by
   intro x hx he
   simp only[Option.map_eq_some_iff]at he
   obtain⟨gs',hr,rfl⟩:=he
   obtain⟨h1,h2⟩:=allG_ok (c:=c) hr
   refine⟨by simpa using h1,fun i g q hg hq v hv=> ?_⟩
   cases i with
   |zero=>simp at hg hq;subst hg;subst hq;exact hx v hv
   |succ i=>exact h2 i g q (by simpa using hg) (by simpa using hq) v hv
  unfold allG at h
  split at h
  ·exact key _ (fun v hv=>by cases hv;assumption) h
  ·exact key _ (fun v hv=>by cases hv;exact .nil) h
  ·exact key _ (fun v hv=>by cases hv;assumption) h
  ·exact key _ (fun v hv=>by cases hv;assumption) h
  ·cases h
theorem pack_ok{c:Ctx}{p:PV}{v:Value}(h:RV c p v):RV c (pack p) v:=by
 unfold pack
 split
 ·cases h with|own es id v t hg=>exact .g _ _ hg
 ·cases h with|lit es a hg=>exact .g _ _ hg
 ·cases h;exact .g _ _ .nil
 ·rename_i cs
  split
  ·rename_i gs hgs
   cases h with
   |agg _ vs hl h1 hh=>
    obtain⟨e1,e2⟩:=allG_ok (c:=c) hgs
    refine .g _ _ (.agg _ _ (e1.trans hl) h1 fun i g u hg hu=> ?_)
    have hi:i<cs.length:=by rw[←e1];exact(List.getElem?_eq_some_iff.1 hg).1
    exact e2 i g _ hg (List.getElem?_eq_getElem hi) u (hh i _ u (List.getElem?_eq_getElem hi) hu)
  ·exact h
 ·exact h
/-! ### Operations that leave the world as it is -/
section
variable{P:Program}{o:Oper}{ρ:Operand→PV}{H:PH}
theorem PO_val{v:PV}(h: ∀(c:Ctx) (ρr:Operand→Value),Rel P c H→(∀x∈o.op.operands.toList,RV c (ρ x) (ρr x))→ ∃rv,(execOp ρr o).run P c.w= .ok (.value rv) c.w∧RV c v rv):PO P o ρ H v H:=by
 intro c ρr hr hx
 obtain⟨rv,h1,h2⟩:=h c ρr hr hx
 unfold OpGoes
 rw[h1]
 exact⟨c,rfl,hr,Evo.refl c,h2⟩
theorem PO_move{x:Operand}(ho:o.op= .move x):PO P o ρ H (ρ x) H:=
 PO_val fun c ρr hr hx=>⟨ρr x,by simp[execOp,ho],hx x (by simp[ho,Op.operands])⟩
theorem PO_assign{x:Operand}(ho:o.op= .assign x):PO P o ρ H (ρ x) H:=
 PO_val fun c ρr hr hx=>⟨ρr x,by simp[execOp,ho],hx x (by simp[ho,Op.operands])⟩
theorem RV_bool{c:Ctx}{b:Bool}{v:Value}(h:RV c (.g (.bool b)) v):v= .bool b:=by cases h with|g x v hg=>cases hg;rfl
theorem RV_int{c:Ctx}{k:IntKind}{n:Int}{v:Value}(h:RV c (.g (.int k n)) v):v= .int k n:=by cases h with|g x v hg=>cases hg;rfl
theorem RV_str{c:Ctx}{s:ByteArray}{v:Value}(h:RV c (.g (.str s)) v):v= .string s:=by cases h with|g x v hg=>cases hg;rfl
theorem RV_raw{c:Ctx}{u:Value}{v:Value}(h:RV c (.g (.raw u)) v):v=u:=by cases h with|g x v hg=>cases hg;rfl
theorem PO_pick{x y z:Operand}{b:Bool}(ho:o.op= .pick x y z)(hb:ρ x= .g (.bool b)):PO P o ρ H (if b then ρ y else ρ z) H:=
 PO_val fun c ρr hr hx=>by
  have h1:=hx x (by simp[ho,Op.operands])
  rw[hb]at h1
  refine⟨if b then ρr y else ρr z,by simp[execOp,ho,RV_bool h1,asBool], ?_⟩
  split
  ·exact hx y (by simp[ho,Op.operands])
  ·exact hx z (by simp[ho,Op.operands])
theorem PO_fieldAddr_ptr{s:TypeId}{x:Operand}{k b off d:Nat}{ft:TypeId}(ho:o.op= .fieldAddr s x k)(hf:fieldB P s k=some (d,ft))(hp:ρ x= .ptr b off):PO P o ρ H (.ptr b (off+d)) H:=
 PO_val fun c ρr hr hx=>by
  have h1:=hx x (by simp[ho,Op.operands])
  rw[hp]at h1
  generalize hv:ρr x=v at h1
  cases h1 with
  |ptr _ _ blk hb=>
   refine⟨.pointer (some ⟨blk,off+d,none⟩), ?_, .ptr _ _ _ hb⟩
   simp[execOp,ho,hv,run_fieldAt hf,add_eq]
theorem PO_fieldAddr_mref{s:TypeId}{x:Operand}{k id n i off d:Nat}{ft:TypeId}(ho:o.op= .fieldAddr s x k)(hf:fieldB P s k=some (d,ft))(hp:ρ x= .mref id n i off):PO P o ρ H (.mref id n i (off+d)) H:=
 PO_val fun c ρr hr hx=>by
  have h1:=hx x (by simp[ho,Op.operands])
  rw[hp]at h1
  generalize hv:ρr x=v at h1
  cases h1 with
  |mref _ _ _ _ a t ht hn hs hv'=>
   refine⟨.pointer (some (a.add d)),by simp[execOp,ho,hv,run_fieldAt hf], .mref id n i (off+d) _ t ht hn (add_spot a d hs) (fun e=> ?_)⟩
   rw[add_eq _ _ hs,hv' e]
   simp[Nat.add_assoc]
theorem PO_fieldAddr_pat{s:TypeId}{x:Operand}{k d:Nat}{ft:TypeId}{cs:List GV}(ho:o.op= .fieldAddr s x k)(hf:fieldB P s k=some (d,ft))(hp:ρ x= .pat cs):PO P o ρ H (.pat (cs.drop d)) H:=
 PO_val fun c ρr hr hx=>by
  have h1:=hx x (by simp[ho,Op.operands])
  rw[hp]at h1
  generalize hv:ρr x=v at h1
  cases h1 with
  |pat _ a f ha hf' hh=>
   refine⟨.pointer (some (a.add d)),by simp[execOp,ho,hv,run_fieldAt hf], .pat _ _ (fun j=>f (d+j)) (add_spot a d ha) (fun j hj=> ?_) (fun j g hg=>hh (d+j) g (by simpa using hg))⟩
   have h2:=hf' (d+j) (by simp at hj;omega)
   rw[add_eq a _ ha]at h2
   rw[add_eq _ _ (add_spot a d ha),add_block,add_off,Nat.add_assoc]
   exact h2
theorem loadCells_box{c:Ctx}(hr:Rel P c H){b blk:Nat}{cs:List PV}(hb:c.σ[b]? =some blk)(hc:H.bx[b]? =some cs):
  ∃vals:Array Value,vals.size=cs.length∧(∀j,j<vals.size→c.w.cell? ⟨blk,j,none⟩=some (vals.getD j undef))∧ ∀(j:Nat) (p:PV),cs[j]? =some p→RV c p (vals.getD j undef)∧(vals.getD j undef).oneCell'=true:=by
 obtain⟨vals,T,h1,h2,h3⟩:=hr.bx b blk cs hb hc
 refine⟨vals,h2,fun j hj=> ?_,fun j p hp=> ?_⟩
 ·simp[World.cell?,h1,Array.getD_eq_getD_getElem?,hj]
 ·have hj:j<vals.size:=by rw[h2];exact(List.getElem?_eq_some_iff.1 hp).1
  have:=h3 j p vals[j] hp (by simp[hj])
  simpa[Array.getD_eq_getD_getElem?,hj]using this
theorem run_loadVar_agg{w:World}{t:TypeId}{n:Nat}(h1:aggB P t=some true)(h2:szB P t=some n)(a:Addr)(f:Nat→Value)(hc: ∀j,j<n→w.cell? (a.add j)=some (f j)):
  (loadVar t a).run P w= .ok (.agg (((List.range n).map f).toArray)) w:=by
 simp only[loadVar,Sem.run_bind,run_isAgg h1,run_sizeOf h2,Result.andThen_ok,if_true]
 rw[run_loadCells w a n f hc]
 simp
theorem run_loadVar_one{w:World}{t:TypeId}(h1:aggB P t=some false)(a:Addr)(v:Value)(hc:w.cell? a=some v):(loadVar t a).run P w= .ok v w:=by
 simp[loadVar,run_isAgg h1,hc]
theorem PO_load_ptr_one{t:TypeId}{x:Operand}{b off:Nat}{cs:List PV}{v:PV}(ho:o.op= .load t x)(h1:aggB P t=some false)(hp:ρ x= .ptr b off)(hb:H.bx[b]? =some cs)(hv:cs[off]? =some v):PO P o ρ H v H:=
 PO_val fun c ρr hr hx=>by
  have hx1:=hx x (by simp[ho,Op.operands])
  rw[hp]at hx1
  generalize hrx:ρr x=u at hx1
  cases hx1 with
  |ptr _ _ blk hblk=>
   obtain⟨vals,e1,e2,e3⟩:=loadCells_box hr hblk hb
   refine⟨_, ?_,(e3 off v hv).1⟩
   have:=e2 off (by rw[e1];exact(List.getElem?_eq_some_iff.1 hv).1)
   simp[execOp,ho,hrx,Instr.loadAt,Instr.sureAddr,run_loadVar_one h1 _ _ this]
theorem PO_load_ptr_agg{t:TypeId}{x:Operand}{b off n:Nat}{cs:List PV}(ho:o.op= .load t x)(h1:aggB P t=some true)(h2:szB P t=some n)(hp:ρ x= .ptr b off)(hb:H.bx[b]? =some cs)(hn:off+n≤cs.length):
  PO P o ρ H (.agg ((cs.drop off).take n)) H:=
 PO_val fun c ρr hr hx=>by
  have hx1:=hx x (by simp[ho,Op.operands])
  rw[hp]at hx1
  generalize hrx:ρr x=u at hx1
  cases hx1 with
  |ptr _ _ blk hblk=>
   obtain⟨vals,e1,e2,e3⟩:=loadCells_box hr hblk hb
   have hl:=run_loadVar_agg (w:=c.w) h1 h2 ⟨blk,off,none⟩ (fun j=>vals.getD (off+j) undef) (fun j hj=>by rw[add_eq _ _ rfl];exact e2 (off+j) (by omega))
   refine⟨_,by simp only[execOp,ho,hrx,Instr.loadAt,Instr.sureAddr];simp[hl];rfl, ?_⟩
   refine .agg _ _ (by simp;omega) ?_ ?_
   ·intro v hv
    simp at hv
    obtain⟨j,hj,rfl⟩:=hv
    have:=(e3 (off+j) (cs[off+j]'(by omega)) (by simp)).2
    simpa[Array.getD_eq_getD_getElem?]using this
   ·intro i p v hi hv
    simp[List.getElem?_take]at hi hv
    obtain⟨hlt,hi⟩:=hi
    obtain⟨i',h0,rfl⟩:=hv
    obtain⟨h0,rfl⟩:=List.getElem?_eq_some_iff.1 h0
    rw[List.getElem_range]
    have:=(e3 (off+i) p hi).1
    simpa[Array.getD_eq_getD_getElem?]using this
theorem PO_load_pat_one{t:TypeId}{x:Operand}{cs:List GV}{g:GV}(ho:o.op= .load t x)(h1:aggB P t=some false)(hp:ρ x= .pat cs)(hv:cs[0]? =some g):PO P o ρ H (.g g) H:=
 PO_val fun c ρr hr hx=>by
  have hx1:=hx x (by simp[ho,Op.operands])
  rw[hp]at hx1
  generalize hrx:ρr x=u at hx1
  cases hx1 with
  |pat _ a f ha hf hh=>
   have h3:=(hf 0 (List.getElem?_eq_some_iff.1 hv).1).1
   rw[show a.add 0=a from rfl]at h3
   exact⟨f 0,by simp[execOp,ho,hrx,Instr.loadAt,Instr.sureAddr,run_loadVar_one h1 _ _ h3], .g _ _ (hh 0 g hv)⟩
theorem PO_load_pat_agg{t:TypeId}{x:Operand}{n:Nat}{cs:List GV}(ho:o.op= .load t x)(h1:aggB P t=some true)(h2:szB P t=some n)(hp:ρ x= .pat cs)(hn:n≤cs.length):
  PO P o ρ H (.g (.agg (cs.take n))) H:=
 PO_val fun c ρr hr hx=>by
  have hx1:=hx x (by simp[ho,Op.operands])
  rw[hp]at hx1
  generalize hrx:ρr x=u at hx1
  cases hx1 with
  |pat _ a f ha hf hh=>
   have hl:=run_loadVar_agg (w:=c.w) h1 h2 a f (fun j hj=>(hf j (by omega)).1)
   refine⟨_,by simp only[execOp,ho,hrx,Instr.loadAt,Instr.sureAddr];simp[hl];rfl, .g _ _ (.agg _ _ (by simp;omega) ?_ ?_)⟩
   ·intro v hv
    simp at hv
    obtain⟨j,hj,rfl⟩:=hv
    exact(hf j (by omega)).2.2
   ·intro i g v hi hv
    simp[List.getElem?_take]at hi hv
    obtain⟨i',h0,rfl⟩:=hv
    obtain⟨h0,rfl⟩:=List.getElem?_eq_some_iff.1 h0
    rw[List.getElem_range]
    exact hh i g hi.2
end
structure Ext(w w':World):Prop where
 os:w'.os=w.os
 tape:w'.tape=w.tape∧(gdrawn→w.drawn≤w'.drawn)
 output:w'.output=w.output
 size:w.heap.size≤w'.heap.size
 old: ∀b,b<w.heap.size→w'.heap[b]? =w.heap[b]?
theorem Ext.refl(w:World):Ext w w:=⟨rfl,⟨rfl,fun _=>Nat.le_refl _⟩,rfl,Nat.le_refl _,fun _ _=>rfl⟩
theorem Ext.drew(w:World):Ext w w.drew:=⟨rfl,⟨rfl,fun _=>Nat.le_succ _⟩,rfl,Nat.le_refl _,fun _ _=>rfl⟩
theorem Ext.alloc(w:World)(o:Obj):Ext w (w.alloc o):=⟨rfl,⟨rfl,fun _=>Nat.le_refl _⟩,rfl,by simp,fun b hb=>by first|exact Go.heap_alloc_old w o b hb|exact Go.heap_alloc_old w o hb⟩
theorem Ext.trans{a b c:World}(h:Ext a b)(k:Ext b c):Ext a c:=
 ⟨k.os.trans h.os,⟨k.tape.1.trans h.tape.1,fun g=>Nat.le_trans (h.tape.2 g) (k.tape.2 g)⟩,k.output.trans h.output,Nat.le_trans h.size k.size,fun x hx=>(k.old x (Nat.lt_of_lt_of_le hx h.size)).trans (h.old x hx)⟩
theorem Ext.cell{w w':World}(h:Ext w w'){a:Addr}{v:Value}(hc:w.cell? a=some v):w'.cell? a=some v:=
 (World.cell?_of_block (h.old a.block (World.block_lt_of_cell? w a hc))).trans hc
theorem evo_ext{c:Ctx}{w':World}(h:Ext c.w w')(n:List Nat)(m:List Tok)(q:List MTok)(hn: ∀b∈n,c.w.heap.size≤b)(hm: ∀t∈m,t.live=true→c.w.heap.size≤t.g)(hq: ∀t∈q,t.live=true→c.w.heap.size≤t.g):
  Evo c ⟨c.σ++n,c.τ++m,c.μ++q,c.hid,w'⟩:=by
 refine⟨h.os,h.tape,h.output,h.size,rfl,⟨n,rfl,hn⟩,fun id t ht=>⟨t, ?_,rfl,rfl, .inl rfl⟩,fun id t ht=>⟨t, ?_,rfl, .inl rfl⟩,fun t ht lv=> ?_,fun t ht lv=> ?_,fun a v ha hs hc=> ?_,fun b hb _ _ _=>h.old b hb⟩
 ·show(c.τ++m)[id]? =some t
  rw[List.getElem?_append_left (List.getElem?_eq_some_iff.1 ht).1];exact ht
 ·show(c.μ++q)[id]? =some t
  rw[List.getElem?_append_left (List.getElem?_eq_some_iff.1 ht).1];exact ht
 ·rcases List.mem_append.1 ht with ht|ht
  ·exact .inl ⟨t,ht,lv,rfl⟩
  ·exact .inr (hq t ht lv)
 ·rcases List.mem_append.1 ht with ht|ht
  ·exact .inl ⟨t,ht,lv,rfl⟩
  ·exact .inr (hm t ht lv)
 ·have hlt:=World.block_lt_of_cell? c.w a hc
  refine⟨h.cell hc,hs.1,fun hmem=> ?_,fun t ht lv e=> ?_,fun t ht lv e=> ?_⟩
  ·rcases List.mem_append.1 hmem with hmem|hmem
   ·exact hs.2.1 hmem
   ·have:=hn _ hmem;omega
  ·rcases List.mem_append.1 ht with ht|ht
   ·exact hs.2.2.1 t ht lv e
   ·have:=hm t ht lv;omega
  ·rcases List.mem_append.1 ht with ht|ht
   ·exact hs.2.2.2 t ht lv e
   ·have:=hq t ht lv;omega
section
variable{P:Program}{c:Ctx}{H:PH}
theorem Rel.tlt(hr:Rel P c H){t:Tok}(ht:t∈c.τ)(lv:t.live=true):t.g<c.w.heap.size:=by
 obtain⟨cur,h,_⟩:=hr.tb t ht lv
 exact(Array.getElem?_eq_some_iff.1 h).1
theorem Rel.ext(hr:Rel P c H){w':World}(h:Ext c.w w')(n:List (Nat×List PV))(m:List Tok)(q:List (MTok×MO))
  (hn: ∀x∈n,c.w.heap.size≤x.1∧x.1<w'.heap.size∧ ∃(vals:Array Value) (T:TypeId),w'.heap[x.1]? =some (.cells vals T (0,0))∧vals.size=x.2.length∧
   ∀(j:Nat) (p:PV) (v:Value),x.2[j]? =some p→vals[j]? =some v→RV ⟨c.σ++n.map (·.1),c.τ++m,c.μ++q.map (·.1),c.hid,w'⟩ p v∧v.oneCell'=true)
  (hnd:(n.map (·.1)).Nodup) (hmd: ∀(i j:Nat) (t t':Tok),m[i]? =some t→m[j]? =some t'→t.live=true→t'.live=true→t.g=t'.g→i=j) (hmz: ∀t∈m,t.live=false→t.hw=0∧(P.info? t.e).map (·.size)=some t.size)
  (hm: ∀t∈m,t.live=true→c.w.heap.size≤t.g∧t.g∉n.map (·.1)∧ ∃cur,w'.heap[t.g]? =some (.cells cur t.e (0,0))∧cur.size=t.cap *t.size∧t.hw≤t.cap∧t.cap≤maxLen∧(P.info? t.e).map (·.size)=some t.size)
  (hq: ∀x∈q,MOk P ⟨c.σ++n.map (·.1),c.τ++m,c.μ++q.map (·.1),c.hid,w'⟩ x.1 x.2) (hql: ∀x∈q,x.1.live=true→c.w.heap.size≤x.1.g∧x.1.g<w'.heap.size∧x.1.g∉n.map (·.1)∧ ∀t∈m,t.live=true→x.1.g≠t.g)
  (hqd: ∀(i j:Nat) (t t':MTok),(q.map (·.1))[i]? =some t→(q.map (·.1))[j]? =some t'→t.live=true→t'.live=true→t.g=t'.g→i=j):
  Rel P ⟨c.σ++n.map (·.1),c.τ++m,c.μ++q.map (·.1),c.hid,w'⟩ ⟨H.bx++n.map (·.2),H.tk++m.map (fun t=>(t.e,t.hw)),H.mu++q.map (·.2)⟩:=by
 have hE:=evo_ext h (n.map (·.1)) m (q.map (·.1)) (fun b hb=>by obtain⟨x,hx,rfl⟩:=List.mem_map.1 hb;exact(hn x hx).1) (fun t ht lv=>(hm t ht lv).1) (fun t ht lv=>by obtain⟨x,hx,rfl⟩:=List.mem_map.1 ht;exact(hql x hx lv).1)
 have slt: ∀b∈c.σ,b<c.w.heap.size:=hr.shid
 refine⟨by simp[hr.len], ?_,by simp[hr.tk], ?_, ?_, ?_, ?_, ?_, ?_, ?_, ?_,by simp[hr.mlen], ?_, ?_, ?_, ?_, ?_, ?_,hr.gl.keep hE.keep⟩
 ·intro i b cs hb hcs
  simp only at hb hcs
  by_cases hi:i<c.σ.length
  ·rw[List.getElem?_append_left hi]at hb
   rw[List.getElem?_append_left (by rw[←hr.len];exact hi)]at hcs
   obtain⟨vals,T,h1,h2,h3⟩:=hr.bx i b cs hb hcs
   refine⟨vals,T, ?_,h2,fun j p v hp hv=>⟨(h3 j p v hp hv).1.mono hE,(h3 j p v hp hv).2⟩⟩
   rw[←h1]
   exact h.old b (slt b (List.mem_of_getElem? hb))
  ·rw[List.getElem?_append_right (by omega)]at hb
   rw[List.getElem?_append_right (by rw[←hr.len];omega),←hr.len]at hcs
   rw[List.getElem?_map,Option.map_eq_some_iff]at hb hcs
   obtain⟨x,hx,rfl⟩:=hb
   obtain⟨y,hy,rfl⟩:=hcs
   rw[hx]at hy
   cases hy
   obtain⟨_,_,vals,T,h1,h2,h3⟩:=hn x (List.mem_of_getElem? hx)
   exact⟨vals,T,h1,h2,h3⟩
 ·intro t ht lv
  rcases List.mem_append.1 ht with ht|ht
  ·obtain⟨cur,h1,h2⟩:=hr.tb t ht lv
   exact⟨cur,by rw[←h1];exact h.old t.g (hr.tlt ht lv),h2⟩
  ·exact(hm t ht lv).2.2
 ·refine List.nodup_append.2 ⟨hr.nd,hnd,fun a ha b hb e=> ?_⟩
  obtain⟨x,hx,rfl⟩:=List.mem_map.1 hb
  have:=slt a ha
  have:=(hn x hx).1
  omega
 ·intro i j t t' hi hj lv lv' e
  replace hi:(c.τ++m)[i]? =some t:=hi
  replace hj:(c.τ++m)[j]? =some t':=hj
  by_cases h1:i<c.τ.length<;>by_cases h2:j<c.τ.length
  ·rw[List.getElem?_append_left h1]at hi
   rw[List.getElem?_append_left h2]at hj
   exact hr.td i j t t' hi hj lv lv' e
  ·rw[List.getElem?_append_left h1]at hi
   rw[List.getElem?_append_right (by omega)]at hj
   have:=hr.tlt (List.mem_of_getElem? hi) lv
   have:=(hm t' (List.mem_of_getElem? hj) lv').1
   omega
  ·rw[List.getElem?_append_right (by omega)]at hi
   rw[List.getElem?_append_left h2]at hj
   have:=hr.tlt (List.mem_of_getElem? hj) lv'
   have:=(hm t (List.mem_of_getElem? hi) lv).1
   omega
  ·rw[List.getElem?_append_right (by omega)]at hi hj
   have:=hmd _ _ t t' hi hj lv lv' e
   omega
 ·intro t ht lv hmem
  simp only at ht hmem
  rcases List.mem_append.1 ht with ht|ht
  ·rcases List.mem_append.1 hmem with hmem|hmem
   ·exact hr.st t ht lv hmem
   ·obtain⟨x,hx,e⟩:=List.mem_map.1 hmem
    have:=hr.tlt ht lv
    have:=(hn x hx).1
    omega
  ·rcases List.mem_append.1 hmem with hmem|hmem
   ·have:=slt _ hmem
    have:=(hm t ht lv).1
    omega
   ·exact(hm t ht lv).2.1 hmem
 ·exact fun b p hb=>Nat.lt_of_lt_of_le (hr.hidlt b p hb) h.size
 ·intro t ht lv p hp
  rcases List.mem_append.1 ht with ht|ht
  ·exact hr.thid t ht lv p hp
  ·have:=hr.hidlt _ _ hp
   have:=(hm t ht lv).1
   omega
 ·intro b hb
  rcases List.mem_append.1 hb with hb|hb
  ·exact Nat.lt_of_lt_of_le (slt b hb) h.size
  ·obtain⟨x,hx,rfl⟩:=List.mem_map.1 hb
   exact(hn x hx).2.1
 ·intro t ht lv
  rcases List.mem_append.1 ht with ht|ht
  ·exact hr.dead t ht lv
  ·exact hmz t ht lv
 ·intro i t o hi ho
  simp only at hi ho
  by_cases h1:i<c.μ.length
  ·rw[List.getElem?_append_left h1]at hi
   rw[List.getElem?_append_left (by rw[←hr.mlen];exact h1)]at ho
   exact(hr.mu i t o hi ho).mono hE fun lv=>h.old _ (hr.mlt t (List.mem_of_getElem? hi) lv)
  ·rw[List.getElem?_append_right (by omega)]at hi
   rw[List.getElem?_append_right (by rw[←hr.mlen];omega),←hr.mlen]at ho
   rw[List.getElem?_map,Option.map_eq_some_iff]at hi ho
   obtain⟨x,hx,rfl⟩:=hi
   obtain⟨y,hy,rfl⟩:=ho
   rw[hx]at hy
   cases hy
   exact hq x (List.mem_of_getElem? hx)
 ·intro t ht lv
  rcases List.mem_append.1 ht with ht|ht
  ·exact Nat.lt_of_lt_of_le (hr.mlt t ht lv) h.size
  ·obtain⟨x,hx,rfl⟩:=List.mem_map.1 ht
   exact(hql x hx lv).2.1
 ·intro i j t t' hi hj lv lv' e
  replace hi:(c.μ++q.map (·.1))[i]? =some t:=hi
  replace hj:(c.μ++q.map (·.1))[j]? =some t':=hj
  have qlt: ∀t∈q.map (·.1),t.live=true→c.w.heap.size≤t.g:=fun t ht lv=>by obtain⟨x,hx,rfl⟩:=List.mem_map.1 ht;exact(hql x hx lv).1
  by_cases h1:i<c.μ.length<;>by_cases h2:j<c.μ.length
  ·rw[List.getElem?_append_left h1]at hi
   rw[List.getElem?_append_left h2]at hj
   exact hr.md i j t t' hi hj lv lv' e
  ·rw[List.getElem?_append_left h1]at hi
   rw[List.getElem?_append_right (by omega)]at hj
   have:=hr.mlt t (List.mem_of_getElem? hi) lv
   have:=qlt t' (List.mem_of_getElem? hj) lv'
   omega
  ·rw[List.getElem?_append_right (by omega)]at hi
   rw[List.getElem?_append_left h2]at hj
   have:=hr.mlt t' (List.mem_of_getElem? hj) lv'
   have:=qlt t (List.mem_of_getElem? hi) lv
   omega
  ·rw[List.getElem?_append_right (by omega)]at hi hj
   have:=hqd _ _ t t' hi hj lv lv' e
   omega
 ·intro t ht lv hmem
  simp only at ht hmem
  rcases List.mem_append.1 ht with ht|ht
  ·rcases List.mem_append.1 hmem with hmem|hmem
   ·exact hr.ms t ht lv hmem
   ·obtain⟨x,hx,e⟩:=List.mem_map.1 hmem
    have:=hr.mlt t ht lv
    have:=(hn x hx).1
    omega
  ·obtain⟨y,hy,rfl⟩:=List.mem_map.1 ht
   rcases List.mem_append.1 hmem with hmem|hmem
   ·have:=slt _ hmem
    have:=(hql y hy lv).1
    omega
   ·exact(hql y hy lv).2.2.1 hmem
 ·intro t ht lv t' ht' lv' e
  simp only at ht ht'
  rcases List.mem_append.1 ht with ht|ht
  ·rcases List.mem_append.1 ht' with ht'|ht'
   ·exact hr.mt t ht lv t' ht' lv' e
   ·have:=hr.mlt t ht lv
    have:=(hm t' ht' lv').1
    omega
  ·obtain⟨y,hy,rfl⟩:=List.mem_map.1 ht
   rcases List.mem_append.1 ht' with ht'|ht'
   ·have:=hr.tlt ht' lv'
    have:=(hql y hy lv).1
    omega
   ·exact(hql y hy lv).2.2.2 t' ht' lv' e
 ·intro t ht lv p hp
  rcases List.mem_append.1 ht with ht|ht
  ·exact hr.mhid t ht lv p hp
  ·obtain⟨y,hy,rfl⟩:=List.mem_map.1 ht
   have:=hr.hidlt _ _ hp
   have:=(hql y hy lv).1
   omega
theorem Rel.grow(hr:Rel P c H){w':World}(h:Ext c.w w'):Rel P ⟨c.σ,c.τ,c.μ,c.hid,w'⟩ H∧Evo c ⟨c.σ,c.τ,c.μ,c.hid,w'⟩:=by
 have h1:=hr.ext h [] [] [] (by simp) (by simp) (by simp) (by simp) (by simp) (by simp) (by simp) (by simp)
 have h2:=evo_ext h [] [] [] (by simp) (by simp) (by simp)
 simpa using And.intro h1 h2
theorem Rel.addBox(hr:Rel P c H){w':World}(h:Ext c.w w'){blk:Nat}(h1:c.w.heap.size≤blk)(h2:blk<w'.heap.size){vals:Array Value}{T:TypeId}{cs:List PV}
  (hb:w'.heap[blk]? =some (.cells vals T (0,0))) (hl:vals.size=cs.length)
  (hv: ∀(j:Nat) (p:PV) (v:Value),cs[j]? =some p→vals[j]? =some v→RV c p v∧v.oneCell'=true):
  Rel P ⟨c.σ++[blk],c.τ,c.μ,c.hid,w'⟩ ⟨H.bx++[cs],H.tk,H.mu⟩∧Evo c ⟨c.σ++[blk],c.τ,c.μ,c.hid,w'⟩:=by
 have e2:=evo_ext h [blk] [] [] (by simpa using h1) (by simp) (by simp)
 simp only[List.append_nil]at e2
 have e1:=hr.ext h [(blk,cs)] [] [] (by
  intro x hx
  simp at hx
  subst hx
  refine⟨h1,h2,vals,T,hb,hl,fun j p v hp hv'=>⟨?_,(hv j p v hp hv').2⟩⟩
  simpa using(hv j p v hp hv').1.mono e2) (by simp) (by simp) (by simp) (by simp) (by simp) (by simp) (by simp)
 simp only[List.map_cons,List.map_nil,List.append_nil]at e1
 exact⟨e1,e2⟩
theorem Rel.addTok(hr:Rel P c H){w':World}(h:Ext c.w w'){t:Tok}(lv:t.live=true)(h1:c.w.heap.size≤t.g){cur:Array Value}
  (hb:w'.heap[t.g]? =some (.cells cur t.e (0,0))) (hl:cur.size=t.cap *t.size) (hc:t.hw≤t.cap) (hm:t.cap≤maxLen) (hz:szB P t.e=some t.size):
  Rel P ⟨c.σ,c.τ++[t],c.μ,c.hid,w'⟩ ⟨H.bx,H.tk++[(t.e,t.hw)],H.mu⟩∧Evo c ⟨c.σ,c.τ++[t],c.μ,c.hid,w'⟩:=by
 have e2:=evo_ext h [] [t] [] (by simp) (by simp[h1]) (by simp)
 simp only[List.append_nil]at e2
 have e1:=hr.ext h [] [t] [] (by simp) (by simp) (by
  intro i j t1 t2 h1 h2
  have:=(List.getElem?_eq_some_iff.1 h1).1
  have:=(List.getElem?_eq_some_iff.1 h2).1
  simp at *
  omega) (by simp[lv]) (by
  intro t' ht' _
  simp at ht'
  subst ht'
  exact⟨h1,by simp,cur,hb,hl,hc,hm,hz⟩) (by simp) (by simp) (by simp)
 simp only[List.map_cons,List.map_nil,List.append_nil]at e1
 exact⟨e1,e2⟩
theorem Rel.addMu(hr:Rel P c H){w':World}(h:Ext c.w w'){t:MTok}{o:MO}(h1:t.live=true→c.w.heap.size≤t.g∧t.g<w'.heap.size)
  (ho:MOk P ⟨c.σ,c.τ,c.μ++[t],c.hid,w'⟩ t o):
  Rel P ⟨c.σ,c.τ,c.μ++[t],c.hid,w'⟩ ⟨H.bx,H.tk,H.mu++[o]⟩∧Evo c ⟨c.σ,c.τ,c.μ++[t],c.hid,w'⟩:=by
 have e2:=evo_ext h [] [] [t] (by simp) (by simp) (by simpa using fun lv=>(h1 lv).1)
 simp only[List.append_nil]at e2
 have e1:=hr.ext h [] [] [(t,o)] (by simp) (by simp) (by simp) (by simp) (by simp) (by
  intro x hx
  simp at hx
  subst hx
  simpa using ho) (by
  intro x hx lv
  simp at hx
  subst hx
  exact⟨(h1 lv).1,(h1 lv).2,by simp,by simp⟩) (by
  intro i j t1 t2 h1 h2
  have:=(List.getElem?_eq_some_iff.1 h1).1
  have:=(List.getElem?_eq_some_iff.1 h2).1
  simp at *
  omega)
 simp only[List.map_cons,List.map_nil,List.append_nil]at e1
 exact⟨e1,e2⟩
theorem Rel.setBox(hr:Rel P c H){b blk:Nat}{cs cs':List PV}(hb:c.σ[b]? =some blk)(hc:H.bx[b]? =some cs){old new:Array Value}{T:TypeId}
  (ho:c.w.heap[blk]? =some (.cells old T (0,0))) (hl:new.size=cs'.length)
  (hv: ∀(j:Nat) (p:PV) (v:Value),cs'[j]? =some p→new[j]? =some v→RV c p v∧v.oneCell'=true):
  Rel P ⟨c.σ,c.τ,c.μ,c.hid,c.w.setRow blk new⟩ ⟨H.bx.set b cs',H.tk,H.mu⟩∧Evo c ⟨c.σ,c.τ,c.μ,c.hid,c.w.setRow blk new⟩:=by
 have hmem:blk∈c.σ:=List.mem_of_getElem? hb
 have hother: ∀k,k≠blk→(c.w.setRow blk new).heap[k]? =c.w.heap[k]? :=fun k hk=>setRow_other c.w blk k new hk
 have hE:Evo c ⟨c.σ,c.τ,c.μ,c.hid,c.w.setRow blk new⟩:=by
  refine⟨rfl,⟨rfl,fun _=>Nat.le_refl _⟩,rfl,by simp,rfl,⟨[],by simp,by simp⟩,fun id t ht=>⟨t,ht,rfl,rfl, .inl rfl⟩,fun id t ht=>⟨t,ht,rfl, .inl rfl⟩,fun t ht lv=> .inl ⟨t,ht,lv,rfl⟩,fun t ht lv=> .inl ⟨t,ht,lv,rfl⟩,fun a v ha hs hcell=>⟨?_,hs⟩,fun k _ hk _ _=>hother k (fun e=>hk (e▸hmem))⟩
  rw[←hcell]
  exact World.cell?_of_block (hother a.block (fun e=>hs.2.1 (e▸hmem)))
 refine⟨⟨by simp[hr.len], ?_,hr.tk, ?_,hr.nd,hr.td,hr.st,fun x p hx=>by simpa using hr.hidlt x p hx,hr.thid,fun x hx=>by simpa using hr.shid x hx,hr.dead,hr.mlen, ?_,fun t ht lv=>by simpa using hr.mlt t ht lv,hr.md,hr.ms,hr.mt,hr.mhid,hr.gl.keep hE.keep⟩,hE⟩
 ·intro i b' ds hb' hds
  simp only at hb' hds
  by_cases hi:i=b
  ·subst hi
   rw[hb]at hb'
   cases hb'
   rw[List.getElem?_set_self (List.getElem?_eq_some_iff.1 hc).1]at hds
   cases hds
   exact⟨new,T,setRow_heap c.w blk old new T (0,0) ho,hl,fun j p v hp hv'=>⟨(hv j p v hp hv').1.mono hE,(hv j p v hp hv').2⟩⟩
  ·rw[List.getElem?_set_ne (fun e=>hi e.symm)]at hds
   obtain⟨vals,T',h1,h2,h3⟩:=hr.bx i b' ds hb' hds
   have hne:b'≠blk:=by
    intro e
    subst e
    obtain⟨l1,e1⟩:=List.getElem?_eq_some_iff.1 hb
    obtain⟨l2,e2⟩:=List.getElem?_eq_some_iff.1 hb'
    exact hi ((List.getElem_inj hr.nd).1 (e2.trans e1.symm))
   exact⟨vals,T',by rw[←h1];exact hother b' hne,h2,fun j p v hp hv'=>⟨(h3 j p v hp hv').1.mono hE,(h3 j p v hp hv').2⟩⟩
 ·intro t ht lv
  obtain⟨cur,h1,h2⟩:=hr.tb t ht lv
  exact⟨cur,by rw[←h1];exact hother t.g (fun e=>hr.st t ht lv (e▸hmem)),h2⟩
 ·intro i t o hi ho
  exact(hr.mu i t o hi ho).mono hE fun lv=>hother t.g (fun e=>hr.ms t (List.mem_of_getElem? hi) lv (e▸hmem))
end
section
variable{P:Program}{o:Oper}{ρ:Operand→PV}{H:PH}
theorem PO_alloc{t:TypeId}{z:Value}(ho:o.op= .alloc t)(hz:zeroB P t=some z)(h1:z.cells.toList.all (·.oneCell')=true):
  PO P o ρ H (.ptr H.bx.length 0) ⟨H.bx++[z.cells.toList.map constC],H.tk,H.mu⟩:=by
 intro c ρr hr hx
 have hrun:(execOp ρr o).run P c.w= .ok (.value (.pointer (some ⟨c.w.heap.size,0,none⟩))) (c.w.alloc (.cells z.cells t)):=by
  simp[execOp,ho,Instr.alloc,run_zero hz,newVar,newRow,newObj,Sem.run]
 unfold OpGoes
 rw[hrun]
 have:=hr.addBox (Ext.alloc c.w (.cells z.cells t)) (Nat.le_refl _) (by simp) (cs:=z.cells.toList.map constC) (Go.heap_alloc_new c.w _) (by simp) (by
  intro j p v hp hv
  simp only[List.getElem?_map,Option.map_eq_some_iff]at hp
  obtain⟨u,hu,rfl⟩:=hp
  rw[Array.getElem?_toList,hv]at hu
  cases hu
  exact⟨constC_ok _ _,List.all_eq_true.1 h1 v (by rw[Array.mem_toList_iff];exact Array.mem_of_getElem? hv)⟩)
 exact⟨_,rfl,this.1,this.2, .ptr _ _ _ (by simp[←hr.len])⟩
theorem PO_box{t:TypeId}{x:Operand}{cs:List PV}(ho:o.op= .box t x)(hc:pvCells (ρ x)=some cs):
  PO P o ρ H (.ptr H.bx.length 0) ⟨H.bx++[cs],H.tk,H.mu⟩:=by
 intro c ρr hr hx
 have hv:=hx x (by simp[ho,Op.operands])
 have hrun:(execOp ρr o).run P c.w= .ok (.value (.pointer (some ⟨c.w.heap.size,0,none⟩))) (c.w.alloc (.cells (ρr x).cells t)):=by
  simp[execOp,ho,Instr.box,newVar,newRow,newObj,Sem.run]
 unfold OpGoes
 rw[hrun]
 obtain⟨e1,e2⟩:=pvCells_ok hv hc
 have:=hr.addBox (Ext.alloc c.w (.cells (ρr x).cells t)) (Nat.le_refl _) (by simp) (cs:=cs) (Go.heap_alloc_new c.w _) e1.symm e2
 exact⟨_,rfl,this.1,this.2, .ptr _ _ _ (by simp[←hr.len])⟩
def splice(ds:List PV)(off:Nat)(cs:List PV):List PV:=ds.take off++cs++ds.drop (off+cs.length)
theorem PO_store{t:TypeId}{x y:Operand}{b off n:Nat}{cs ds:List PV}(ho:o.op= .store t x y)(hs:szB P t=some n)(hp:ρ x= .ptr b off)(hc:pvCells (ρ y)=some cs)(hn:cs.length=n)
  (hb:H.bx[b]? =some ds) (hl:off+n≤ds.length):PO P o ρ H undefP ⟨H.bx.set b (splice ds off cs),H.tk,H.mu⟩:=by
 intro c ρr hr hx
 have hx1:=hx x (by simp[ho,Op.operands])
 have hy1:=hx y (by simp[ho,Op.operands])
 rw[hp]at hx1
 generalize hrx:ρr x=u at hx1
 cases hx1 with
 |ptr _ _ blk hblk=>
  obtain⟨vals,T,e1,e2,e3⟩:=hr.bx b blk ds hblk hb
  obtain⟨f1,f2⟩:=pvCells_ok hy1 hc
  have hone: ∀v∈(ρr y).cells.toList,v.oneCell'=true:=by
   intro v hv
   obtain⟨j,hj,rfl⟩:=List.mem_iff_getElem.1 hv
   have hj':j<cs.length:=by rw[f1];simpa using hj
   exact(f2 j cs[j] _ (List.getElem?_eq_getElem hj') (by simp)).2
  have hst:=run_storeCells_at P blk off T (ρr y).cells.toList 0 vals c.w e1 (by simp<;>omega) hone
  have hrun:(execOp ρr o).run P c.w= .ok .skip (c.w.setRow blk (vals.toList.take off++(ρr y).cells.toList++vals.toList.drop (off+(ρr y).cells.size)).toArray):=by
   simp only[Nat.add_zero]at hst
   simp[execOp,ho,hrx,Instr.storeAt,Instr.sureAddr,storeVar,run_sizeOf hs,←f1,hn,hst]
  unfold OpGoes
  rw[hrun]
  have hlen:(vals.toList.take off++(ρr y).cells.toList++vals.toList.drop (off+(ρr y).cells.size)).toArray.size=(splice ds off cs).length:=by
   simp[splice,f1]<;>omega
  have:=hr.setBox hblk hb e1 (cs':=splice ds off cs) hlen (by
   intro j p v hp' hv
   unfold splice at hp'
   simp only[List.getElem?_toArray]at hv
   by_cases h1:j<off
   ·rw[List.append_assoc,List.getElem?_append_left (by simp;omega)]at hp' hv
    simp only[List.getElem?_take,h1,if_true]at hp' hv
    exact e3 j p v hp' (by simpa using hv)
   ·by_cases h2:j<off+cs.length
    ·rw[List.append_assoc,List.getElem?_append_right (by simp;omega),List.getElem?_append_left (by simp;omega)]at hp' hv
     have l1:(List.take off ds).length=off:=by simp;omega
     have l2:(List.take off vals.toList).length=off:=by simp;omega
     rw[l1]at hp'
     rw[l2]at hv
     exact f2 (j-off) p v hp' (by simpa using hv)
    ·rw[List.getElem?_append_right (by simp;omega)]at hp' hv
     have l1:(List.take off ds++cs).length=off+cs.length:=by simp;omega
     have l2:(List.take off vals.toList++(ρr y).cells.toList).length=off+cs.length:=by simp[f1];omega
     rw[l1,List.getElem?_drop]at hp'
     rw[l2,List.getElem?_drop]at hv
     rw[←f1]at hv
     have e:off+cs.length+(j-(off+cs.length))=j:=by omega
     rw[e]at hp' hv
     exact e3 j p v hp' (by simpa using hv))
  exact⟨_,rfl,this.1,this.2, .g _ _ (.raw _)⟩
/-! ### Calls -/
def enterB(P:Program)(f:FuncId):Bool:=match P.funcs[f]? with|some fn=> !(fn.name== "runtime.NumGoroutine")&&fn.body.isSome|none=>false
theorem run_callFunc{f:FuncId}(h:enterB P f=true)(args:Array Value)(w:World):(callFunc f args).run P w= .ok (.enter f args) w:=by
 unfold enterB at h
 cases hf:P.funcs[f]? with
 |none=>rw[hf]at h;cases h
 |some fn=>
  rw[hf]at h
  simp only[Bool.and_eq_true,Bool.not_eq_true']at h
  obtain⟨h1,h2⟩:=h
  have h3:fn.body.isNone=false:=by cases hb:fn.body<;>simp_all
  simp only[callFunc,program,Sem.run_bind,Sem.run,Result.andThen_ok,hf]
  simp[h1,h3]
def Ctx.close(c:Ctx):Ctx:=⟨[],[],[],⟨fun b p=>c.hid b p∨b∈c.σ∨(∃t∈c.τ,t.live=true∧t.g=b∧ ¬p<t.hw *t.size)∨ ∃t∈c.μ,t.live=true∧t.g=b,c.hid.d⟩,c.w⟩
theorem close_stab(c:Ctx)(b p:Nat):c.close.stab b p↔c.stab b p:=by
 unfold Ctx.stab Ctx.close
 constructor
 ·rintro⟨h,_,_⟩
  refine⟨fun x=>h (.inl x),fun x=>h (.inr (.inl x)),fun t ht lv e=> ?_,fun t ht lv e=>h (.inr (.inr (.inr ⟨t,ht,lv,e⟩)))⟩
  exact Classical.byContradiction fun hn=>h (.inr (.inr (.inl ⟨t,ht,lv,e,hn⟩)))
 ·rintro⟨h1,h2,h3,h4⟩
  refine⟨?_,by simp,by simp,by simp⟩
  rintro(h|h|⟨t,ht,lv,e,hn⟩|⟨t,ht,lv,e⟩)
  ·exact h1 h
  ·exact h2 h
  ·exact hn (h3 t ht lv e)
  ·exact h4 t ht lv e
theorem close_stab_eq(c:Ctx):c.close.stab=c.stab:=funext fun b=>funext fun p=>propext (close_stab c b p)
theorem close_rel{c:Ctx}(hr:Rel P c H):Rel P c.close ⟨[],[],[]⟩:=by
 refine⟨rfl,by simp[Ctx.close],rfl,by simp[Ctx.close],by simp[Ctx.close],by simp[Ctx.close],by simp[Ctx.close], ?_,by simp[Ctx.close],by simp[Ctx.close],by simp[Ctx.close],rfl,by simp[Ctx.close],by simp[Ctx.close],by simp[Ctx.close],by simp[Ctx.close],by simp[Ctx.close],by simp[Ctx.close],hr.gl.of_stab rfl fun b p h=>by rw[close_stab_eq];exact h⟩
 intro b p h
 rcases h with h|h|⟨t,ht,lv,e,_⟩|⟨t,ht,lv,e⟩
 ·exact hr.hidlt b p h
 ·exact hr.shid b h
 ·exact e▸hr.tlt ht lv
 ·exact e▸hr.mlt t ht lv
def closedV:PV→Prop
 | .g _=>True
 | .tuple cs=> ∀p∈cs,∃x,p= .g x
 |_=>False
theorem close_back{c c':Ctx}(hr:Rel P c H)(hr':Rel P c' ⟨[],[],[]⟩)(hE:Evo c.close c'):
  Rel P ⟨c.σ,c.τ,c.μ,c.hid,c'.w⟩ H∧Evo c ⟨c.σ,c.τ,c.μ,c.hid,c'.w⟩∧ ∀p v,closedV p→RV c' p v→RV ⟨c.σ,c.τ,c.μ,c.hid,c'.w⟩ p v:=by
 have hX:Ext c.w c'.w:=⟨hE.os,hE.tape,hE.output,hE.size,fun b hb=>hE.frame b hb (by simp[Ctx.close]) (by simp[Ctx.close]) (by simp[Ctx.close])⟩
 obtain⟨h1,h2⟩:=hr.grow hX
 refine⟨h1,h2, ?_⟩
 have hσ:c'.σ=[]:=List.eq_nil_of_length_eq_zero (by simpa using hr'.len)
 have hτ:c'.τ=[]:=by have:=hr'.tk;simpa using this
 have hst: ∀b p,c'.stab b p→Ctx.stab ⟨c.σ,c.τ,c.μ,c.hid,c'.w⟩ b p:=by
  intro b p hs
  have hh: ¬c.close.hid b p:=by have:=hs.1;rwa[hE.hid]at this
  refine⟨fun x=>hh (.inl x),fun x=>hh (.inr (.inl x)),fun t ht lv e=> ?_,fun t ht lv e=>hh (.inr (.inr (.inr ⟨t,ht,lv,e⟩)))⟩
  exact Classical.byContradiction fun hn=>hh (.inr (.inr (.inl ⟨t,ht,lv,e,hn⟩)))
 have key: ∀g v,RG c'.w c'.stab g v→RG c'.w (Ctx.stab ⟨c.σ,c.τ,c.μ,c.hid,c'.w⟩) g v:=fun g v hg=>hg.mono fun a u _ hs hc=>⟨hc,hst _ _ hs⟩
 intro p v hp hv
 cases hv with
 |g x v hg=>exact .g _ _ (key _ _ hg)
 |tuple cs vs hl hh=>
  refine .tuple cs vs hl fun i q u hq hu=> ?_
  obtain⟨x,rfl⟩:=hp q (List.mem_of_getElem? hq)
  have:=hh i _ u hq hu
  cases this with|g _ _ hg=>exact .g _ _ (key _ _ hg)
 |_=>exact hp.elim
def groundArgs(ρ:Operand→PV)(args:List Operand)(as:List GV):Prop:=args.map (fun x=>pack (ρ x))=as.map .g
theorem PO_call_pure{f:Operand}{args:Array Operand}{ts:Array TypeId}{id:FuncId}{as:List GV}{v:PV}(ho:o.op= .call {callee:= .value f,args:=args,argTypes:=ts})
  (hf:ρ f= .g (.raw (.func (.func id) #[] #[]))) (he:enterB P id=true) (ha:groundArgs ρ args.toList as) (hv:closedV v) (hp:PC P id (as.map .g) ⟨[],[],[]⟩ v ⟨[],[],[]⟩):PO P o ρ H v H:=by
 intro c ρr hr hx
 have hops: ∀x,x=f∨x∈args.toList→x∈o.op.operands.toList:=by
  intro x hx
  simp[ho,Op.operands,Call.operands]
  rcases hx with rfl|hx
  ·exact .inl rfl
  ·exact .inr (by simpa using hx)
 have hf1:=hx f (hops f (.inl rfl))
 rw[hf]at hf1
 have hf2:=RV_raw hf1
 have hrun:(execOp ρr o).run P c.w= .ok (.enter id (args.map ρr)) c.w:=by
  simp[execOp,ho,resolve,hf2,Deferred.ofValue,invoke,run_callFunc he]
 unfold OpGoes
 rw[hrun]
 have hargs:RVs c.close (as.map .g) (args.map ρr):=by
  have hlen:=congrArg List.length ha
  simp at hlen
  refine⟨by simp[hlen],fun i p u hp' hu=> ?_⟩
  simp only[Array.getElem?_map,Option.map_eq_some_iff]at hu
  obtain⟨x,hx1,rfl⟩:=hu
  have h1:(args.toList.map fun x=>pack (ρ x))[i]? =some (pack (ρ x)):=by simp[hx1]
  rw[ha,hp']at h1
  have h2:=pack_ok (hx x (hops x (.inr (by rw[Array.mem_toList_iff];exact Array.mem_of_getElem? hx1))))
  rw[←Option.some_inj.1 h1]at h2
  simp only[List.getElem?_map,Option.map_eq_some_iff]at hp'
  obtain⟨g,_,rfl⟩:=hp'
  cases h2 with|g _ _ hg=>exact .g _ _ (by rw[close_stab_eq];exact hg)
 refine(hp c.close _ (close_rel hr) hargs).mono ?_
 rintro e w' ⟨rv,c',rfl,rfl,hr',hE,hv'⟩
 obtain⟨h1,h2,h3⟩:=close_back hr hr' hE
 exact⟨rv,rfl,⟨c.σ,c.τ,c.μ,c.hid,c'.w⟩,rfl,h1,h2,h3 v rv hv hv'⟩
end
inductive RefsIn(nb nt nm:Nat):PV→Prop where
 |g (x:GV):RefsIn nb nt nm (.g x)
 |own (es:List GV) (id:Nat) (h:id<nt):RefsIn nb nt nm (.own es id)
 |ptr (b off:Nat) (h:b<nb):RefsIn nb nt nm (.ptr b off)
 |nilp:RefsIn nb nt nm .nilp
 |nils:RefsIn nb nt nm .nils
 |pat (cs:List GV):RefsIn nb nt nm (.pat cs)
 |clo (fn:Fn) (ps qs:List PV) (h1: ∀p∈ps,RefsIn nb nt nm p) (h2: ∀p∈qs,RefsIn nb nt nm p):RefsIn nb nt nm (.clo fn ps qs)
 |agg (cs:List PV) (h: ∀p∈cs,RefsIn nb nt nm p):RefsIn nb nt nm (.agg cs)
 |tuple (cs:List PV) (h: ∀p∈cs,RefsIn nb nt nm p):RefsIn nb nt nm (.tuple cs)
 |lit (es:List GV):RefsIn nb nt nm (.lit es)
 |mar (id n:Nat) (h:id<nm):RefsIn nb nt nm (.mar id n)
 |mref (id n i off:Nat) (h:id<nm):RefsIn nb nt nm (.mref id n i off)
 |mp (id:Nat) (h:id<nm):RefsIn nb nt nm (.mp id)
 |vw (id n off len cap:Nat) (h:id<nm):RefsIn nb nt nm (.vw id n off len cap)
 |glob (g off:Nat):RefsIn nb nt nm (.glob g off)
 |kv (g off:Nat):RefsIn nb nt nm (.kv g off)
 |ifc (t:TypeId) (p:PV) (h:RefsIn nb nt nm p):RefsIn nb nt nm (.ifc t p)
 |any:RefsIn nb nt nm .any
def Ctx.cut(c:Ctx)(nb nt nm:Nat):Ctx:=⟨c.σ.take nb,c.τ.take nt,c.μ.take nm,c.hid,c.w⟩
theorem cut_stab{c:Ctx}{nb nt nm b p:Nat}(h:c.stab b p):(c.cut nb nt nm).stab b p:=
 ⟨h.1,fun hm=>h.2.1 (List.mem_of_mem_take hm),fun t ht lv=>h.2.2.1 t (List.mem_of_mem_take ht) lv,fun t ht lv=>h.2.2.2 t (List.mem_of_mem_take ht) lv⟩
theorem RG.cut{c:Ctx}{nb nt nm:Nat}{g:GV}{v:Value}(h:RG c.w c.stab g v):RG (c.cut nb nt nm).w (c.cut nb nt nm).stab g v:=
 h.mono fun _ _ _ hs hc=>⟨hc,cut_stab hs⟩
theorem RV.cut{c:Ctx}{nb nt nm:Nat}{p:PV}{v:Value}(h:RV c p v)(hp:RefsIn nb nt nm p):RV (c.cut nb nt nm) p v:=by
 induction h with
 |g x v h=>exact .g _ _ h.cut
 |own es id v t h ht hs hl hv=>
  cases hp with
  |own _ _ hid=>exact .own es id v t h.cut (by simp only[Ctx.cut];rw[List.getElem?_take,if_pos hid];exact ht) hs hl hv
 |ptr b off blk h=>
  cases hp with
  |ptr _ _ hb=>exact .ptr _ _ _ (by simp only[Ctx.cut];rw[List.getElem?_take,if_pos hb];exact h)
 |nilp=>exact .nilp
 |nils=>exact .nils
 |pat cs a f ha hf h=>exact .pat cs a f ha (fun k hk=>⟨(hf k hk).1,cut_stab (hf k hk).2.1,(hf k hk).2.2⟩) (fun j g hj=>(h j g hj).cut)
 |clo fn ps qs us vs hpl hq _ _ h1 h2=>
  cases hp with
  |clo _ _ _ e1 e2=>exact .clo fn ps qs us vs hpl hq (fun i p v hp' hv=>h1 i p v hp' hv (e1 p (List.mem_of_getElem? hp'))) (fun i p v hp' hv=>h2 i p v hp' hv (e2 p (List.mem_of_getElem? hp')))
 |agg cs vs hl h1 _ ih=>
  cases hp with
  |agg _ e=>exact .agg cs vs hl h1 fun i p v hp' hv=>ih i p v hp' hv (e p (List.mem_of_getElem? hp'))
 |tuple cs vs hl _ ih=>
  cases hp with
  |tuple _ e=>exact .tuple cs vs hl fun i p v hp' hv=>ih i p v hp' hv (e p (List.mem_of_getElem? hp'))
 |lit es a h=>exact .lit es a h.cut
 |mar id n v t ht hn h1 hv=>
  cases hp with
  |mar _ _ hb=>exact .mar id n v t (by simp only[Ctx.cut];rw[List.getElem?_take,if_pos hb];exact ht) hn h1 hv
 |mref id n i off v t ht hn h1 hv=>
  cases hp with
  |mref _ _ _ _ hb=>exact .mref id n i off v t (by simp only[Ctx.cut];rw[List.getElem?_take,if_pos hb];exact ht) hn h1 hv
 |mp id v t ht h1 hv=>
  cases hp with
  |mp _ hb=>exact .mp id v t (by simp only[Ctx.cut];rw[List.getElem?_take,if_pos hb];exact ht) h1 hv
 |vw id n off len cap g t ht hn h1 h2 hv=>
  cases hp with
  |vw _ _ _ _ _ hb=>exact .vw id n off len cap g t (by simp only[Ctx.cut];rw[List.getElem?_take,if_pos hb];exact ht) hn h1 h2 hv
 |glob g off=>exact .glob g off
 |kv g off v h hs h1=>exact .kv g off v h (cut_stab hs) h1
 |ifc t p v _ ih=>
  cases hp with
  |ifc _ _ hb=>exact .ifc t p v (ih hb)
 |any v=>exact .any v
section
variable{P:Program}
theorem Rel.cut{c:Ctx}{H H':PH}(hr:Rel P c H)(h1: ∃x,H.bx=H'.bx++x)(h2: ∃y,H.tk=H'.tk++y)(h3: ∃z,H.mu=H'.mu++z)(hR: ∀cs∈H'.bx,∀p∈cs,RefsIn H'.bx.length H'.tk.length H'.mu.length p):
  Rel P (c.cut H'.bx.length H'.tk.length H'.mu.length) H':=by
 obtain⟨x,hx⟩:=h1
 obtain⟨y,hy⟩:=h2
 obtain⟨z,hz⟩:=h3
 have hl:=hr.len
 rw[hx]at hl
 have ht:=hr.tk
 rw[hy]at ht
 refine⟨?_, ?_, ?_,fun t ht lv=>hr.tb t (List.mem_of_mem_take ht) lv,hr.nd.sublist (List.take_sublist _ _), ?_,fun t ht lv hm=>hr.st t (List.mem_of_mem_take ht) lv (List.mem_of_mem_take hm),hr.hidlt,fun t ht lv=>hr.thid t (List.mem_of_mem_take ht) lv,fun b hb=>hr.shid b (List.mem_of_mem_take hb),fun t ht lv=>hr.dead t (List.mem_of_mem_take ht) lv, ?_, ?_,fun t ht lv=>hr.mlt t (List.mem_of_mem_take ht) lv, ?_,fun t ht lv hm=>hr.ms t (List.mem_of_mem_take ht) lv (List.mem_of_mem_take hm),fun t ht lv t' ht' lv'=>hr.mt t (List.mem_of_mem_take ht) lv t' (List.mem_of_mem_take ht') lv',fun t ht lv=>hr.mhid t (List.mem_of_mem_take ht) lv,
  hr.gl.of_stab rfl fun _ _ h=>cut_stab h⟩
 ·simp[Ctx.cut,hl]
 ·intro i b cs hb hcs
  simp only[Ctx.cut,List.getElem?_take]at hb
  split at hb
  ·rename_i hi
   obtain⟨vals,T,e1,e2,e3⟩:=hr.bx i b cs hb (by rw[hx,List.getElem?_append_left hi];exact hcs)
   exact⟨vals,T,e1,e2,fun j p v hp hv=>⟨(e3 j p v hp hv).1.cut (hR cs (List.mem_of_getElem? hcs) p (List.mem_of_getElem? hp)),(e3 j p v hp hv).2⟩⟩
  ·cases hb
 ·simp only[Ctx.cut,List.map_take,ht]
  simp
 ·intro i j t t' hi hj
  simp only[Ctx.cut,List.getElem?_take]at hi hj
  split at hi
  ·split at hj
   ·exact hr.td i j t t' hi hj
   ·cases hj
  ·cases hi
 ·have:=hr.mlen
  rw[hz]at this
  simp[Ctx.cut,this]
 ·intro i t o hi ho
  simp only[Ctx.cut,List.getElem?_take]at hi
  split at hi
  ·rename_i hlt
   have:=hr.mu i t o hi (by rw[hz,List.getElem?_append_left hlt];exact ho)
   cases o with
   |gone n=>exact this
   |arr n e es=>
    obtain⟨a1,a2,a3,a4⟩:=this
    refine⟨a1,a2,a3,a4.imp id ?_⟩
    rintro⟨lv,cur,b1,b2,b3,b4,b5,b6⟩
    exact⟨lv,cur,b1,b2,b3,b4,b5,fun i x j g v hx hg hv=>⟨(b6 i x j g v hx hg hv).1.cut,(b6 i x j g v hx hg hv).2⟩⟩
   |map es=>
    obtain⟨a1,lv,ents,es',hp,b1,b2,b3⟩:=this
    exact⟨a1,lv,ents,es',hp,b1,b2,fun i k v n hk hn=>⟨(b3 i k v n hk hn).1.cut,(b3 i k v n hk hn).2.1.cut,(b3 i k v n hk hn).2.2⟩⟩
   |iter n s pos=>exact this
  ·cases hi
 ·intro i j t t' hi hj
  simp only[Ctx.cut,List.getElem?_take]at hi hj
  split at hi
  ·split at hj
   ·exact hr.md i j t t' hi hj
   ·cases hj
  ·cases hi
theorem Evo.cut{c0 c:Ctx}(hE:Evo c0 c){nb nt nm:Nat}(hb:c0.σ.length≤nb)(ht:c0.τ.length≤nt)(hm:c0.μ.length≤nm):Evo c0 (c.cut nb nt nm):=by
 obtain⟨n,hn,hn'⟩:=hE.sig
 refine⟨hE.os,hE.tape,hE.output,hE.size,hE.hid,⟨n.take (nb-c0.σ.length), ?_,fun b hb'=>hn' b (List.mem_of_mem_take hb')⟩,fun id t hid=> ?_,fun id t hid=> ?_,fun t ht' lv=>hE.munew t (List.mem_of_mem_take ht') lv,fun t ht' lv=>hE.toknew t (List.mem_of_mem_take ht') lv,fun a v ha hs hc=>⟨(hE.keep a v ha hs hc).1,cut_stab (hE.keep a v ha hs hc).2⟩,hE.frame⟩
 ·simp only[Ctx.cut,hn,List.take_append]
  rw[List.take_of_length_le hb]
 ·obtain⟨t',h1,h2⟩:=hE.tok id t hid
  refine⟨t', ?_,h2⟩
  have:=(List.getElem?_eq_some_iff.1 hid).1
  simp only[Ctx.cut]
  rw[List.getElem?_take,if_pos (by omega)]
  exact h1
 ·obtain⟨t',h1,h2⟩:=hE.mu id t hid
  refine⟨t', ?_,h2⟩
  have:=(List.getElem?_eq_some_iff.1 hid).1
  simp only[Ctx.cut]
  rw[List.getElem?_take,if_pos (by omega)]
  exact h1
def Ctx.wd(c:Ctx)(d:List Deferred):Ctx:=⟨c.σ,c.τ,c.μ,⟨c.hid.f,d⟩,c.w⟩
theorem evoL_wd(c:Ctx)(d:List Deferred):EvoL c (c.wd d):=
 ⟨⟨[],(List.append_nil c.σ).symm⟩,fun _ t ht=>⟨t,ht,rfl,rfl, .inl rfl⟩,fun _ t ht=>⟨t,ht,rfl, .inl rfl⟩,fun _ _ _ hs hc=>⟨hc,hs⟩⟩
theorem RV.wd{c:Ctx}{p:PV}{v:Value}(h:RV c p v)(d:List Deferred):RV (c.wd d) p v:=RV.light (evoL_wd c d) h
theorem Rel.wd{c:Ctx}{H:PH}(hr:Rel P c H)(d:List Deferred):Rel P (c.wd d) H:=
  { len:=hr.len,bx:=fun i b cs hb hcs=>by
      obtain⟨vals,T,h1,h2,h3⟩:=hr.bx i b cs hb hcs
      exact⟨vals,T,h1,h2,fun j p v hp hv=>⟨(h3 j p v hp hv).1.wd d,(h3 j p v hp hv).2⟩⟩
    tk:=hr.tk,tb:=hr.tb,nd:=hr.nd,td:=hr.td,st:=hr.st,hidlt:=hr.hidlt,thid:=hr.thid,shid:=hr.shid,dead:=hr.dead,mlen:=hr.mlen,
    mu:=fun i t o ht ho=>MOk.light (evoL_wd c d) (fun _=>rfl) (hr.mu i t o ht ho),
    mlt:=hr.mlt,md:=hr.md,ms:=hr.ms,mt:=hr.mt,mhid:=hr.mhid,gl:=hr.gl.of_stab rfl fun _ _ h=>h}
theorem Evo.wd{c c':Ctx}{d:List Deferred}(hE:Evo (c.wd d) c'):Evo c (c'.wd c.hid.d):=
  { os:=hE.os,tape:=hE.tape,output:=hE.output,size:=hE.size,hid:=by
      have:=congrArg Hid.f hE.hid
      show(⟨c'.hid.f,c.hid.d⟩:Hid)=c.hid
      rw[this]
      rfl
    sig:=hE.sig,tok:=hE.tok,mu:=hE.mu,munew:=hE.munew,toknew:=hE.toknew,keep:=hE.keep,frame:=hE.frame}
def resV (P:Program)(env:Env)(H:PH):ResultVar→Option PV
  | .tmp t=>some (env t)
  | .cell a t=>
    match env a with
    | .ptr b off=>
      match H.bx[b]? with
      |some cs=>
        match aggB P t with
        |some true=>match szB P t with
          |some n=>if off+n≤cs.length then some (.agg ((cs.drop off).take n))else none
          |none=>none
        |some false=>cs[off]?
        |none=>none
      |none=>none
    |_=>none
def resSem(tmps:Array Value):ResultVar→Sem Value
 | .tmp t=>pure (tmps.getD t undef)
 | .cell x t=>do loadVar t (←asAddr (tmps.getD x undef))
theorem resV_ok{c:Ctx}{H:PH}{N:Nat}{env:Env}{a:Act}(hr:Rel P c H)(he:ER c N env a){r:ResultVar}{p:PV}(h:resV P env H r=some p):
  ∃v,(resSem a.tmps r).run P c.w= .ok v c.w∧RV c p v:=by
 cases r with
 |tmp t=>
  simp only[resV,Option.some.injEq]at h
  subst h
  exact⟨_,rfl,he.slot t⟩
 |cell x t=>
  simp only[resV]at h
  split at h
  ·rename_i b off hb
   have hs:=he.slot x
   rw[hb]at hs
   generalize hv:a.tmps.getD x undef=u at hs
   cases hs with
   |ptr _ _ blk hblk=>
    split at h
    ·rename_i cs hcs
     obtain⟨vals,e1,e2,e3⟩:=loadCells_box hr hblk hcs
     split at h
     ·rename_i hagg
      split at h
      ·rename_i n hn
       split at h
       ·rename_i hle
        simp only[Option.some.injEq]at h
        subst h
        have hl:=run_loadVar_agg (w:=c.w) hagg hn ⟨blk,off,none⟩ (fun j=>vals.getD (off+j) undef) (fun j hj=>by rw[add_eq _ _ rfl];exact e2 (off+j) (by omega))
        refine⟨_,by simp only[resSem,hv,asAddr,Sem.run_bind,Sem.run_pure,Result.andThen_ok,hl];rfl, .agg _ _ (by simp;omega) ?_ ?_⟩
        ·intro v hv
         simp at hv
         obtain⟨j,hj,rfl⟩:=hv
         have:=(e3 (off+j) (cs[off+j]'(by omega)) (by simp)).2
         simpa[Array.getD_eq_getD_getElem?]using this
        ·intro i p v hi hv
         simp[List.getElem?_take]at hi hv
         obtain⟨hlt,hi⟩:=hi
         obtain⟨i',h0,rfl⟩:=hv
         obtain⟨h0,rfl⟩:=List.getElem?_eq_some_iff.1 h0
         rw[List.getElem_range]
         have:=(e3 (off+i) p hi).1
         simpa[Array.getD_eq_getD_getElem?]using this
       ·cases h
      ·cases h
     ·rename_i hagg
      have:=e2 off (by rw[e1];exact(List.getElem?_eq_some_iff.1 h).1)
      exact⟨_,by simp only[resSem,hv,asAddr,Sem.run_bind,Sem.run_pure,Result.andThen_ok,run_loadVar_one hagg _ _ this],(e3 off p h).1⟩
     ·cases h
    ·cases h
  ·cases h
def retV:List PV→PV
 |[p]=>p
 |ps=> .tuple ps
def resVs(P:Program)(env:Env)(H:PH):List ResultVar→Option (List PV)
 |[]=>some []
 |r::rs=>match resV P env H r,resVs P env H rs with
  |some p,some ps=>some (pack p::ps)
  |_,_=>none
theorem resVs_ok{c:Ctx}{H:PH}{N:Nat}{env:Env}{a:Act}(hr:Rel P c H)(he:ER c N env a): ∀{rs:List ResultVar} {ps:List PV},resVs P env H rs=some ps→
  ∃vs:List Value,(rs.mapM (resSem a.tmps)).run P c.w= .ok vs c.w∧ps.length=vs.length∧
   ∀(i:Nat) (p:PV) (v:Value),ps[i]? =some p→vs[i]? =some v→RV c p v
 |[],ps,h=>by simp[resVs]at h;subst h;exact⟨[],by simp,rfl,by simp⟩
 |r::rs,ps,h=>by
  simp only[resVs]at h
  split at h
  ·rename_i p ps' h1 h2
   simp only[Option.some.injEq]at h
   subst h
   obtain⟨v,e1,e2⟩:=resV_ok hr he h1
   obtain⟨vs,f1,f2,f3⟩:=resVs_ok hr he h2
   refine⟨v::vs, ?_,by simp[f2],fun i q u hq hu=> ?_⟩
   ·simp only[List.mapM_cons,Sem.run_bind,e1,f1,Result.andThen_ok,Sem.run_pure]
   ·cases i with
    |zero=>simp at hq hu;subst hq;subst hu;exact pack_ok e2
    |succ i=>exact f3 i q u (by simpa using hq) (by simpa using hu)
  ·cases h
def resRs(P:Program)(env:Env)(H:PH):List ResultVar→Option (List PV)
 |[]=>some []
 |r::rs=>match resV P env H r,resRs P env H rs with
  |some p,some ps=>some (p::ps)
  |_,_=>none
theorem resRs_ok{c:Ctx}{H:PH}{N:Nat}{env:Env}{a:Act}(hr:Rel P c H)(he:ER c N env a): ∀{rs:List ResultVar} {ps:List PV},resRs P env H rs=some ps→
  ∃vs:List Value,(rs.mapM (resSem a.tmps)).run P c.w= .ok vs c.w∧ps.length=vs.length∧
   ∀(i:Nat) (p:PV) (v:Value),ps[i]? =some p→vs[i]? =some v→RV c p v
 |[],ps,h=>by simp[resRs]at h;subst h;exact⟨[],by simp,rfl,by simp⟩
 |r::rs,ps,h=>by
  simp only[resRs]at h
  split at h
  ·rename_i p ps' h1 h2
   simp only[Option.some.injEq]at h
   subst h
   obtain⟨v,e1,e2⟩:=resV_ok hr he h1
   obtain⟨vs,f1,f2,f3⟩:=resRs_ok hr he h2
   refine⟨v::vs, ?_,by simp[f2],fun i q u hq hu=> ?_⟩
   ·simp only[List.mapM_cons,Sem.run_bind,e1,f1,Result.andThen_ok,Sem.run_pure]
   ·cases i with
    |zero=>simp at hq hu;subst hq;subst hu;exact e2
    |succ i=>exact f3 i q u (by simpa using hq) (by simpa using hu)
  ·cases h
def Ret(P:Program)(rs:List ResultVar)(H:PH)(v:PV)(H':PH)(e:Exit)(env:Env)(H2:PH):Prop:=
 (e= .normal∨e= .ret)∧ ∃ps,(resVs P env H2 rs=some ps∨resRs P env H2 rs=some ps)∧retV ps=v∧(∃x,H2.bx=H'.bx++x)∧(∃y,H2.tk=H'.tk++y)∧(∃z,H2.mu=H'.mu++z)∧
  H.bx.length≤H'.bx.length∧H.tk.length≤H'.tk.length∧H.mu.length≤H'.mu.length∧RefsIn H'.bx.length H'.tk.length H'.mu.length v∧ ∀cs∈H'.bx,∀p∈cs,RefsIn H'.bx.length H'.tk.length H'.mu.length p
def env0(args:List PV):Env:=fun t=>args.getD t undefP
theorem er_entry{c:Ctx}{fn:Func}{N:Nat}{args:List PV}{vs:Array Value}(hn:fn.ntmps=N)(hl:args.length≤N)(ha:RVs c args vs):ER (c.wd []) N (env0 args) {tmps:=vs++Array.replicate (fn.ntmps-vs.size) undef,defers:=[]}:=by
 have hsz:vs.size≤N:=by rw[←ha.1];exact hl
 refine⟨rfl,by simp[hn];omega,fun t=>RV.wd ?_ []⟩
 simp only[env0,List.getD,Array.getD_eq_getD_getElem?]
 by_cases ht:t<vs.size
 ·have ht':t<args.length:=by rw[ha.1];exact ht
  rw[Array.getElem?_append_left ht]
  have:=ha.2 t args[t] vs[t] (List.getElem?_eq_getElem ht') (Array.getElem?_eq_getElem ht)
  simpa[ht,ht']using this
 ·have ht': ¬t<args.length:=by rw[ha.1];exact ht
  rw[List.getElem?_eq_none (by omega),Array.getElem?_append_right (by omega)]
  simp only[Option.getD_none]
  have:((Array.replicate (fn.ntmps-vs.size) undef)[t-vs.size]?).getD undef=undef:=by
   by_cases h2:t-vs.size<fn.ntmps-vs.size
   ·simp[h2]
   ·simp[h2]
  rw[this]
  exact .g _ _ (.raw _)
theorem ret_reads{c c':Ctx}{fn:Func}{N:Nat}{rs:List ResultVar}{H H' H2:PH}{v:PV}{e:Exit}{env:Env}{a:Act}(hr:Rel P c H)(hrs:fn.results=rs.toArray)(hret:Ret P rs H v H' e env H2)(hr':Rel P c' H2)(hE:Evo (c.wd []) c')
  (hN:a.tmps.size=N) (hs: ∀t,RV c' (env t) (a.tmps.getD t undef)):
  ∃v',(results fn a.tmps).run P c'.w= .ok v' c'.w∧ ∃rv c'',Ending.returned v'= .returned rv∧c''.w=c'.w∧Rel P c'' H'∧Evo c c''∧RV c'' v rv:=by
 obtain⟨he,ps,h1,h2,h3,h4,h4m,h5,h6,h6m,h7,h8⟩:=hret
 have he':ER (c'.wd a.defers) N env a:=⟨rfl,hN,fun t=>(hs t).wd _⟩
 have hr2:Rel P (c'.wd a.defers) H2:=hr'.wd _
 obtain⟨us,e1,e2,e3⟩:=h1.elim (fun h1=>resVs_ok hr2 he' h1) (fun h1=>resRs_ok hr2 he' h1)
 have hcut:=hr'.cut h3 h4 h4m h8
 have hEcut:=(hE.cut (nb:=H'.bx.length) (nt:=H'.tk.length) (by show c.σ.length≤_;rw[hr.len];exact h5) (by have:=congrArg List.length hr.tk;simp at this;show c.τ.length≤_;omega) (nm:=H'.mu.length) (by show c.μ.length≤_;rw[hr.mlen];exact h6m)).wd
 have key: ∃rv,(results fn a.tmps).run P c'.w= .ok rv c'.w∧RV c' v rv:=by
  refine⟨if h:us.toArray.size=1 then us.toArray[0]else .tuple us.toArray, ?_, ?_⟩
  ·have:results fn a.tmps=(do let vs ←fn.results.mapM (resSem a.tmps);pure (if h:vs.size=1 then vs[0]else .tuple vs)):=by
    unfold results
    congr 1
   rw[this]
   have e1:(rs.mapM (resSem a.tmps)).run P c'.w= .ok us c'.w:=e1
   simp only[hrs,Sem.run_bind,List.mapM_toArray,Sem.run_map,e1,Result.andThen_ok,Sem.run_pure]
  ·rw[←h2]
   have e3: ∀(i:Nat) (p:PV) (v:Value),ps[i]? =some p→us[i]? =some v→RV c' p v:=fun i p v hp hv=>by
    have:=(e3 i p v hp hv).wd c'.hid.d
    exact this
   match ps,us,e2,e3 with
   |[p],[u],_,e3=>simpa[retV]using e3 0 p u rfl rfl
   |[],[],_,e3=>simpa[retV]using RV.tuple (c:=c') [] #[] rfl (by simp)
   |p::q::ps,u::u'::us,e2,e3=>
    have: ¬(u::u'::us).toArray.size=1:=by simp
    rw[dif_neg this]
    exact .tuple _ _ (by simpa using e2) (fun i p v hp hv=>e3 i p v hp (by simpa using hv))
 obtain⟨rv,g1,g2⟩:=key
 exact⟨rv,g1,rv,(c'.cut H'.bx.length H'.tk.length H'.mu.length).wd c.hid.d,rfl,rfl,hcut.wd _,hEcut,(g2.cut h7).wd _⟩
theorem wp_of_PW{fn:Func}{code:Code}{N:Nat}{rs:List ResultVar}{args:List PV}{H H':PH}{v:PV}(hn:fn.ntmps=N)(hrs:fn.results=rs.toArray)(hl:args.length≤N)(h:PW P N code (Ret P rs H v H') (env0 args) H)
  {c:Ctx} {vs:Array Value} (hr:Rel P c H) (ha:RVs c args vs):
  code.wp P (bodyPost P fn fun e w'=> ∃rv c',e= .returned rv∧c'.w=w'∧Rel P c' H'∧Evo c c'∧RV c' v rv) {tmps:=vs++Array.replicate (fn.ntmps-vs.size) undef,defers:=[]} c.w:=by
 refine wp_mono (h (c.wd []) _ (hr.wd []) (er_entry hn hl ha)) ?_
 rintro e a w' ⟨c',env',H2,hret,rfl,hr',hE,he'⟩
 have hdf:a.defers=[]:=he'.defers.trans (congrArg Hid.d hE.hid)
 have fin:=ret_reads hr hrs hret hr' hE he'.size he'.slot
 rcases hret.1 with rfl|rfl
 ·exact⟨hdf,fin⟩
 ·exact⟨hdf,fin⟩
theorem PC_of_PW{f:FuncId}{fn:Func}{code:Code}{N:Nat}{rs:List ResultVar}{args:List PV}{H H':PH}{v:PV}(hf:P.funcs[f]? =some fn)(hb:fn.body=some code)(hn:fn.ntmps=N)
  (hrs:fn.results=rs.toArray) (hl:args.length≤N) (h:PW P N code (Ret P rs H v H') (env0 args) H):PC P f args H v H':=
 fun _ _ hr ha=>calls_of_wp hf hb (wp_of_PW hn hrs hl h hr ha)
end
def intOp(op:BinOp)(k:IntKind)(a b:Int):Option GV:=
 match op with
 | .add=>some (.int k (k.wrap (a+b)))
 | .sub=>some (.int k (k.wrap (a-b)))
 | .mul=>some (.int k (k.wrap (a *b)))
 | .eql=>some (.bool (a==b))
 | .neq=>some (.bool (a !=b))
 | .lss=>some (.bool (decide (a<b)))
 | .leq=>some (.bool (decide (a≤b)))
 | .gtr=>some (.bool (decide (a>b)))
 | .geq=>some (.bool (decide (a≥b)))
 | .and=>some (.int k (k.wrap (BitVec.ofInt k.bits a &&& BitVec.ofInt k.bits b).toNat))
 | .or=>some (.int k (k.wrap (BitVec.ofInt k.bits a ||| BitVec.ofInt k.bits b).toNat))
 | .xor=>some (.int k (k.wrap (BitVec.ofInt k.bits a ^^^ BitVec.ofInt k.bits b).toNat))
 | .andNot=>some (.int k (k.wrap (BitVec.ofInt k.bits a &&& ~~~ (BitVec.ofInt k.bits b)).toNat))
 |_=>none
def GV.val:GV→Value
 | .int k n=> .int k n
 | .bool b=> .bool b
 | .str s=> .string s
 |_=>undef
def strOp(op:BinOp)(a b:ByteArray):Option GV:=
 match op with
 | .eql=>some (.bool (a.toList==b.toList))
 | .neq=>some (.bool (!(a.toList==b.toList)))
 | .lss=>some (.bool (Op.bytesLess a.toList b.toList))
 | .leq=>some (.bool (Op.bytesLess a.toList b.toList||a.toList==b.toList))
 | .gtr=>some (.bool (!(Op.bytesLess a.toList b.toList||a.toList==b.toList)))
 | .geq=>some (.bool (!(Op.bytesLess a.toList b.toList)))
 |_=>none
section
variable{P:Program}{o:Oper}{ρ:Operand→PV}{H:PH}
theorem PO_int{op:BinOp}{t u:TypeId}{x y:Operand}{k:IntKind}{a b:Int}{g:GV}(ho:o.op= .binOp op t x y u)(ha:ρ x= .g (.int k a))(hb:ρ y= .g (.int k b))(hg:intOp op k a b=some g):PO P o ρ H (.g g) H:=
 PO_val fun c ρr hr hx=>by
  have h1:=hx x (by simp[ho,Op.operands])
  have h2:=hx y (by simp[ho,Op.operands])
  rw[ha]at h1;rw[hb]at h2
  have e1:=RV_int h1;have e2:=RV_int h2
  refine⟨g.val, ?_, ?_⟩
  ·simp only[execOp,ho,e1,e2]
   cases op<;>simp only[intOp]at hg<;>first|(cases hg;simp[eqGuard,binOp,Op.intArith,Op.intBits,Op.intCmp,GV.val];done)|(cases hg;simp only[eqGuard,binOp,Op.intBits,ne_eq,not_true,if_false];rfl)|(cases hg;done)
  ·cases op<;>simp only[intOp]at hg<;>cases hg<;>exact .g _ _ (by constructor)
theorem PO_quo{t u:TypeId}{x y:Operand}{k:IntKind}{a b:Int}(ho:o.op= .binOp .quo t x y u)(ha:ρ x= .g (.int k a))(hb:ρ y= .g (.int k b))(h0:b≠0):PO P o ρ H (.g (.int k (k.wrap (a.tdiv b)))) H:=
 PO_val fun c ρr hr hx=>by
  have h1:=hx x (by simp[ho,Op.operands])
  have h2:=hx y (by simp[ho,Op.operands])
  rw[ha]at h1;rw[hb]at h2
  have e1:=RV_int h1;have e2:=RV_int h2
  exact⟨_,by simp only[execOp,ho,e1,e2];simp[eqGuard,binOp,Op.intDiv,h0], .g _ _ (.int _ _)⟩
theorem PO_rem{t u:TypeId}{x y:Operand}{k:IntKind}{a b:Int}(ho:o.op= .binOp .rem t x y u)(ha:ρ x= .g (.int k a))(hb:ρ y= .g (.int k b))(h0:b≠0):PO P o ρ H (.g (.int k (a.tmod b))) H:=
 PO_val fun c ρr hr hx=>by
  have h1:=hx x (by simp[ho,Op.operands])
  have h2:=hx y (by simp[ho,Op.operands])
  rw[ha]at h1;rw[hb]at h2
  have e1:=RV_int h1;have e2:=RV_int h2
  exact⟨_,by simp only[execOp,ho,e1,e2];simp[eqGuard,binOp,Op.intDiv,h0], .g _ _ (.int _ _)⟩
theorem PO_shl{t u:TypeId}{x y:Operand}{k k':IntKind}{a b:Int}(ho:o.op= .binOp .shl t x y u)(ha:ρ x= .g (.int k a))(hb:ρ y= .g (.int k' b))(h0:0≤b):PO P o ρ H (.g (.int k (k.wrap (a *2^min b.toNat k.bits)))) H:=
 PO_val fun c ρr hr hx=>by
  have h1:=hx x (by simp[ho,Op.operands])
  have h2:=hx y (by simp[ho,Op.operands])
  rw[ha]at h1;rw[hb]at h2
  have e1:=RV_int h1;have e2:=RV_int h2
  have h0': ¬b<0:=by omega
  exact⟨_,by simp only[execOp,ho,e1,e2];simp[eqGuard,binOp,Op.shift,h0'], .g _ _ (.int _ _)⟩
theorem PO_shr{t u:TypeId}{x y:Operand}{k k':IntKind}{a b:Int}(ho:o.op= .binOp .shr t x y u)(ha:ρ x= .g (.int k a))(hb:ρ y= .g (.int k' b))(h0:0≤b):PO P o ρ H (.g (.int k (a.fdiv (2^min b.toNat k.bits)))) H:=
 PO_val fun c ρr hr hx=>by
  have h1:=hx x (by simp[ho,Op.operands])
  have h2:=hx y (by simp[ho,Op.operands])
  rw[ha]at h1;rw[hb]at h2
  have e1:=RV_int h1;have e2:=RV_int h2
  have h0': ¬b<0:=by omega
  exact⟨_,by simp only[execOp,ho,e1,e2];simp[eqGuard,binOp,Op.shift,h0'], .g _ _ (.int _ _)⟩
theorem PO_str{op:BinOp}{t u:TypeId}{x y:Operand}{a b:ByteArray}{g:GV}(ho:o.op= .binOp op t x y u)(ha:ρ x= .g (.str a))(hb:ρ y= .g (.str b))(hg:strOp op a b=some g):PO P o ρ H (.g g) H:=
 PO_val fun c ρr hr hx=>by
  have h1:=hx x (by simp[ho,Op.operands])
  have h2:=hx y (by simp[ho,Op.operands])
  rw[ha]at h1;rw[hb]at h2
  have e1:=RV_str h1;have e2:=RV_str h2
  refine⟨g.val, ?_, ?_⟩
  ·simp only[execOp,ho,e1,e2]
   cases op<;>simp only[strOp]at hg<;>first|(cases hg;simp[eqGuard,binOp,Op.stringOp,GV.val];done)|(cases hg;done)
  ·cases op<;>simp only[strOp]at hg<;>cases hg<;>exact .g _ _ (by constructor)
theorem PO_concat{t u:TypeId}{x y:Operand}{a b:ByteArray}(ho:o.op= .binOp .add t x y u)(ha:ρ x= .g (.str a))(hb:ρ y= .g (.str b))(hs:a.size+b.size≤9223372036854775807):PO P o ρ H (.g (.str (a++b))) H:=
 PO_val fun c ρr hr hx=>by
  have h1:=hx x (by simp[ho,Op.operands])
  have h2:=hx y (by simp[ho,Op.operands])
  rw[ha]at h1;rw[hb]at h2
  have e1:=RV_str h1;have e2:=RV_str h2
  have h0': ¬((a.size+b.size:Nat):Int)>IntKind.i64.max:=by
   have:IntKind.i64.max=9223372036854775807:=by decide
   omega
  exact⟨_,by simp only[execOp,ho,e1,e2];simp only[eqGuard,binOp,Op.stringOp];simp<;>omega, .g _ _ (.str _)⟩
theorem run_equal_bool{t:TypeId}(ht:P.underlying t=some .bool)(a b:Bool)(w:World):(Op.equal t (.bool a) (.bool b)).run P w= .ok (a==b) w:=by
 have h: ∀d,(Op.equalIn (d+1) t (.bool a) (.bool b)).run P w= .ok (a==b) w:=fun d=>by simp[Op.equalIn,run_underlying ht]
 exact h 9999
theorem PO_eqb{t u:TypeId}{x y:Operand}{a b:Bool}(ho:o.op= .binOp .eql t x y u)(ht:P.underlying t=some .bool)(ha:ρ x= .g (.bool a))(hb:ρ y= .g (.bool b)):PO P o ρ H (.g (.bool (a==b))) H:=
 PO_val fun c ρr hr hx=>by
  have h1:=hx x (by simp[ho,Op.operands])
  have h2:=hx y (by simp[ho,Op.operands])
  rw[ha]at h1;rw[hb]at h2
  have e1:=RV_bool h1;have e2:=RV_bool h2
  exact⟨.bool (a==b),by simp only[execOp,ho,e1,e2];simp[eqGuard,binOp,run_equal_bool ht], .g _ _ (.bool _)⟩
theorem PO_neb{t u:TypeId}{x y:Operand}{a b:Bool}(ho:o.op= .binOp .neq t x y u)(ht:P.underlying t=some .bool)(ha:ρ x= .g (.bool a))(hb:ρ y= .g (.bool b)):PO P o ρ H (.g (.bool (a !=b))) H:=
 PO_val fun c ρr hr hx=>by
  have h1:=hx x (by simp[ho,Op.operands])
  have h2:=hx y (by simp[ho,Op.operands])
  rw[ha]at h1;rw[hb]at h2
  have e1:=RV_bool h1;have e2:=RV_bool h2
  exact⟨.bool (a !=b),by simp only[execOp,ho,e1,e2];simp[eqGuard,binOp,run_equal_bool ht,bne], .g _ _ (.bool _)⟩
theorem PO_not{t:TypeId}{x:Operand}{b:Bool}(ho:o.op= .unOp .not t x)(ha:ρ x= .g (.bool b)):PO P o ρ H (.g (.bool (!b))) H:=
 PO_val fun c ρr hr hx=>by
  have h1:=hx x (by simp[ho,Op.operands])
  rw[ha]at h1
  exact⟨.bool (!b),by simp[execOp,ho,RV_bool h1,Op.unary], .g _ _ (.bool _)⟩
theorem PO_neg{t:TypeId}{x:Operand}{k:IntKind}{n:Int}(ho:o.op= .unOp .neg t x)(ha:ρ x= .g (.int k n)):PO P o ρ H (.g (.int k (k.wrap (0-n)))) H:=
 PO_val fun c ρr hr hx=>by
  have h1:=hx x (by simp[ho,Op.operands])
  rw[ha]at h1
  exact⟨_,by simp[execOp,ho,RV_int h1,Op.unary,Op.intArith], .g _ _ (.int _ _)⟩
/-! ### Slices that are read -/
def elems:PV→Option (List GV)
 | .g (.sl es)=>some es
 | .own es _=>some es
 | .lit es=>some es
 | .nils=>some []
 |_=>none
theorem elems_ok{c:Ctx}{p:PV}{v:Value}(h:RV c p v){es:List GV}(he:elems p=some es):RG c.w c.stab (.sl es) v:=by
 unfold elems at he
 split at he
 ·cases he;cases h;assumption
 ·cases he;cases h;assumption
 ·cases he;cases h;assumption
 ·cases he;cases h;exact .nil
 ·cases he
theorem RG_len{w:World}{S:Nat→Nat→Prop}{es:List GV}{v:Value}(h:RG w S (.sl es) v): ∃a cap,v= .slice a es.length cap∧es.length≤cap∧cap≤maxLen∧(a=none→es=[]∧cap=0):=by
 cases h with
 |nil=>exact⟨none,0,rfl,Nat.le_refl _,by unfold maxLen;omega,fun _=>⟨rfl,rfl⟩⟩
 |sl _ a cap size f ha hc hm hs hf hh=>exact⟨some a,cap,rfl,hc,hm,by simp⟩
theorem PO_len{x:Operand}{t:TypeId}{e:TypeId}{es:List GV}(ho:o.op= .call {callee:= .builtin .len,args:= #[x],argTypes:= #[t]})(ht:P.underlying t=some (.slice e))(he:elems (ρ x)=some es):PO P o ρ H (.g (.int .i64 es.length)) H:=
 PO_val fun c ρr hr hx=>by
  obtain⟨a,cap,hv,_⟩:=RG_len (elems_ok (hx x (by simp[ho,Op.operands,Call.operands])) he)
  exact⟨.int .i64 es.length,by simp[execOp,ho,resolve,invoke,builtin,Builtin.len_,hv,run_underlying ht,goInt], .g _ _ (.int _ _)⟩
theorem PO_lens{x:Operand}{t:TypeId}{s:ByteArray}(ho:o.op= .call {callee:= .builtin .len,args:= #[x],argTypes:= #[t]})(ht:P.underlying t=some .string)(he:ρ x= .g (.str s)):PO P o ρ H (.g (.int .i64 s.size)) H:=
 PO_val fun c ρr hr hx=>by
  have h1:=hx x (by simp[ho,Op.operands,Call.operands])
  rw[he]at h1
  exact⟨.int .i64 s.size,by simp[execOp,ho,resolve,invoke,builtin,Builtin.len_,RV_str h1,run_underlying ht,goInt], .g _ _ (.int _ _)⟩
theorem PO_indexAddr{x y:Operand}{t e:TypeId}{es:List GV}{k:IntKind}{i:Int}{n:Nat}{g:GV}(ho:o.op= .indexAddr t x y)(ht:P.underlying t=some (.slice e))(hn:szB P e=some n)(he:elems (ρ x)=some es)(hi:ρ y= .g (.int k i))
  (h0:0≤i) (hg:es[i.toNat]? =some g) (hc:g.cells.length=n):PO P o ρ H (.pat g.cells) H:=
 PO_val fun c ρr hr hx=>by
  have h1:=elems_ok (hx x (by simp[ho,Op.operands])) he
  have h2:=hx y (by simp[ho,Op.operands])
  rw[hi]at h2
  have e2:=RV_int h2
  have hlt:=(List.getElem?_eq_some_iff.1 hg).1
  generalize hv:ρr x=v at h1
  cases h1 with
  |nil=>simp at hg
  |sl _ a cap size f ha hcc hm hs hf hh=>
   have hsz:size=n:=by rw[←hs i.toNat g hg,hc]
   subst hsz
   have hidx:0≤i∧i<(es.length:Int):=⟨h0,by omega⟩
   have ha:=ha (by rintro rfl;simp at hg)
   refine⟨.pointer (some (a.add (i.toNat *size))), ?_, .pat _ _ (fun j=>f (i.toNat *size+j)) (add_spot a _ ha) ?_ (fun j g' hg'=>hh i.toNat g j g' hg hg')⟩
   ·simp only[execOp,ho,hv,e2]
    simp[Instr.indexAt,asIntOf,run_underlying ht,hidx,run_sizeOf hn]
   ·intro j hj
    rw[hc]at hj
    have hle:i.toNat *size+j<es.length *size:=by
     calc i.toNat *size+j<i.toNat *size+size:=by omega
      _=(i.toNat+1) *size:=by rw[Nat.add_mul,Nat.one_mul]
      _≤es.length *size:=Nat.mul_le_mul_right _ hlt
    have h3:=hf _ hle
    rw[add_eq a _ ha]at h3
    rw[add_eq _ _ (add_spot a _ ha),add_block,add_off,Nat.add_assoc]
    exact h3
theorem PO_index{x y:Operand}{t:TypeId}{s:ByteArray}{k:IntKind}{i:Int}{b:UInt8}(ho:o.op= .index t x y)(ht:P.underlying t=some .string)(he:ρ x= .g (.str s))(hi:ρ y= .g (.int k i))
  (h0:0≤i) (hg:s[i.toNat]? =some b):PO P o ρ H (.g (.int .u8 b.toNat)) H:=
 PO_val fun c ρr hr hx=>by
  have h1:=hx x (by simp[ho,Op.operands])
  have h2:=hx y (by simp[ho,Op.operands])
  rw[he]at h1;rw[hi]at h2
  refine⟨.int .u8 b.toNat, ?_, .g _ _ (.int _ _)⟩
  simp only[execOp,ho,RV_str h1,RV_int h2]
  simp[Instr.index,asIntOf,run_underlying ht,h0,hg]
theorem PO_extract{x:Operand}{i:Nat}{ps:List PV}{p:PV}(ho:o.op= .extract x i)(hx':ρ x= .tuple ps)(hp:ps[i]? =some p):PO P o ρ H p H:=
 PO_val fun c ρr hr hx=>by
  have h1:=hx x (by simp[ho,Op.operands])
  rw[hx']at h1
  generalize hv:ρr x=v at h1
  cases h1 with
  |tuple _ vs hl hh=>
   have hlt:=(List.getElem?_eq_some_iff.1 hp).1
   have hlt':i<vs.size:=by omega
   refine⟨vs[i],by simp[execOp,ho,hv,Instr.extract,hlt'],hh i p _ hp (by simp[hlt'])⟩
theorem PO_field{s:TypeId}{x:Operand}{k d:Nat}{ft:TypeId}{cs:List PV}{p:PV}(ho:o.op= .field s x k)(hf:fieldB P s k=some (d,ft))(h1:aggB P ft=some false)(hc:pvCells (ρ x)=some cs)(ha: ∃u,ρ x= .g (.agg u)∨ ∃u,ρ x= .agg u)(hp:cs[d]? =some p):PO P o ρ H p H:=
 PO_val fun c ρr hr hx=>by
  have hx1:=hx x (by simp[ho,Op.operands])
  obtain⟨e1,e2⟩:=pvCells_ok hx1 hc
  have hagg: ∃vs,ρr x= .agg vs:=by
   obtain⟨u,h|⟨u,h⟩⟩:=ha<;>rw[h]at hx1
   ·generalize ρr x=v at hx1;cases hx1 with|g _ _ hg=>cases hg;exact⟨_,rfl⟩
   ·generalize ρr x=v at hx1;cases hx1;exact⟨_,rfl⟩
  obtain⟨vs,hvs⟩:=hagg
  rw[hvs]at e1 e2
  simp only[Value.cells]at e1 e2
  have hlt:d<vs.size:=by rw[←e1];exact(List.getElem?_eq_some_iff.1 hp).1
  refine⟨vs[d], ?_,(e2 d p _ hp (by simp[hlt])).1⟩
  unfold fieldB at hf
  split at hf
  ·rename_i fs hu
   split at hf
   ·rename_i f hff
    split at hf
    ·simp only[Option.some.injEq,Prod.mk.injEq]at hf
     obtain⟨rfl,rfl⟩:=hf
     simp[execOp,ho,hvs,Instr.field,run_underlying hu,hff,asAgg,part,run_isAgg h1,hlt]
    ·cases hf
   ·cases hf
  ·cases hf
end
def dstOk(N:Nat)(d:Option Tmp):Bool:=match d with|some t=>Nat.blt t N|none=>true
section
variable{P:Program}{N:Nat}{all:Array Oper}{K:Env→PH→Prop}{rest:List Oper}{env:Env}{H H':PH}{v:PV}{d:Option Tmp}{op:Op}{ty:TypeId}{pos:String}{aft:Array Edge}
theorem dst_of(h:dstOk N d=true): ∀t,d=some t→t<N:=by
 intro t e
 unfold dstOk at h
 rw[e]at h
 simpa[Nat.blt_eq]using h
theorem POps_run{g:Option (Nat×Bool)}(hg:gd all ⟨d,op,ty,pos,aft,g⟩ env=some true)(hd:dstOk N d=true)(h:PO P ⟨d,op,ty,pos,aft,g⟩ env.eval H v H')(k:POps P N all K rest (upd env d v) H'):
  POps P N all K (⟨d,op,ty,pos,aft,g⟩::rest) env H:=by
 refine⟨dst_of hd, ?_⟩
 rw[hg]
 exact⟨v,H',h,k⟩
theorem POps_nil(h:K env H):POps P N all K [] env H:=h
theorem resV_tmp{t:Tmp}:resV P env H (.tmp t)=some (env t):=rfl
theorem resV_agg{a:Tmp}{t:TypeId}{n b off:Nat}{cs:List PV}(h1:aggB P t=some true)(h2:szB P t=some n)(ha:env a= .ptr b off)(hb:H.bx[b]? =some cs)(hl:off+n≤cs.length):
  resV P env H (.cell a t)=some (.agg ((cs.drop off).take n)):=by simp[resV,h1,h2,ha,hb,hl]
theorem resVs_nil:resVs P env H []=some []:=rfl
theorem resVs_cons{r:ResultVar}{rs:List ResultVar}{p:PV}{ps:List PV}(h:resV P env H r=some p)(hs:resVs P env H rs=some ps):resVs P env H (r::rs)=some (pack p::ps):=by simp[resVs,h,hs]
theorem resRs_nil:resRs P env H []=some []:=rfl
theorem resRs_cons{r:ResultVar}{rs:List ResultVar}{p:PV}{ps:List PV}(h:resV P env H r=some p)(hs:resRs P env H rs=some ps):resRs P env H (r::rs)=some (p::ps):=by simp[resRs,h,hs]
theorem Ret_pure{rs:List ResultVar}{ps:List PV}{e:Exit}{H2:PH}(hs:resVs P env H2 rs=some ps)(hv:retV ps=v)(hc:RefsIn 0 0 0 v)(he:e= .normal∨e= .ret:=by first|exact .inl rfl|exact .inr rfl):
  Ret P rs ⟨[],[],[]⟩ v ⟨[],[],[]⟩ e env H2:=
 ⟨he,ps, .inl hs,hv,⟨_,rfl⟩,⟨_,rfl⟩,⟨_,rfl⟩,Nat.le_refl _,Nat.le_refl _,Nat.le_refl _,hc,by simp⟩
end
section
variable{P:Program}{c:Ctx}{H:PH}
theorem Rel.setMu(hr:Rel P c H){id:Nat}{t t':MTok}{o':MO}(ht:c.μ[id]? =some t)(hsz:t'.size=t.size)(hd:t'=t∨t.gen<t'.gen){w':World}
  (hos:w'.os=c.w.os) (htape:w'.tape=c.w.tape∧(gdrawn→c.w.drawn≤w'.drawn)) (hout:w'.output=c.w.output) (hsize:c.w.heap.size≤w'.heap.size)
  (hblk: ∀b,b<c.w.heap.size→(t.live=true→b≠t.g)→w'.heap[b]? =c.w.heap[b]?)
  (hg:t'.live=true→(t.live=true∧t'.g=t.g)∨(c.w.heap.size≤t'.g∧t'.g<w'.heap.size))
  (hmo:Evo c ⟨c.σ,c.τ,c.μ.set id t',c.hid,w'⟩→MOk P ⟨c.σ,c.τ,c.μ.set id t',c.hid,w'⟩ t' o'):
  Rel P ⟨c.σ,c.τ,c.μ.set id t',c.hid,w'⟩ ⟨H.bx,H.tk,H.mu.set id o'⟩∧Evo c ⟨c.σ,c.τ,c.μ.set id t',c.hid,w'⟩:=by
 have hid:=(List.getElem?_eq_some_iff.1 ht).1
 have htm:=List.mem_of_getElem? ht
 have mem': ∀t2∈c.μ.set id t',t2=t'∨ ∃k,k≠id∧c.μ[k]? =some t2:=by
  intro t2 h2
  obtain⟨k,hk⟩:=List.getElem?_of_mem h2
  by_cases e:k=id
  ·subst e
   rw[List.getElem?_set_self hid]at hk
   cases hk
   exact .inl rfl
  ·rw[List.getElem?_set_ne (fun e'=>e e'.symm)]at hk
   exact .inr ⟨k,e,hk⟩
 have hE:Evo c ⟨c.σ,c.τ,c.μ.set id t',c.hid,w'⟩:=by
  refine⟨hos,htape,hout,hsize,rfl,⟨[],by simp,by simp⟩,fun id t ht=>⟨t,ht,rfl,rfl, .inl rfl⟩, ?_, ?_,fun t ht lv=> .inl ⟨t,ht,lv,rfl⟩, ?_, ?_⟩
  ·intro k t2 h2
   by_cases e:k=id
   ·subst e
    rw[ht]at h2
    cases h2
    exact⟨t',by simp[hid],hsz,hd⟩
   ·exact⟨t2,by show(c.μ.set id t')[k]? =_;rw[List.getElem?_set_ne (fun e'=>e e'.symm)];exact h2,rfl, .inl rfl⟩
  ·intro t2 h2 lv
   rcases mem' t2 h2 with rfl|⟨k,hk,hk2⟩
   ·rcases hg lv with⟨l1,g1⟩|g1
    ·exact .inl ⟨t,htm,l1,g1.symm⟩
    ·exact .inr g1.1
   ·exact .inl ⟨t2,List.mem_of_getElem? hk2,lv,rfl⟩
  ·intro a v hspot hs hcell
   have hab:=World.block_lt_of_cell? c.w a hcell
   refine⟨?_,hs.1,hs.2.1,hs.2.2.1,fun t2 h2 lv e=> ?_⟩
   ·rw[←hcell]
    exact World.cell?_of_block (hblk a.block hab fun l e'=>hs.2.2.2 t htm l e'.symm)
   ·rcases mem' t2 h2 with rfl|⟨k,hk,hk2⟩
    ·rcases hg lv with⟨l1,g1⟩|g1
     ·exact hs.2.2.2 t htm l1 (g1.symm.trans e)
     ·omega
    ·exact hs.2.2.2 t2 (List.mem_of_getElem? hk2) lv e
  ·intro b hb _ _ h4
   exact hblk b hb fun l e=>h4 t htm l e.symm
 have hσ: ∀b∈c.σ,w'.heap[b]? =c.w.heap[b]? :=fun b hb=>hblk b (hr.shid b hb) fun l e=>hr.ms t htm l (e▸hb)
 have hτ: ∀t2∈c.τ,t2.live=true→w'.heap[t2.g]? =c.w.heap[t2.g]? :=fun t2 h2 lv=>hblk t2.g (hr.tlt h2 lv) fun l e=>hr.mt t htm l t2 h2 lv e.symm
 have hother: ∀k t2,k≠id→c.μ[k]? =some t2→t2.live=true→w'.heap[t2.g]? =c.w.heap[t2.g]? :=fun k t2 hk hk2 lv=>
  hblk t2.g (hr.mlt t2 (List.mem_of_getElem? hk2) lv) fun l e=>hk (hr.md k id t2 t hk2 ht lv l e)
 refine⟨⟨hr.len, ?_,hr.tk, ?_,hr.nd,hr.td,hr.st,fun b p h=>Nat.lt_of_lt_of_le (hr.hidlt b p h) hsize,hr.thid,fun b hb=>Nat.lt_of_lt_of_le (hr.shid b hb) hsize,hr.dead, ?_, ?_, ?_, ?_, ?_, ?_, ?_,hr.gl.keep hE.keep⟩,hE⟩
 ·intro i b cs hb hcs
  obtain⟨vals,T,e1,e2,e3⟩:=hr.bx i b cs hb hcs
  exact⟨vals,T,(hσ b (List.mem_of_getElem? hb)).trans e1,e2,fun j p v hp hv=>⟨(e3 j p v hp hv).1.mono hE,(e3 j p v hp hv).2⟩⟩
 ·intro t2 h2 lv
  obtain⟨cur,e1,e2⟩:=hr.tb t2 h2 lv
  exact⟨cur,(hτ t2 h2 lv).trans e1,e2⟩
 ·show(c.μ.set id t').length=(H.mu.set id o').length
  simp[hr.mlen]
 ·intro i t2 o h2 ho
  replace h2:(c.μ.set id t')[i]? =some t2:=h2
  replace ho:(H.mu.set id o')[i]? =some o:=ho
  by_cases e:i=id
  ·subst e
   rw[List.getElem?_set_self hid]at h2
   rw[List.getElem?_set_self (by rw[←hr.mlen];exact hid)]at ho
   cases h2;cases ho
   exact hmo hE
  ·rw[List.getElem?_set_ne (fun e'=>e e'.symm)]at h2 ho
   exact(hr.mu i t2 o h2 ho).mono hE fun lv=>hother i t2 e h2 lv
 ·intro t2 h2 lv
  rcases mem' t2 h2 with rfl|⟨k,hk,hk2⟩
  ·rcases hg lv with⟨l1,g1⟩|g1
   ·rw[g1];exact Nat.lt_of_lt_of_le (hr.mlt t htm l1) hsize
   ·exact g1.2
  ·exact Nat.lt_of_lt_of_le (hr.mlt t2 (List.mem_of_getElem? hk2) lv) hsize
 ·intro i j t1 t2 hi hj l1 l2 e
  replace hi:(c.μ.set id t')[i]? =some t1:=hi
  replace hj:(c.μ.set id t')[j]? =some t2:=hj
  by_cases ei:i=id<;>by_cases ej:j=id
  ·omega
  ·subst ei
   rw[List.getElem?_set_self hid]at hi
   rw[List.getElem?_set_ne (fun e'=>ej e'.symm)]at hj
   cases hi
   rcases hg l1 with⟨lv,g1⟩|g1
   ·exact hr.md _ j t t2 ht hj lv l2 (g1.symm.trans e)
   ·have:=hr.mlt t2 (List.mem_of_getElem? hj) l2;omega
  ·subst ej
   rw[List.getElem?_set_self hid]at hj
   rw[List.getElem?_set_ne (fun e'=>ei e'.symm)]at hi
   cases hj
   rcases hg l2 with⟨lv,g1⟩|g1
   ·exact hr.md i _ t1 t hi ht l1 lv (e.trans g1)
   ·have:=hr.mlt t1 (List.mem_of_getElem? hi) l1;omega
  ·rw[List.getElem?_set_ne (fun e'=>ei e'.symm)]at hi
   rw[List.getElem?_set_ne (fun e'=>ej e'.symm)]at hj
   exact hr.md i j t1 t2 hi hj l1 l2 e
 ·intro t2 h2 lv hm
  rcases mem' t2 h2 with rfl|⟨k,hk,hk2⟩
  ·rcases hg lv with⟨l1,g1⟩|g1
   ·exact hr.ms t htm l1 (g1▸hm)
   ·have:=hr.shid _ hm;omega
  ·exact hr.ms t2 (List.mem_of_getElem? hk2) lv hm
 ·intro t2 h2 lv t3 h3 lv3 e
  rcases mem' t2 h2 with rfl|⟨k,hk,hk2⟩
  ·rcases hg lv with⟨l1,g1⟩|g1
   ·exact hr.mt t htm l1 t3 h3 lv3 (g1.symm.trans e)
   ·have:=hr.tlt h3 lv3;omega
  ·exact hr.mt t2 (List.mem_of_getElem? hk2) lv t3 h3 lv3 e
 ·intro t2 h2 lv p hp
  rcases mem' t2 h2 with rfl|⟨k,hk,hk2⟩
  ·rcases hg lv with⟨l1,g1⟩|g1
   ·exact hr.mhid t htm l1 p (g1▸hp)
   ·have:=hr.hidlt _ _ hp;omega
  ·exact hr.mhid t2 (List.mem_of_getElem? hk2) lv p hp
end
def keyEq:GV→GV→Option Bool
 | .int k a, .int k' b=>if k=k' then some (a==b)else none
 | .str s, .str s'=>some (s==s')
 | .bool a, .bool b=>some (a==b)
 |_,_=>none
def keyFit:TypeDesc→GV→Bool
 | .int _, .int _ _=>true
 | .string, .str _=>true
 | .bool, .bool _=>true
 |_,_=>false
theorem keyEq_symm{a b:GV}{x:Bool}(h:keyEq a b=some x):keyEq b a=some x:=by
 cases a<;>cases b<;>simp only[keyEq]at h⊢ <;>first|cases h|skip
 ·rename_i k a k' b
  split at h
  ·rename_i e;subst e;rw[if_pos rfl,Bool.beq_comm];exact h
  ·cases h
 ·rw[Bool.beq_comm]
 ·rename_i s s'
  have e:(s'==s)=(s==s'):=by
   show(s'.data==s.data)=(s.data==s'.data)
   rw[Bool.eq_iff_iff,beq_iff_eq,beq_iff_eq,eq_comm]
  rw[e]
theorem sameNow_of{d:TypeDesc}{g g':GV}{w:World}{S S':Nat→Nat→Prop}{v v':Value}{b:Bool}(hf:keyFit d g=true)(h:keyEq g g'=some b)(hv:RG w S g v)(hv':RG w S' g' v'):Instr.sameNow d v v'=some b:=by
 cases g<;>cases g'<;>simp only[keyEq]at h<;>first|cases h|skip
 all_goals(cases hv;cases hv';cases d<;>simp only[keyFit]at hf<;>first|cases hf|skip)
 ·simpa[Instr.sameNow]using h
 ·rfl
 ·rfl
def lookAll(k:GV):List (GV×GV)→Option (Option GV)
 |[]=>some none
 |e::r=>match keyEq k e.1,lookAll k r with
  |some true,some none=>some (some e.2)
  |some false,x=>x
  |_,_=>none
theorem lookAll_perm{k:GV}{es es':List (GV×GV)}(h:es.Perm es'):lookAll k es=lookAll k es':=by
 induction h with
 |nil=>rfl
 |cons x _ ih=>simp only[lookAll,ih]
 |swap x y l=>
  simp only[lookAll]
  cases keyEq k x.1 with
  |none=>cases keyEq k y.1 with
   |none=>rfl
   |some b=>cases b<;>rfl
  |some a=>cases keyEq k y.1 with
   |none=>cases a<;>rfl
   |some b=>cases a<;>cases b<;>(try rfl)<;>cases lookAll k l with
    |none=>rfl
    |some z=>cases z<;>rfl
 |trans _ _ h1 h2=>exact h1.trans h2
theorem lookAll_none{k:GV}: ∀{es:List (GV×GV)},lookAll k es=some none↔ ∀e∈es,keyEq k e.1=some false
 |[]=>by simp[lookAll]
 |e::r=>by
  simp only[lookAll,List.mem_cons,forall_eq_or_imp]
  cases keyEq k e.1 with
  |none=>simp
  |some b=>cases b with
   |false=>simp[lookAll_none (es:=r)]
   |true=>
    simp only[Option.some.injEq,Bool.true_eq_false,false_and,iff_false]
    cases lookAll k r with
    |none=>simp
    |some z=>cases z<;>simp
theorem findNow_of{d:TypeDesc}{k:GV}{kv:Value}{w:World}{S:Nat→Nat→Prop}(hf:keyFit d k=true)(hk:RG w S k kv): ∀(es:List (GV×GV)) (ents:List MapEntry) (i:Nat),es.length=ents.length→
  (∀(j:Nat) (e:GV×GV) (n:MapEntry),es[j]? =some e→ents[j]? =some n→RG w S e.1 n.key∧RG w S e.2 n.val)→
  (lookAll k es=some none→Instr.findNow d kv ents i=some none)∧ ∀g,lookAll k es=some (some g)→ ∃j val,Instr.findNow d kv ents i=some (some (j,val))∧RG w S g val
 |[],[],i,_,_=>⟨fun _=>rfl,fun g h=>by simp[lookAll]at h⟩
 |[],n::r,i,hl,_=>by simp at hl
 |e::es,[],i,hl,_=>by simp at hl
 |e::es,n::ents,i,hl,h=>by
  obtain⟨h1,h2⟩:=h 0 e n rfl rfl
  obtain⟨i1,i2⟩:=findNow_of hf hk es ents (i+1) (by simpa using hl) fun j e n he hn=>h (j+1) e n (by simpa using he) (by simpa using hn)
  simp only[lookAll,Instr.findNow]
  cases hq:keyEq k e.1 with
  |none=>simp
  |some b=>
   rw[sameNow_of hf hq hk h1]
   cases b with
   |false=>exact⟨fun q=>i1 q,fun g q=>i2 g q⟩
   |true=>
    constructor
    ·cases lookAll k es with
     |none=>simp
     |some z=>cases z<;>simp
    ·intro g q
     cases hr:lookAll k es with
     |none=>rw[hr]at q;cases q
     |some z=>
      rw[hr]at q
      cases z with
      |none=>cases q;exact⟨i,n.val,rfl,h2⟩
      |some _=>cases q
def MOeq:MO→MO→Prop
 | .map es, .map es'=>es.Perm es'
 |a,b=>a=b
theorem MOk.perm{P:Program}{c:Ctx}{t:MTok}{o o':MO}(h:MOk P c t o)(he:MOeq o o'):MOk P c t o':=by
 cases o with
 |gone n=>have:MO.gone n=o':=he;exact this▸h
 |arr n e es=>have:MO.arr n e es=o':=he;exact this▸h
 |iter n s pos=>have:MO.iter n s pos=o':=he;exact this▸h
 |map es=>
  cases o' with
  |gone n=>have:MO.map es=MO.gone n:=he;cases this
  |arr n e es'=>have:MO.map es=MO.arr n e es':=he;cases this
  |iter n s pos=>have:MO.map es=MO.iter n s pos:=he;cases this
  |map es'=>
   have hp:es.Perm es':=he
   obtain⟨h1,lv,ents,es2,hp2,a1,a2,a3⟩:=h
   exact⟨h1,lv,ents,es2,hp.symm.trans hp2,a1,a2,a3⟩
structure PHeq(H H':PH):Prop where
 bx:H.bx=H'.bx
 tk:H.tk=H'.tk
 len:H.mu.length=H'.mu.length
 mu: ∀(i:Nat) (o o':MO),H.mu[i]? =some o→H'.mu[i]? =some o'→MOeq o o'
theorem Rel.perm{P:Program}{c:Ctx}{H H':PH}(hr:Rel P c H)(h:PHeq H H'):Rel P c H':=by
 obtain⟨bx,tk,mu⟩:=H
 obtain⟨bx',tk',mu'⟩:=H'
 obtain⟨h1,h2,h3,h4⟩:=h
 subst h1;subst h2
 refine⟨hr.len,hr.bx,hr.tk,hr.tb,hr.nd,hr.td,hr.st,hr.hidlt,hr.thid,hr.shid,hr.dead,hr.mlen.trans h3,fun i t o' hi ho'=> ?_,hr.mlt,hr.md,hr.ms,hr.mt,hr.mhid,hr.gl⟩
 have hlt:i<mu.length:=by
  have:=(List.getElem?_eq_some_iff.1 ho').1
  simp only at h3 this
  omega
 exact(hr.mu i t mu[i] hi (List.getElem?_eq_getElem hlt)).perm (h4 i _ o' (List.getElem?_eq_getElem hlt) ho')
structure Ins where
 id:Nat
 k:GV
 v:GV
def Ins.ap(x:Ins)(H:PH):PH:=match H.mu[x.id]? with
 |some (.map es)=>⟨H.bx,H.tk,H.mu.set x.id (.map (es++[(x.k,x.v)]))⟩
 |_=>H
def InsOp(P:Program)(o:Oper)(ρ:Operand→PV)(x:Ins):Prop:=
 ∃(t:TypeId) (m key val:Operand) (kt et:TypeId) (d:TypeDesc),o.op= .insert t m key val∧P.underlying t=some (.map kt et)∧P.underlying kt=some d∧keyFit d x.k=true∧ρ m= .mp x.id∧ρ key= .g x.k∧ρ val= .g x.v
theorem run_checkKey_fit{P:Program}{kt:TypeId}{d:TypeDesc}{k:GV}{w:World}{S:Nat→Nat→Prop}{v:Value}(hu:P.underlying kt=some d)(hf:keyFit d k=true)(hk:RG w S k v)(b:Bool)(n:Nat)(w':World):(Instr.checkKey b (n+1) kt v).run P w'= .ok () w':=by
 cases d<;>simp only[keyFit]at hf<;>first|cases hf|skip
 all_goals(cases k<;>simp only[keyFit]at hf<;>first|cases hf|skip)
 all_goals(cases hk;simp[Instr.checkKey,Sem.run_bind,run_underlying hu])
theorem run_findKey_of{P:Program}{kt:TypeId}{d:TypeDesc}{v:Value}{es:List MapEntry}{r:Option (Nat×Value)}(hu:P.underlying kt=some d)(h:Instr.findNow d v es 0=some r)(w:World):(Instr.findKey kt v es).run P w= .ok r w:=by
 simp[Instr.findKey,Sem.run_bind,run_underlying hu,h]
theorem PO_ins{P:Program}{o:Oper}{ρ:Operand→PV}{H:PH}{x:Ins}{es:List (GV×GV)}(ho:InsOp P o ρ x)(hm:H.mu[x.id]? =some (.map es))(hfr:lookAll x.k es=some none):PO P o ρ H undefP (x.ap H):=by
 obtain⟨t,m,key,val,kt,et,d,hop,ht,hkt,hf,e1,e2,e3⟩:=ho
 intro c ρr hr hxx
 have x1:=hxx m (by simp[hop,Op.operands])
 have x2:=hxx key (by simp[hop,Op.operands])
 have x3:=hxx val (by simp[hop,Op.operands])
 rw[e1]at x1;rw[e2]at x2;rw[e3]at x3
 have hid:x.id<c.μ.length:=by rw[hr.mlen];exact(List.getElem?_eq_some_iff.1 hm).1
 have htk:=List.getElem?_eq_getElem hid
 generalize c.μ[x.id]=tk at htk
 obtain⟨g0,lv,ents,es',hp,a1,a2,a3⟩:=hr.mu x.id tk _ htk hm
 cases x1 with
 |mp _ mv t' ht' h1 hv=>
 rw[htk]at ht'
 cases ht'
 have hmv:=hv g0
 cases x2 with
 |g _ kv hkv=>
 cases x3 with
 |g _ vv hvv=>
 have hfind:=(findNow_of hf hkv es' ents.toList 0 (by simp[a2]) (fun j e n he hn=>by
  obtain⟨k1,k2,_⟩:=a3 j e.1 e.2 n he (by simpa using hn);exact⟨k1,k2⟩)).1 ((lookAll_perm hp).symm.trans hfr)
 generalize hkr:ρr key=kr at hkv hfind
 generalize hvr:ρr val=vr at hvv
 have hblk:c.w.heap.size>tk.g:=hr.mlt tk (List.mem_of_getElem? htk) lv
 have hrun:(execOp ρr o).run P c.w= .ok .skip {c.w with heap:=c.w.heap.setIfInBounds tk.g (.map (ents.push {key:=kr,val:=vr,born:=ents.size}) (ents.size+1))}:=by
  simp[execOp,hop,hmv,hkr,hvr,Instr.mapUpdate,Sem.run_bind,run_underlying ht,MapKept.run_getObj_map a1,run_checkKey_fit hkt hf hkv,run_findKey_of hkt hfind,MapKept.run_setObj_map _ a1]
 unfold OpGoes
 rw[hrun]
 have hap:x.ap H=⟨H.bx,H.tk,H.mu.set x.id (.map (es++[(x.k,x.v)]))⟩:=by unfold Ins.ap;rw[hm]
 have hset:c.μ.set x.id tk=c.μ:=by
  rw[List.getElem?_eq_some_iff]at htk
  obtain⟨_,rfl⟩:=htk
  simp
 have hh:=hr.setMu (o':= .map (es++[(x.k,x.v)])) htk rfl (.inl rfl) (w':={c.w with heap:=c.w.heap.setIfInBounds tk.g (.map (ents.push {key:=kr,val:=vr,born:=ents.size}) (ents.size+1))}) rfl ⟨rfl,fun _=>by first|exact Nat.le_refl _|exact Nat.le_succ _⟩ rfl (by simp)
  (fun b hb hne=>by simp[Array.getElem?_setIfInBounds,(hne lv).symm]) (fun lv=> .inl ⟨lv,rfl⟩) (fun hE=> ?_)
 ·rw[hset]at hh
  exact⟨_,rfl,hap▸hh.1,hh.2, .g _ _ (.raw _)⟩
 ·refine⟨g0,lv,ents.push {key:=kr,val:=vr,born:=ents.size},es'++[(x.k,x.v)],List.Perm.append hp (List.Perm.refl _), ?_,by simp[a2],fun i k v n hk hn=> ?_⟩
  ·simp[Array.getElem?_setIfInBounds,hblk]
  ·by_cases hi:i<es'.length
   ·rw[List.getElem?_append_left hi]at hk
    rw[Array.getElem?_push,if_neg (by omega)]at hn
    obtain⟨k1,k2,k3⟩:=a3 i k v n hk hn
    exact⟨k1.mono hE.keep,k2.mono hE.keep,k3⟩
   ·rw[List.getElem?_append_right (by omega)]at hk
    have hi0:i-es'.length=0:=by
     have:=(List.getElem?_eq_some_iff.1 hk).1
     simp at this;omega
    rw[hi0]at hk
    simp only[List.getElem?_cons_zero,Option.some.injEq,Prod.mk.injEq]at hk
    obtain⟨rfl,rfl⟩:=hk
    have hie:i=ents.size:=by omega
    rw[Array.getElem?_push,if_pos hie]at hn
    cases hn
    exact⟨hkv.mono hE.keep,hvv.mono hE.keep,hie.symm⟩
def intB(P:Program)(t:TypeId):Option IntKind:=match P.underlying t with|some (.int k)=>some k|_=>none
def kindB(P:Program):Op→Nat
 | .move _| .assign _| .pick .. | .fieldAddr .. | .field .. | .unOp .. | .binOp .. | .extract .. | .indexAddr .. | .index .. | .slice .. | .nilCheck _| .makeFunc .. | .build .. | .buildSlice .. =>0
 | .load .. =>1
 | .call {callee:= .builtin .len, .. }| .call {callee:= .builtin .cap, .. }| .call {callee:= .builtin .min, .. }| .call {callee:= .builtin .max, .. }=>0
 | .convert _ dst _=>match P.underlying dst with|some (.slice _)|none=>2|_=>0
 | .store .. =>3
 | .insert .. =>4
 |_=>2
def frD(K:List Nat):Option Tmp→Bool
 |some d=>K.any fun k=>Nat.beq k (30000+d)
 |none=>false
def frB(K:List Nat)(o:Oper):Bool:=match o.op with| .load .. =>frD K o.dst| .call .. =>frD K o.dst|_=>false
def flD(K:List Nat)(d:Tmp):Bool:=K.any fun k=>Nat.beq k (40000+d)
def alT(K:List Nat)(o:Oper):Option Tmp:=match o.op with| .alloc _=>(match o.dst with|some d=>bif flD K d then some d else none|none=>none)|_=>none
def abT(K:List Nat)(o:Oper):Option Tmp:=match o.op with| .store _ (.tmp x) _=>bif flD K x then some x else none|_=>none
def dstK(K:List Nat)(o:Oper):Option Tmp:=match abT K o with|some x=>some x|none=>o.dst
def stB(K:List Nat)(o:Oper):Bool:=match o.op with| .call {callee:= .value _, .. }=>(match o.dst with|some d=>K.any fun k=>Nat.beq k (35000+d)|none=>false)|_=>false
def kindK(P:Program)(K:List Nat)(o:Oper):Nat:=match alT K o with|some _=>0|none=>match abT K o with|some _=>2|none=>bif frB K o then 0 else bif stB K o then 3 else kindB P o.op
def noneB(x:Option Tmp):Bool:=match x with|none=>true|some _=>false
theorem noneB_iff{x:Option Tmp}(h:noneB x=true):x=none:=by cases x with|none=>rfl|some _=>cases h
def plB(K:List Nat)(o:Oper):Bool:=noneB (alT K o)&&(noneB (abT K o)&&(!frB K o&& !stB K o))
theorem plB_spec{K:List Nat}{o:Oper}(h:plB K o=true):alT K o=none∧abT K o=none∧frB K o=false:=by
 simp only[plB,Bool.and_eq_true,Bool.not_eq_true']at h
 exact⟨noneB_iff h.1,noneB_iff h.2.1,h.2.2.1⟩
theorem plB_st{K:List Nat}{o:Oper}(h:plB K o=true):stB K o=false:=by
 simp only[plB,Bool.and_eq_true,Bool.not_eq_true']at h
 exact h.2.2.2
theorem stB_kind{P:Program}{K:List Nat}{o:Oper}(h:kindB P o.op≠2):stB K o=false:=by
 unfold stB
 split
 ·rename_i ho;rw[ho]at h;exact absurd rfl h
 ·rfl
theorem kindK_of{P:Program}{K:List Nat}{o:Oper}(h:plB K o=true){n:Nat}(hk:kindB P o.op=n):kindK P K o=n:=by
 obtain⟨h1,h2,h3⟩:=plB_spec h
 unfold kindK
 rw[h1,h2,h3,plB_st h];exact hk
theorem alT_kind{P:Program}{K:List Nat}{o:Oper}(h:kindB P o.op≠2):alT K o=none:=by
 unfold alT
 split
 ·rename_i ho;rw[ho]at h;exact absurd rfl h
 ·rfl
theorem abT_kind{P:Program}{K:List Nat}{o:Oper}(h:kindB P o.op≠3):abT K o=none:=by
 unfold abT
 split
 ·rename_i ho;rw[ho]at h;exact absurd rfl h
 ·rfl
theorem frB_tt{K:List Nat}{o:Oper}(h:frB K o=true):alT K o=none∧abT K o=none:=by
 unfold frB at h
 unfold alT abT
 split at h
 ·rename_i ho;rw[ho];exact⟨rfl,rfl⟩
 ·rename_i ho;rw[ho];exact⟨rfl,rfl⟩
 ·cases h
theorem kindK_free{P:Program}{K:List Nat}{o:Oper}(h:frB K o=true):kindK P K o=0:=by
 obtain⟨h1,h2⟩:=frB_tt h
 simp[kindK,h,h1,h2]
theorem kindK_zero{P:Program}{K:List Nat}{o:Oper}(h:kindB P o.op=0):kindK P K o=0:=by
 unfold kindK
 rw[alT_kind (P:=P) (by omega),abT_kind (P:=P) (by omega),stB_kind (P:=P) (by omega)]
 cases frB K o<;>simp[h]
theorem pl_of_one{P:Program}{K:List Nat}{o:Oper}(h:kindB P o.op=1)(hf:frB K o=false):plB K o=true:=by
 unfold plB
 rw[alT_kind (P:=P) (by omega),abT_kind (P:=P) (by omega),hf,stB_kind (P:=P) (by omega)];rfl
def tmpsOf(o:Oper):List Tmp:=o.op.operands.toList.filterMap fun| .tmp t=>some t|_=>none
def looks(all:List Oper)(o:Oper):List Tmp:=tmpsOf o++(match o.guard with|some (g,_)=>((all[g]?).bind (·.dst)).toList|none=>[])
def memB:List Tmp→Tmp→Bool
 |[],_=>false
 |a::r,t=>bif Nat.beq t a then true else memB r t
theorem memB_iff: ∀{l:List Tmp} {t:Tmp},memB l t=true↔t∈l
 |[],t=>by simp[memB]
 |a::r,t=>by
  unfold memB
  cases e:Nat.beq t a with
  |true=>simp[Nat.eq_of_beq_eq_true e]
  |false=>
   have:t≠a:=fun h=>by rw[h,Nat.beq_refl]at e;cases e
   simp[this,memB_iff (l:=r)]
def optMem(l:List Tmp):Option Tmp→Bool|some t=>memB l t|none=>false
def optEq:Option Tmp→Option Tmp→Bool|some s,some t=>Nat.beq s t|_,_=>false
def conf(P:Program)(K:List Nat)(all:List Oper)(x y:Oper):Bool:=
 optMem (looks all y) (dstK K x)||optMem (looks all x) (dstK K y)||optEq (dstK K x) (dstK K y)||
 (Nat.ble 2 (kindK P K x)&&Nat.ble 2 (kindK P K y)&& !(Nat.beq (kindK P K x) 4&&Nat.beq (kindK P K y) 4))||(Nat.beq 1 (kindK P K x)&&Nat.beq 3 (kindK P K y))||(Nat.beq 3 (kindK P K x)&&Nat.beq 1 (kindK P K y))
def chunk(W n t:Nat):Nat:=(n>>>(t *W))%2^W
def mask(W bf:Nat):List Edge→Nat→Nat
 |[],s=>s
 |e::r,s=>bif Region.binds .any e then mask W bf r (s ||| (2^e.on ||| chunk W bf e.on))else mask W bf r s
def orAll(W n:Nat):List Tmp→Nat→Nat
 |[],s=>s
 |t::r,s=>orAll W n r (s ||| chunk W n t)
def putAll(W j:Nat):List Tmp→Nat→Nat
 |[],s=>s
 |t::r,s=>putAll W j r (s ||| 2^(t *W+j))
def must(W wr rd c ld st c2:Nat)(ls:List Tmp)(d:List Tmp)(k:Nat):Nat:=
 orAll W wr ls 0 ||| (orAll W rd d 0 ||| (orAll W wr d 0 ||| ((bif Nat.ble 2 k then(bif Nat.beq k 4 then c2 else c)else 0) ||| ((bif Nat.beq k 3 then ld else 0) ||| (bif Nat.beq k 1 then st else 0)))))
def orderF(P:Program)(K:List Nat)(W:Nat)(all:List Oper):List Oper→Nat→(wr rd bf c ld st c2:Nat)→Bool
 |[],_,_,_,_,_,_,_,_=>true
 |y::r,j,wr,rd,bf,c,ld,st,c2=>
  Nat.blt j W&&(y.after.toList.all (fun e=> !Region.binds .any e||Nat.blt e.on j)&&
  (Nat.beq (Nat.land (must W wr rd c ld st c2 (looks all y) (dstK K y).toList (kindK P K y)) (mask W bf y.after.toList 0)) (must W wr rd c ld st c2 (looks all y) (dstK K y).toList (kindK P K y))&&
  orderF P K W all r (j+1) (putAll W j (dstK K y).toList wr) (putAll W j (looks all y) rd) (bf ||| (mask W bf y.after.toList 0%2^W)<<<(j *W))
   (bif Nat.ble 2 (kindK P K y)then c ||| 2^j else c) (bif Nat.beq (kindK P K y) 1 then ld ||| 2^j else ld) (bif Nat.beq (kindK P K y) 3 then st ||| 2^j else st)
   (bif Nat.ble 2 (kindK P K y)&& !Nat.beq (kindK P K y) 4 then c2 ||| 2^j else c2)))
def isDst(K:List Nat)(x:Tmp)(o:Oper):Bool:=match dstK K o with|some d=>Nat.beq d x|none=>false
def sole2(x:Tmp):List Oper→Bool
 |[a,b]=>match a.op,b.op with
  | .alloc t, .store t' (.tmp x') _=>Nat.beq t t'&&(Nat.beq x' x&&(noneG a.guard&&(noneG b.guard&&noneB b.dst)))
  |_,_=>false
 |_=>false
where noneG:Option (Nat×Bool)→Bool|none=>true|some _=>false
def floatB(K:List Nat)(all:List Oper):Bool:=K.all fun k=> !Nat.ble 40000 k||sole2 (k-40000) (all.filter (isDst K (k-40000)))
def drawB(P:Program)(K:List Nat)(all:List Oper):Bool:=orderF P K all.length all all 0 0 0 0 0 0 0 0&&floatB K all
section
def ClosedS(all:List Oper)(S:Nat→Prop):Prop:= ∀j o,all[j]? =some o→S j→ ∀e∈o.after,Region.binds .any e=true→S e.on
theorem chunk_bit(W n t i:Nat):(chunk W n t).testBit i=(decide (i<W)&&n.testBit (t *W+i)):=by
 simp[chunk,Nat.testBit_mod_two_pow,Nat.testBit_shiftRight]
theorem two_bit(k i:Nat):(2^k).testBit i=decide (k=i):=Nat.testBit_two_pow
theorem mask_spec{W bf:Nat}{S:Nat→Prop}: ∀(l:List Edge) (s:Nat),(∀e∈l,Region.binds .any e=true→S e.on∧ ∀i,i<W→bf.testBit (e.on *W+i)=true→S i)→(∀i,s.testBit i=true→S i)→ ∀i,(mask W bf l s).testBit i=true→S i
 |[],s,_,hs,i,h=>hs i h
 |e::r,s,hl,hs,i,h=>by
  unfold mask at h
  cases hb:Region.binds .any e with
  |false=>rw[hb,cond_false]at h;exact mask_spec r s (fun e he=>hl e (by simp[he])) hs i h
  |true=>
   rw[hb,cond_true]at h
   refine mask_spec r _ (fun e he=>hl e (by simp[he])) (fun i hi=> ?_) i h
   obtain⟨h1,h2⟩:=hl e (by simp) hb
   simp only[Nat.testBit_or,two_bit,chunk_bit,Bool.or_eq_true,Bool.and_eq_true,decide_eq_true_eq]at hi
   rcases hi with hi|rfl|⟨hi,hj⟩
   ·exact hs i hi
   ·exact h1
   ·exact h2 i hi hj
theorem orAll_keep{W n i:Nat}: ∀(l:List Tmp) (s:Nat),s.testBit i=true→(orAll W n l s).testBit i=true
 |[],_,h=>h
 |t::r,s,h=>orAll_keep r _ (by simp[Nat.testBit_or,h])
theorem orAll_spec{W n i t:Nat}(hi:i<W)(hn:n.testBit (t *W+i)=true): ∀(l:List Tmp) (s:Nat),t∈l→(orAll W n l s).testBit i=true
 |[],_,h=>by simp at h
 |u::r,s,h=>by
  unfold orAll
  rcases List.mem_cons.1 h with rfl|h
  ·exact orAll_keep r _ (by simp[Nat.testBit_or,chunk_bit,hi,hn])
  ·exact orAll_spec hi hn r _ h
theorem putAll_keep{W j i:Nat}: ∀(l:List Tmp) (s:Nat),s.testBit i=true→(putAll W j l s).testBit i=true
 |[],_,h=>h
 |t::r,s,h=>putAll_keep r _ (by simp[Nat.testBit_or,h])
theorem putAll_spec{W j t:Nat}: ∀(l:List Tmp) (s:Nat),t∈l→(putAll W j l s).testBit (t *W+j)=true
 |[],_,h=>by simp at h
 |u::r,s,h=>by
  unfold putAll
  rcases List.mem_cons.1 h with rfl|h
  ·exact putAll_keep r _ (by simp[Nat.testBit_or])
  ·exact putAll_spec r _ h
theorem optMem_some{l:List Tmp}{d:Option Tmp}(h:optMem l d=true): ∃t,d=some t∧t∈l:=by
 cases d with
 |none=>cases h
 |some t=>exact⟨t,rfl,memB_iff.1 h⟩
structure OInv(P:Program)(K:List Nat)(W:Nat)(all:List Oper)(j wr rd bf c ld st c2:Nat):Prop where
 hwr: ∀i x t,i<j→all[i]? =some x→dstK K x=some t→wr.testBit (t *W+i)=true
 hrd: ∀i x t,i<j→all[i]? =some x→t∈looks all x→rd.testBit (t *W+i)=true
 hbf: ∀S,ClosedS all S→ ∀k,k<j→S k→ ∀i,i<W→bf.testBit (k *W+i)=true→S i
 hbz: ∀p,j *W≤p→bf.testBit p=false
 hc: ∀i x,i<j→all[i]? =some x→2≤kindK P K x→c.testBit i=true
 hld: ∀i x,i<j→all[i]? =some x→kindK P K x=1→ld.testBit i=true
 hst: ∀i x,i<j→all[i]? =some x→kindK P K x=3→st.testBit i=true
 hc2: ∀i x,i<j→all[i]? =some x→2≤kindK P K x→kindK P K x≠4→c2.testBit i=true
theorem orderF_spec{P:Program}{K:List Nat}{W:Nat}{all:List Oper}: ∀(l:List Oper) (j wr rd bf c ld st c2:Nat),(∀k,l[k]? =all[j+k]?)→OInv P K W all j wr rd bf c ld st c2→orderF P K W all l j wr rd bf c ld st c2=true→
  ∀k y,j≤k→all[k]? =some y→(∀e∈y.after,Region.binds .any e=true→e.on<k)∧ ∀S,ClosedS all S→ ∀i x,i<k→all[i]? =some x→conf P K all x y=true→S k→S i
 |[],j,_,_,_,_,_,_,_,hl,_,_,k,y,hk,hy=>by
  have:=hl (k-j)
  rw[show j+(k-j)=k by omega,hy]at this
  simp at this
 |y0::r,j,wr,rd,bf,c,ld,st,c2,hl,hI,h,k,y,hk,hy=>by
  simp only[orderF,Bool.and_eq_true]at h
  obtain⟨hjW,hback,hmust,hrest⟩:=h
  have hjW':j<W:=by simpa[Nat.blt_eq]using hjW
  have hy0:all[j]? =some y0:=by simpa using(hl 0).symm
  have hon: ∀e∈y0.after,Region.binds .any e=true→e.on<j:=fun e he hb=>by
   have:=List.all_eq_true.1 hback e (by simpa using he)
   rw[hb]at this
   simpa[Nat.blt_eq]using this
  have hmask: ∀S,ClosedS all S→S j→ ∀i,(mask W bf y0.after.toList 0).testBit i=true→S i:=fun S hS hSj=>
   mask_spec _ 0 (fun e he hb=>by
    have h1:=hS j y0 hy0 hSj e (by simpa using he) hb
    exact⟨h1,fun i hi hbit=>hI.hbf S hS e.on (hon e (by simpa using he) hb) h1 i hi hbit⟩) (by simp)
  by_cases e:k=j
  ·subst e
   rw[hy0]at hy
   cases hy
   refine⟨hon,fun S hS i x hi hx hc hk=>hmask S hS hk i ?_⟩
   have hiW:i<W:=by omega
   have hm:(must W wr rd c ld st c2 (looks all y0) (dstK K y0).toList (kindK P K y0)).testBit i=true:=by
    simp only[conf,Bool.or_eq_true,Bool.and_eq_true,Nat.ble_eq,Nat.beq_eq]at hc
    unfold must
    simp only[Nat.testBit_or,Bool.or_eq_true]
    rcases hc with((((hc|hc)|hc)|hc)|hc)|hc
    ·obtain⟨t,h1,h2⟩:=optMem_some hc
     exact .inl (orAll_spec hiW (hI.hwr i x t hi hx h1) _ _ h2)
    ·obtain⟨t,h1,h2⟩:=optMem_some hc
     exact .inr (.inl (orAll_spec hiW (hI.hrd i x t hi hx h2) _ _ (by simp[h1])))
    ·unfold optEq at hc
     split at hc
     ·rename_i s t h1 h2
      have e:=Nat.eq_of_beq_eq_true hc
      subst e
      exact .inr (.inr (.inl (orAll_spec hiW (hI.hwr i x _ hi hx h1) _ _ (by simp[h2]))))
     ·cases hc
    ·refine .inr (.inr (.inr (.inl ?_)))
     obtain⟨⟨hc1,hc2⟩,hc3⟩:=hc
     rw[Nat.ble_eq_true_of_le hc2,cond_true]
     cases h4:Nat.beq (kindK P K y0) 4 with
     |false=>rw[cond_false];exact hI.hc i x hi hx hc1
     |true=>
      rw[h4,Bool.and_true,Bool.not_eq_true']at hc3
      rw[cond_true]
      exact hI.hc2 i x hi hx hc1 fun e=>by rw[e]at hc3;cases hc3
    ·refine .inr (.inr (.inr (.inr (.inl ?_))))
     rw[←hc.2]
     exact hI.hld i x hi hx hc.1.symm
    ·refine .inr (.inr (.inr (.inr (.inr ?_))))
     rw[←hc.2]
     exact hI.hst i x hi hx hc.1.symm
   have he:=Nat.eq_of_beq_eq_true hmust
   rw[←he]at hm
   have hm':((must W wr rd c ld st c2 (looks all y0) (dstK K y0).toList (kindK P K y0)) &&& (mask W bf y0.after.toList 0)).testBit i=true:=hm
   rw[Nat.testBit_and,Bool.and_eq_true]at hm'
   exact hm'.2
  ·refine orderF_spec r (j+1) _ _ _ _ _ _ _ (fun q=>by have:=hl (q+1);simpa[Nat.add_assoc,Nat.add_comm 1 q]using this) ?_ hrest k y (by omega) hy
   have hcase: ∀i x,i<j+1→all[i]? =some x→i<j∨(i=j∧x=y0):=fun i x hi hx=>by
    by_cases e:i=j
    ·subst e;rw[hy0]at hx;cases hx;exact .inr ⟨rfl,rfl⟩
    ·exact .inl (by omega)
   refine⟨?_, ?_, ?_, ?_, ?_, ?_, ?_, ?_⟩
   ·intro i x t hi hx hd
    rcases hcase i x hi hx with h1|⟨rfl,rfl⟩
    ·exact putAll_keep _ _ (hI.hwr i x t h1 hx hd)
    ·exact putAll_spec _ _ (by simp[hd])
   ·intro i x t hi hx hd
    rcases hcase i x hi hx with h1|⟨rfl,rfl⟩
    ·exact putAll_keep _ _ (hI.hrd i x t h1 hx hd)
    ·exact putAll_spec _ _ hd
   ·intro S hS q hq hSq i hi hbit
    simp only[Nat.testBit_or,Nat.testBit_shiftLeft,Nat.testBit_mod_two_pow,Bool.or_eq_true,Bool.and_eq_true,decide_eq_true_eq]at hbit
    by_cases e:q=j
    ·subst e
     rcases hbit with hbit|⟨_,_,hbit⟩
     ·rw[hI.hbz _ (Nat.le_add_right _ _)]at hbit;cases hbit
     ·rw[show q *W+i-q *W=i by omega]at hbit
      exact hmask S hS hSq i hbit
    ·have hqj:q<j:=by omega
     rcases hbit with hbit|⟨hge,_⟩
     ·exact hI.hbf S hS q hqj hSq i hi hbit
     ·exfalso
      have:(q+1) *W≤j *W:=Nat.mul_le_mul_right _ hqj
      rw[Nat.add_mul,Nat.one_mul]at this
      omega
   ·intro p hp
    rw[Nat.add_mul,Nat.one_mul]at hp
    simp only[Nat.testBit_or,Nat.testBit_shiftLeft,Nat.testBit_mod_two_pow,hI.hbz p (by omega),Bool.false_or]
    rw[decide_eq_false (show ¬p-j *W<W by omega)]
    simp
   ·intro i x hi hx hk2
    rcases hcase i x hi hx with h1|⟨rfl,rfl⟩
    ·have:=hI.hc i x h1 hx hk2
     cases Nat.ble 2 (kindK P K y0)<;>simp[Nat.testBit_or,this]
    ·rw[Nat.ble_eq_true_of_le hk2];simp[Nat.testBit_or]
   ·intro i x hi hx hk2
    rcases hcase i x hi hx with h1|⟨rfl,rfl⟩
    ·have:=hI.hld i x h1 hx hk2
     cases Nat.beq (kindK P K y0) 1<;>simp[Nat.testBit_or,this]
    ·rw[hk2];simp[Nat.testBit_or]
   ·intro i x hi hx hk2
    rcases hcase i x hi hx with h1|⟨rfl,rfl⟩
    ·have:=hI.hst i x h1 hx hk2
     cases Nat.beq (kindK P K y0) 3<;>simp[Nat.testBit_or,this]
    ·rw[hk2];simp[Nat.testBit_or]
   ·intro i x hi hx hk2 hk4
    rcases hcase i x hi hx with h1|⟨rfl,rfl⟩
    ·have:=hI.hc2 i x h1 hx hk2 hk4
     cases(Nat.ble 2 (kindK P K y0)&& !Nat.beq (kindK P K y0) 4)<;>simp[Nat.testBit_or,this]
    ·have e4:Nat.beq (kindK P K x) 4=false:=Bool.eq_false_iff.2 fun h=>hk4 (Nat.eq_of_beq_eq_true h)
     rw[Nat.ble_eq_true_of_le hk2,e4];simp[Nat.testBit_or]
theorem filter_two{α:Type}{p:α→Bool}{a b:α}: ∀{l:List α},l.filter p=[a,b]→ ∃i u,i<u∧l[i]? =some a∧l[u]? =some b∧p a=true∧p b=true∧ ∀(j:Nat) (o:α),l[j]? =some o→p o=true→j=i∨j=u
 |[],h=>by simp at h
 |x::l,h=>by
  by_cases hx:p x=true
  ·rw[List.filter_cons_of_pos hx]at h
   simp only[List.cons.injEq]at h
   obtain⟨rfl,h⟩:=h
   have one: ∀{l:List α},l.filter p=[b]→ ∃u,l[u]? =some b∧p b=true∧ ∀(j:Nat) (o:α),l[j]? =some o→p o=true→j=u:=by
    intro l
    induction l with
    |nil=>intro h;simp at h
    |cons y l ih=>
     intro h
     by_cases hy:p y=true
     ·rw[List.filter_cons_of_pos hy]at h
      simp only[List.cons.injEq]at h
      obtain⟨rfl,hnil⟩:=h
      refine⟨0,rfl,hy,fun j o hj ho=> ?_⟩
      cases j with
      |zero=>rfl
      |succ j=>
       have hm:o∈l.filter p:=List.mem_filter.2 ⟨List.mem_of_getElem? (by simpa using hj),ho⟩
       rw[hnil]at hm;cases hm
     ·rw[List.filter_cons_of_neg hy]at h
      obtain⟨u,h1,h2,h3⟩:=ih h
      refine⟨u+1,by simpa using h1,h2,fun j o hj ho=> ?_⟩
      cases j with
      |zero=>simp at hj;subst hj;exact absurd ho hy
      |succ j=>rw[h3 j o (by simpa using hj) ho]
   obtain⟨u,h1,h2,h3⟩:=one h
   refine⟨0,u+1,by omega,rfl,by simpa using h1,hx,h2,fun j o hj ho=> ?_⟩
   cases j with
   |zero=>exact .inl rfl
   |succ j=>right;rw[h3 j o (by simpa using hj) ho]
  ·rw[List.filter_cons_of_neg hx]at h
   obtain⟨i,u,h1,h2,h3,h4,h5,h6⟩:=filter_two h
   refine⟨i+1,u+1,by omega,by simpa using h2,by simpa using h3,h4,h5,fun j o hj ho=> ?_⟩
   cases j with
   |zero=>simp at hj;subst hj;exact absurd ho hx
   |succ j=>rcases h6 j o (by simpa using hj) ho with rfl|rfl<;>simp
theorem isDst_iff{K:List Nat}{x:Tmp}{o:Oper}:isDst K x o=true↔dstK K o=some x:=by
 unfold isDst
 cases h:dstK K o with
 |none=>simp
 |some d=>simp[Nat.beq_eq]
theorem flD_iff{K:List Nat}{d:Tmp}:flD K d=true↔40000+d∈K:=by
 unfold flD
 rw[List.any_eq_true]
 constructor
 ·rintro⟨k,hk,h⟩;rw[←Nat.eq_of_beq_eq_true h];exact hk
 ·intro h;exact⟨_,h,Nat.beq_refl _⟩
structure Floats(K:List Nat)(all:List Oper)(x:Tmp):Prop where
 ex: ∃(i u:Nat) (a b:Oper) (t:TypeId) (y:Operand),i<u∧all[i]? =some a∧all[u]? =some b∧a.op= .alloc t∧b.op= .store t (.tmp x) y∧a.guard=none∧b.guard=none∧b.dst=none∧alT K a=some x∧abT K b=some x∧
  ∀(j:Nat) (o:Oper),all[j]? =some o→dstK K o=some x→j=i∨j=u
theorem floats_of{K:List Nat}{all:List Oper}(h:floatB K all=true){x:Tmp}(hx:40000+x∈K):Floats K all x:=by
 have h1:=List.all_eq_true.1 h _ hx
 rw[Nat.ble_eq_true_of_le (by omega),Bool.not_true,Bool.false_or,Nat.add_sub_cancel_left]at h1
 unfold sole2 at h1
 split at h1
 ·rename_i a b hf
  obtain⟨i,u,e1,e2,e3,e4,e5,e6⟩:=filter_two hf
  split at h1
  ·rename_i t t' x' y ha hb
   simp only[Bool.and_eq_true]at h1
   obtain⟨g1,g2,g3,g4,g5⟩:=h1
   have g1:=Nat.eq_of_beq_eq_true g1
   have g2:=Nat.eq_of_beq_eq_true g2
   subst g1 g2
   have ng: ∀{g:Option (Nat×Bool)},sole2.noneG g=true→g=none:=by intro g h;cases g with|none=>rfl|some _=>cases h
   have hda:a.dst=some x':=by
    have:=isDst_iff.1 e4
    unfold dstK abT at this
    rw[ha]at this
    exact this
   refine⟨i,u,a,b,t,y,e1,e2,e3,ha,hb,ng g3,ng g4,noneB_iff g5, ?_, ?_,fun j o hj ho=>e6 j o hj (isDst_iff.2 ho)⟩
   ·unfold alT;rw[ha,hda];simp only;rw[flD_iff.2 hx,cond_true]
   ·unfold abT;rw[hb];simp only;rw[flD_iff.2 hx,cond_true]
  ·cases h1
 ·cases h1
structure Ordered(P:Program)(K:List Nat)(all:List Oper):Prop where
 back: ∀(k:Nat) (y:Oper),all[k]? =some y→ ∀e∈y.after,Region.binds .any e=true→e.on<k
 pair: ∀(S:Nat→Prop),ClosedS all S→ ∀(k:Nat) (y:Oper) (i:Nat) (x:Oper),all[k]? =some y→i<k→all[i]? =some x→conf P K all x y=true→S k→S i
 float: ∀x,40000+x∈K→Floats K all x
theorem ordered_of{P:Program}{K:List Nat}{all:List Oper}(h:drawB P K all=true):Ordered P K all:=by
 unfold drawB at h
 rw[Bool.and_eq_true]at h
 obtain⟨h,hfl⟩:=h
 have h1:=orderF_spec all 0 0 0 0 0 0 0 0 (by simp) ⟨by simp,by simp,by simp,by simp,by simp,by simp,by simp,by simp⟩ h
 refine⟨?_, ?_,fun x hx=>floats_of hfl hx⟩
 ·exact fun k y hy=>(h1 k y (Nat.zero_le _) hy).1
 ·exact fun S hS k y i x hy hi hx hc hk=>(h1 k y (Nat.zero_le _) hy).2 S hS i x hi hx hc hk
end
def KMu(b:Nat)(H H':PH):Prop:=cond (Nat.ble 30000 b) True (cond (Nat.ble 20000 b) (H.bx[b-20000]? =H'.bx[b-20000]?) (cond (Nat.ble 10000 b) (H.mu[b-10000]? =H'.mu[b-10000]?) (H.bx[b]? =H'.bx[b]?)))
theorem KMu.refl(b:Nat)(H:PH):KMu b H H:=by
 unfold KMu
 cases Nat.ble 30000 b<;>cases Nat.ble 20000 b<;>cases Nat.ble 10000 b<;>simp
theorem KMu.symm{b:Nat}{H H':PH}(h:KMu b H H'):KMu b H' H:=by
 unfold KMu at *
 revert h
 cases Nat.ble 30000 b<;>cases Nat.ble 20000 b<;>cases Nat.ble 10000 b<;>simp only[cond_true,cond_false]<;>intro h<;>first|exact h.symm|exact trivial
theorem KMu.trans{b:Nat}{H H' H'':PH}(h:KMu b H H')(k:KMu b H' H''):KMu b H H'':=by
 unfold KMu at *
 revert h k
 cases Nat.ble 30000 b<;>cases Nat.ble 20000 b<;>cases Nat.ble 10000 b<;>simp only[cond_true,cond_false]<;>intro h k<;>first|exact h.trans k|exact trivial
def KEq:List Nat→PH→PH→Prop
 |[],_,_=>True
 |b::K,H,H'=>KMu b H H'∧KEq K H H'
theorem KEq.refl: ∀(K:List Nat) (H:PH),KEq K H H
 |[],_=>trivial
 |_::K,H=>⟨.refl _ _,KEq.refl K H⟩
theorem KEq.symm: ∀{K:List Nat} {H H':PH},KEq K H H'→KEq K H' H
 |[],_,_,_=>trivial
 |_::_,_,_,h=>⟨h.1.symm,KEq.symm h.2⟩
theorem KEq.trans: ∀{K:List Nat} {H H' H'':PH},KEq K H H'→KEq K H' H''→KEq K H H''
 |[],_,_,_,_,_=>trivial
 |_::_,_,_,_,h,k=>⟨h.1.trans k.1,KEq.trans h.2 k.2⟩
theorem KEq.get: ∀{K:List Nat} {H H':PH},KEq K H H'→ ∀b∈K,KMu b H H'
 |[],_,_,_,b,hb=>by simp at hb
 |k::K,_,_,h,b,hb=>by
  rcases List.mem_cons.1 hb with rfl|hb
  ·exact h.1
  ·exact KEq.get h.2 b hb
theorem ble_no{a b:Nat}(h:b<a):Nat.ble a b=false:=Bool.eq_false_iff.2 fun h'=>by have:=Nat.le_of_ble_eq_true h';omega
theorem ble_lt{a b:Nat}(h:Nat.ble a b=false):b<a:=Nat.lt_of_not_le fun h'=>by rw[Nat.ble_eq_true_of_le h']at h;cases h
theorem KEq.at{K:List Nat}{H H':PH}(h:KEq K H H')(b:Nat)(hb:b∈K)(hl:Nat.ble 10000 b=false):H.bx[b]? =H'.bx[b]? :=by
 have:=h.get b hb
 have h1:=ble_lt hl
 unfold KMu at this
 rw[hl,ble_no (by omega),ble_no (by omega)]at this
 exact this
theorem KEq.mu{K:List Nat}{H H':PH}(h:KEq K H H')(j:Nat)(hj:10000+j∈K)(hl:Nat.ble 10000 j=false):H.mu[j]? =H'.mu[j]? :=by
 have:=h.get _ hj
 have hl':=ble_lt hl
 have e:Nat.ble 10000 (10000+j)=true:=Nat.ble_eq_true_of_le (by omega)
 unfold KMu at this
 rw[e,ble_no (by omega),ble_no (by omega)]at this
 simpa using this
def shM:Option MO→Option (Nat×Nat×Nat×Nat)
 |none=>none
 |some (.gone n)=>some (0,n,0,0)
 |some (.arr n e es)=>some (1,n,e,es.length)
 |some (.map es)=>some (2,0,0,es.length)
 |some (.iter n _ pos)=>some (3,n,0,pos)
def KSo(b:Nat)(H H':PH):Prop:=cond (Nat.ble 30000 b) True (cond (Nat.ble 20000 b) (H.bx[b-20000]? =H'.bx[b-20000]?) (cond (Nat.ble 10000 b) (shM H.mu[b-10000]? =shM H'.mu[b-10000]?) True))
theorem KMu.so{b:Nat}{H H':PH}(h:KMu b H H'):KSo b H H':=by
 unfold KMu at h
 unfold KSo
 revert h
 cases Nat.ble 30000 b<;>cases Nat.ble 20000 b<;>cases Nat.ble 10000 b<;>simp only[cond_true,cond_false]<;>intro h<;>first|exact trivial|exact h|rw[h]
def KSh:List Nat→PH→PH→Prop
 |[],_,_=>True
 |b::K,H,H'=>KSo b H H'∧KSh K H H'
theorem KEq.sh: ∀{K:List Nat} {H H':PH},KEq K H H'→KSh K H H'
 |[],_,_,_=>trivial
 |_::_,_,_,h=>⟨h.1.so,KEq.sh h.2⟩
theorem KSh.refl(K:List Nat)(H:PH):KSh K H H:=(KEq.refl K H).sh
theorem KSo.symm{b:Nat}{H H':PH}(h:KSo b H H'):KSo b H' H:=by
 unfold KSo at *
 revert h
 cases Nat.ble 30000 b<;>cases Nat.ble 20000 b<;>cases Nat.ble 10000 b<;>simp only[cond_true,cond_false]<;>intro h<;>first|exact h.symm|exact trivial
theorem KSo.trans{b:Nat}{H H' H'':PH}(h:KSo b H H')(k:KSo b H' H''):KSo b H H'':=by
 unfold KSo at *
 revert h k
 cases Nat.ble 30000 b<;>cases Nat.ble 20000 b<;>cases Nat.ble 10000 b<;>simp only[cond_true,cond_false]<;>intro h k<;>first|exact h.trans k|exact trivial
theorem KSh.symm: ∀{K:List Nat} {H H':PH},KSh K H H'→KSh K H' H
 |[],_,_,_=>trivial
 |_::_,_,_,h=>⟨h.1.symm,KSh.symm h.2⟩
theorem KSh.trans: ∀{K:List Nat} {H H' H'':PH},KSh K H H'→KSh K H' H''→KSh K H H''
 |[],_,_,_,_,_=>trivial
 |_::_,_,_,_,h,k=>⟨h.1.trans k.1,KSh.trans h.2 k.2⟩
theorem KSh.get: ∀{K:List Nat} {H H':PH},KSh K H H'→ ∀b∈K,KSo b H H'
 |[],_,_,_,b,hb=>by simp at hb
 |k::K,_,_,h,b,hb=>by
  rcases List.mem_cons.1 hb with rfl|hb
  ·exact h.1
  ·exact KSh.get h.2 b hb
theorem KSh.at{K:List Nat}{H H':PH}(h:KSh K H H')(j:Nat)(hj:10000+j∈K)(hl:Nat.ble 10000 j=false):shM H.mu[j]? =shM H'.mu[j]? :=by
 have:=h.get _ hj
 have hl':=ble_lt hl
 have e:Nat.ble 10000 (10000+j)=true:=Nat.ble_eq_true_of_le (by omega)
 unfold KSo at this
 rw[e,ble_no (by omega),ble_no (by omega)]at this
 simpa using this
theorem KSh.fix{K:List Nat}{H H':PH}(h:KSh K H H')(j:Nat)(hj:memB K (20000+j)=true)(hl:Nat.ble 10000 j=false):H.bx[j]? =H'.bx[j]? :=by
 have:=h.get _ (memB_iff.1 hj)
 have hl':=ble_lt hl
 have e:Nat.ble 20000 (20000+j)=true:=Nat.ble_eq_true_of_le (by omega)
 unfold KSo at this
 rw[e,ble_no (by omega)]at this
 simpa using this
theorem KSh.of_bx{b:Nat}{H H':PH}(hm:H.mu=H'.mu)(hb: ∀j,j≠b→H.bx[j]? =H'.bx[j]?): ∀{K:List Nat},memB K (20000+b)=false→KSh K H H'
 |[],_=>trivial
 |k::K,hk=>by
  unfold memB at hk
  refine⟨?_,KSh.of_bx hm hb ?_⟩
  ·unfold KSo
   cases h3:Nat.ble 30000 k with
   |true=>exact trivial
   |false=>
    cases h2:Nat.ble 20000 k with
    |true=>
     simp only[cond_true,cond_false]
     by_cases e:k-20000=b
     ·have:=Nat.le_of_ble_eq_true h2
      have e':20000+b=k:=by omega
      rw[e',Nat.beq_refl,cond_true]at hk
      cases hk
     ·exact hb _ e
    |false=>
     cases Nat.ble 10000 k
     ·exact trivial
     ·simp only[cond_true,cond_false];rw[hm]
  ·revert hk
   cases Nat.beq (20000+b) k<;>simp
theorem KEq.of_mu{H H':PH}(hb:H.bx=H'.bx): ∀{K:List Nat},(∀i,memB K (10000+i)=true→H.mu[i]? =H'.mu[i]?)→KEq K H H'
 |[],_=>trivial
 |k::K,h=>by
  refine⟨?_,KEq.of_mu hb fun i hi=>h i ?_⟩
  ·unfold KMu
   cases h3:Nat.ble 30000 k with
   |true=>exact trivial
   |false=>cases h2:Nat.ble 20000 k with
    |true=>simp only[cond_true,cond_false];rw[hb]
    |false=>cases h1:Nat.ble 10000 k with
     |true=>
      simp only[cond_true,cond_false]
      refine h _ (memB_iff.2 ?_)
      have:=Nat.le_of_ble_eq_true h1
      rw[show 10000+(k-10000)=k by omega]
      exact List.mem_cons_self ..
     |false=>simp only[cond_false];rw[hb]
  ·exact memB_iff.2 (List.mem_cons_of_mem _ (memB_iff.1 hi))
def addO(D:List Ins)(i:Nat):MO→MO
 | .map es=> .map (es++(D.filter fun x=>Nat.beq x.id i).map fun x=>(x.k,x.v))
 |o=>o
def addAll(D:List Ins)(H:PH):PH:=⟨H.bx,H.tk,H.mu.mapIdx (addO D)⟩
theorem addO_nil(i:Nat): ∀o:MO,addO [] i o=o
 | .gone _=>rfl
 | .arr _ _ _=>rfl
 | .iter _ _ _=>rfl
 | .map es=>by simp[addO]
theorem addAll_at(D:List Ins)(H:PH)(i:Nat):(addAll D H).mu[i]? =(H.mu[i]?).map (addO D i):=by simp[addAll]
theorem addAll_nil(H:PH):addAll [] H=H:=by
 obtain⟨bx,tk,mu⟩:=H
 have:mu.mapIdx (addO [])=mu:=List.ext_getElem? fun i=>by
  rw[List.getElem?_mapIdx]
  cases mu[i]? with
  |none=>rfl
  |some o=>simp[addO_nil]
 simp only[addAll,this]
theorem addO_snoc(D:List Ins)(x:Ins)(i:Nat)(o:MO):addO (D++[x]) i o=bif Nat.beq x.id i then(match addO D i o with| .map es=> .map (es++[(x.k,x.v)])|o=>o)else addO D i o:=by
 cases o with
 |gone n=>cases Nat.beq x.id i<;>rfl
 |arr n e es=>cases Nat.beq x.id i<;>rfl
 |iter n s pos=>cases Nat.beq x.id i<;>rfl
 |map es=>
  simp only[addO,List.filter_append,List.map_append]
  cases h:Nat.beq x.id i<;>simp[h]
theorem Ins.ap_bx(x:Ins)(H:PH):(x.ap H).bx=H.bx:=by unfold Ins.ap;split<;>rfl
theorem Ins.ap_tk(x:Ins)(H:PH):(x.ap H).tk=H.tk:=by unfold Ins.ap;split<;>rfl
theorem Ins.ap_at(x:Ins)(H:PH)(i:Nat):(x.ap H).mu[i]? =bif Nat.beq x.id i then(H.mu[i]?).map (fun o=>match o with| .map es=> .map (es++[(x.k,x.v)])|o=>o)else H.mu[i]? :=by
 unfold Ins.ap
 cases h:Nat.beq x.id i with
 |true=>
  have e:=Nat.eq_of_beq_eq_true h
  subst e
  simp only[cond_true]
  split
  ·rename_i es he
   have hlt:=(List.getElem?_eq_some_iff.1 he).1
   rw[he]
   simp[List.getElem?_set,hlt]
  ·rename_i hn
   cases he:H.mu[x.id]? with
   |none=>rfl
   |some o=>
    cases o with
    |gone n=>rfl
    |arr n e es=>rfl
    |iter n s pos=>rfl
    |map es=>exact absurd he (hn es)
 |false=>
  have e:x.id≠i:=fun e=>by rw[e,Nat.beq_refl]at h;cases h
  simp only[cond_false]
  split
  ·simp[List.getElem?_set,e]
  ·rfl
theorem ap_addAll(x:Ins)(D:List Ins)(H:PH):x.ap (addAll D H)=addAll (D++[x]) H:=by
 have h1:=Ins.ap_bx x (addAll D H)
 have h2:=Ins.ap_tk x (addAll D H)
 have h3:(x.ap (addAll D H)).mu=(addAll (D++[x]) H).mu:=List.ext_getElem? fun i=>by
  rw[Ins.ap_at,addAll_at,addAll_at]
  cases H.mu[i]? with
  |none=>cases Nat.beq x.id i<;>rfl
  |some o=>
   simp only[Option.map_some,addO_snoc]
   cases Nat.beq x.id i<;>rfl
 generalize x.ap (addAll D H)=A at h1 h2 h3
 obtain⟨a,b,c⟩:=A
 simp only at h1 h2 h3
 subst h1;subst h2;subst h3
 rfl
theorem ap_eq(x:Ins)(H:PH):x.ap H=addAll [x] H:=by
 have:=ap_addAll x [] H
 rw[addAll_nil]at this
 exact this
theorem addAll_perm{D E:List Ins}(h:D.Perm E)(H:PH):PHeq (addAll D H) (addAll E H):=by
 refine⟨rfl,rfl,by simp[addAll],fun i o o' ho ho'=> ?_⟩
 rw[addAll_at]at ho ho'
 cases hm:H.mu[i]? with
 |none=>rw[hm]at ho;cases ho
 |some x=>
  rw[hm]at ho ho'
  simp only[Option.map_some,Option.some.injEq]at ho ho'
  subst ho;subst ho'
  cases x with
  |gone n=>rfl
  |arr n e es=>rfl
  |iter n s pos=>rfl
  |map es=>exact List.Perm.append (List.Perm.refl _) ((h.filter _).map _)
theorem addAll_keq{K:List Nat}{D:List Ins}(h: ∀x∈D,memB K (10000+x.id)=false)(H:PH):KEq K H (addAll D H):=by
 refine KEq.of_mu (H:=H) (H':=addAll D H) (show H.bx=(addAll D H).bx from rfl) fun i hi=> ?_
 rw[addAll_at]
 have hf:(D.filter fun x=>Nat.beq x.id i)=[]:=List.filter_eq_nil_iff.2 fun x hx hb=>by
  have e:=Nat.eq_of_beq_eq_true hb
  have:=h x hx
  rw[e,hi]at this
  cases this
 cases H.mu[i]? with
 |none=>rfl
 |some o=>cases o<;>simp[addO,hf]
def Cond(P:Program)(K:List Nat)(o:Oper)(env:Env)(H:PH)(v:PV)(H':PH):Prop:=
 (alT K o=none∧abT K o=none∧((kindK P K o=0∧H'=H∧ ∀H1,KSh K H H1→PO P o env.eval H1 v H1)∨
  (kindK P K o=1∧H'=H∧ ∀H1,KEq K H H1→PO P o env.eval H1 v H1)∨
  (kindK P K o=2∧PO P o env.eval H v H'∧KEq K H H')∨
  (kindK P K o=3∧PO P o env.eval H v H'∧KSh K H H')∨
  (kindK P K o=4∧o.dst=none∧v=undefP∧ ∃(x:Ins) (es:List (GV×GV)),InsOp P o env.eval x∧H.mu[x.id]? =some (.map es)∧lookAll x.k es=some none∧H'=x.ap H∧memB K (10000+x.id)=false)))∨
 (∃(d:Tmp) (t:TypeId) (z:Value),alT K o=some d∧o.op= .alloc t∧zeroB P t=some z∧szB P t=some z.cells.size∧v= .any∧H'=H)∨
 (∃(x:Tmp) (t:TypeId) (y:Operand) (cs:List PV),abT K o=some x∧o.op= .store t (.tmp x) y∧szB P t=some cs.length∧pvCells (env.eval y)=some cs∧v= .ptr H.bx.length 0∧H'=⟨H.bx++[cs],H.tk,H.mu⟩∧KEq K H H')
def POpsD(P:Program)(N:Nat)(all:Array Oper)(K:List Nat)(Z:Env→PH→Prop):List Oper→Env→PH→Prop
 |[],env,H=>Z env H
 |o::rest,env,H=>(∀t,o.dst=some t→t<N)∧
  match gd all o env with
  |some true=> ∃v H',Cond P K o env H v H'∧POpsD P N all K Z rest (upd env (dstK K o) v) H'
  |some false=>POpsD P N all K Z rest (upd env (dstK K o) undefP) H
  |none=>False
structure Tr where
 E:Nat→Env
 H:Nat→PH
 V:Nat→PV
structure IsRun(P:Program)(N:Nat)(all:List Oper)(K:List Nat)(T:Tr):Prop where
 dst: ∀(i:Nat) (o:Oper),all[i]? =some o→ ∀t,o.dst=some t→t<N
 env: ∀(i:Nat) (o:Oper),all[i]? =some o→T.E (i+1)=upd (T.E i) (dstK K o) (T.V i)
 step: ∀(i:Nat) (o:Oper),all[i]? =some o→(gd all.toArray o (T.E i)=some true∧Cond P K o (T.E i) (T.H i) (T.V i) (T.H (i+1)))∨(gd all.toArray o (T.E i)=some false∧T.V i=undefP∧T.H (i+1)=T.H i)
def RunFrom(P:Program)(N:Nat)(all:List Oper)(K:List Nat)(Z:Env→PH→Prop)(j n:Nat)(env:Env)(H:PH)(T:Tr):Prop:=
 T.E j=env∧T.H j=H∧Z (T.E (j+n)) (T.H (j+n))∧
  ∀(i:Nat) (o:Oper),j≤i→all[i]? =some o→(∀t,o.dst=some t→t<N)∧T.E (i+1)=upd (T.E i) (dstK K o) (T.V i)∧
   ((gd all.toArray o (T.E i)=some true∧Cond P K o (T.E i) (T.H i) (T.V i) (T.H (i+1)))∨(gd all.toArray o (T.E i)=some false∧T.V i=undefP∧T.H (i+1)=T.H i))
theorem run_of{P:Program}{N:Nat}{all:List Oper}{K:List Nat}{Z:Env→PH→Prop}: ∀(l:List Oper) (j:Nat) (env:Env) (H:PH),(∀k,l[k]? =all[j+k]?)→POpsD P N all.toArray K Z l env H→
  ∃T:Tr,RunFrom P N all K Z j l.length env H T
 |[],j,env,H,hl,h=>⟨⟨fun _=>env,fun _=>H,fun _=>undefP⟩,rfl,rfl,h,fun i o hi ho=>by
   have:=hl (i-j)
   rw[show j+(i-j)=i by omega,ho]at this
   simp at this⟩
 |o::r,j,env,H,hl,h=>by
  obtain⟨hd,h⟩:=h
  have h0:all[j]? =some o:=by simpa using(hl 0).symm
  have hl': ∀k,r[k]? =all[j+1+k]? :=fun q=>by have:=hl (q+1);simpa[Nat.add_assoc,Nat.add_comm 1 q]using this
  have key: ∀(v:PV) (H':PH),POpsD P N all.toArray K Z r (upd env (dstK K o) v) H'→((gd all.toArray o env=some true∧Cond P K o env H v H')∨(gd all.toArray o env=some false∧v=undefP∧H'=H))→ ∃T:Tr,RunFrom P N all K Z j (o::r).length env H T:=by
   intro v H' hr hc
   obtain⟨T,e1,e2,e3,e4⟩:=run_of r (j+1) _ _ hl' hr
   refine⟨⟨fun i=>if i=j then env else T.E i,fun i=>if i=j then H else T.H i,fun i=>if i=j then v else T.V i⟩,by simp,by simp, ?_, ?_⟩
   ·have hne: ¬j+(o::r).length=j:=by simp
    simp only[hne,if_false]
    rw[show j+(o::r).length=j+1+r.length by simp;omega]
    exact e3
   ·intro i o' hi ho'
    by_cases e:i=j
    ·subst e
     rw[h0]at ho'
     cases ho'
     have hne: ¬i+1=i:=by omega
     simp only[hne,if_false,if_true]
     refine⟨hd,e1, ?_⟩
     rw[e2]
     exact hc
    ·have hne: ¬i+1=j:=by omega
     simp only[e,hne,if_false]
     exact e4 i o' (by omega) ho'
  split at h
  ·rename_i hg
   obtain⟨v,H',hc,hr⟩:=h
   exact key v H' hr (.inl ⟨hg,hc⟩)
  ·rename_i hg
   exact key undefP H h (.inr ⟨hg,rfl,rfl⟩)
  ·exact h.elim
section
variable{P:Program}{N:Nat}{all:List Oper}{K:List Nat}{T:Tr}
theorem kindK_ab{x:Tmp}{o:Oper}(h:abT K o=some x):kindK P K o=2:=by
 have:alT K o=none:=by
  unfold abT at h
  unfold alT
  split at h
  ·rename_i ho;rw[ho]
  ·cases h
 unfold kindK
 rw[this,h]
theorem kindK_al{d:Tmp}{o:Oper}(h:alT K o=some d):kindK P K o=0:=by
 unfold kindK
 rw[h]
theorem ab_op{x:Tmp}{o:Oper}(h:abT K o=some x):(∃t y,o.op= .store t (.tmp x) y)∧40000+x∈K∧dstK K o=some x:=by
 have hd:dstK K o=some x:=by unfold dstK;rw[h]
 unfold abT at h
 split at h
 ·rename_i t x' y ho
  cases hf:flD K x' with
  |false=>rw[hf]at h;cases h
  |true=>rw[hf]at h;cases h;exact⟨⟨t,y,ho⟩,flD_iff.1 hf,hd⟩
 ·cases h
theorem al_op{d:Tmp}{o:Oper}(h:alT K o=some d):(∃t,o.op= .alloc t)∧40000+d∈K∧o.dst=some d∧dstK K o=some d∧abT K o=none:=by
 unfold alT at h
 split at h
 ·rename_i t ho
  split at h
  ·rename_i d' hd
   cases hf:flD K d' with
   |false=>rw[hf]at h;cases h
   |true=>
    rw[hf]at h;cases h
    have hab:abT K o=none:=by unfold abT;rw[ho]
    exact⟨⟨t,ho⟩,flD_iff.1 hf,hd,by unfold dstK;rw[hab];exact hd,hab⟩
  ·cases h
 ·cases h
theorem env_last(hT:IsRun P N all K T){t i:Nat}{o:Oper}(ho:all[i]? =some o)(hd:dstK K o=some t): ∀k,i<k→k≤all.length→(∀(j:Nat) (o':Oper),i<j→j<k→all[j]? =some o'→dstK K o'≠some t)→T.E k t=T.V i:=by
 intro k
 induction k with
 |zero=>intro h;omega
 |succ k ih=>
  intro hik hk hno
  by_cases e:i=k
  ·subst e
   rw[hT.env i o ho,hd]
   simp[upd]
  ·have hk':k<all.length:=by omega
   have ho':all[k]? =some all[k]:=List.getElem?_eq_getElem hk'
   rw[hT.env k _ ho']
   have hne:=hno k _ (by omega) (by omega) ho'
   have:upd (T.E k) (dstK K all[k]) (T.V k) t=T.E k t:=by
    cases hdk:dstK K all[k]with
    |none=>rfl
    |some d=>
     have:Nat.beq t d=false:=Bool.eq_false_iff.2 fun h=>hne (by rw[hdk,Nat.eq_of_beq_eq_true h])
     simp[upd,this]
   rw[this]
   exact ih (by omega) (by omega) fun j o' h1 h2=>hno j o' h1 (by omega)
theorem env_first(hT:IsRun P N all K T){t:Nat}: ∀k,k≤all.length→(∀(j:Nat) (o':Oper),j<k→all[j]? =some o'→dstK K o'≠some t)→T.E k t=T.E 0 t:=by
 intro k
 induction k with
 |zero=>intros;rfl
 |succ k ih=>
  intro hk hno
  have hk':k<all.length:=by omega
  have ho':all[k]? =some all[k]:=List.getElem?_eq_getElem hk'
  rw[hT.env k _ ho']
  have hne:=hno k _ (by omega) ho'
  have:upd (T.E k) (dstK K all[k]) (T.V k) t=T.E k t:=by
   cases hdk:dstK K all[k]with
   |none=>rfl
   |some d=>
    have:Nat.beq t d=false:=Bool.eq_false_iff.2 fun h=>hne (by rw[hdk,Nat.eq_of_beq_eq_true h])
    simp[upd,this]
  rw[this]
  exact ih (by omega) fun j o' h1=>hno j o' (by omega)
theorem H_same(hT:IsRun P N all K T){i m:Nat}(him:i≤m)(hm:m≤all.length)(h: ∀(j:Nat) (o:Oper),i≤j→j<m→all[j]? =some o→kindK P K o<2):T.H m=T.H i:=by
  induction m with
  | zero => have:i=0:=by omega
            rw[this]
  |succ m ih=>
    by_cases e:i=m+1
    · rw[e]
    · have ho:all[m]? =some all[m]:=List.getElem?_eq_getElem (by omega)
      have hk:=h m _ (by omega) (by omega) ho
      have:T.H (m+1)=T.H m:=by
        rcases hT.step m _ ho with⟨_,hc⟩|⟨_,_,hc⟩
        · rcases hc with⟨_,_,hc⟩|⟨_,_,_,_,_,_,_,_,hH⟩|⟨_,_,_,_,ha,_⟩
          · rcases hc with⟨_,h1,_⟩|⟨_,h1,_⟩|⟨h1,_⟩|⟨h1,_⟩|⟨h1,_⟩
            · exact h1
            · exact h1
            · omega
            · omega
            · omega
          · exact hH
          · rw[kindK_ab ha]at hk;omega
        · exact hc
      rw[this]
      exact ih (by omega) (by omega) fun j o h1 h2=>h j o h1 (by omega)
theorem H_keq(hT:IsRun P N all K T){i m:Nat}(him:i≤m)(hm:m≤all.length)(h: ∀(j:Nat) (o:Oper),i≤j→j<m→all[j]? =some o→kindK P K o≠3):KEq K (T.H i) (T.H m):=by
  induction m with
  | zero => have:i=0:=by omega
            rw[this];exact KEq.refl _ _
  |succ m ih=>
    by_cases e:i=m+1
    · rw[e];exact KEq.refl _ _
    · have ho:all[m]? =some all[m]:=List.getElem?_eq_getElem (by omega)
      have hk:=h m _ (by omega) (by omega) ho
      refine(ih (by omega) (by omega) fun j o h1 h2=>h j o h1 (by omega)).trans ?_
      rcases hT.step m _ ho with⟨_,hc⟩|⟨_,_,hc⟩
      · rcases hc with⟨_,_,hc⟩|⟨_,_,_,_,_,_,_,_,hH⟩|⟨_,_,_,_,_,_,_,_,_,_,hq⟩
        · rcases hc with⟨_,h1,_⟩|⟨_,h1,_⟩|⟨_,_,h1⟩|⟨h1,_⟩|⟨_,_,_,x,es,_,_,_,h1,h2⟩
          · rw[h1];exact KEq.refl _ _
          · rw[h1];exact KEq.refl _ _
          · exact h1
          · exact absurd h1 hk
          · rw[h1,ap_eq];exact addAll_keq (by simpa using h2) _
        · rw[hH];exact KEq.refl _ _
        · exact hq
      · rw[hc];exact KEq.refl _ _
theorem H_ksh(hT:IsRun P N all K T){i m:Nat}(him:i≤m)(hm:m≤all.length):KSh K (T.H i) (T.H m):=by
  induction m with
  | zero => have:i=0:=by omega
            rw[this];exact KSh.refl _ _
  |succ m ih=>
    by_cases e:i=m+1
    · rw[e];exact KSh.refl _ _
    · have ho:all[m]? =some all[m]:=List.getElem?_eq_getElem (by omega)
      refine(ih (by omega) (by omega)).trans ?_
      rcases hT.step m _ ho with⟨_,hc⟩|⟨_,_,hc⟩
      · rcases hc with⟨_,_,hc⟩|⟨_,_,_,_,_,_,_,_,hH⟩|⟨_,_,_,_,_,_,_,_,_,_,hq⟩
        · rcases hc with⟨_,h1,_⟩|⟨_,h1,_⟩|⟨_,_,h1⟩|⟨_,_,h1⟩|⟨_,_,_,x,es,_,_,_,h1,h2⟩
          · rw[h1];exact KSh.refl _ _
          · rw[h1];exact KSh.refl _ _
          · exact h1.sh
          · exact h1
          · rw[h1,ap_eq];exact(addAll_keq (by simpa using h2) _).sh
        · rw[hH];exact KSh.refl _ _
        · exact hq.sh
      · rw[hc];exact KSh.refl _ _
def SlotOk(K:List Nat)(all:List Oper)(T:Tr)(S:Nat→Prop)(c:Ctx)(t:Nat)(v:Value):Prop:=
 (∃(i:Nat) (o:Oper),all[i]? =some o∧S i∧dstK K o=some t∧(∀(j:Nat) (o':Oper),i<j→all[j]? =some o'→S j→dstK K o'≠some t)∧RV c (T.V i) v)∨
 ((∀(i:Nat) (o:Oper),all[i]? =some o→S i→dstK K o≠some t)∧RV c (T.E 0 t) v)
theorem SlotOk.mono{S:Nat→Prop}{c c':Ctx}(hE:Evo c c'){t:Nat}{v:Value}(h:SlotOk K all T S c t v):SlotOk K all T S c' t v:=by
 rcases h with⟨i,o,h1,h2,h3,h4,h5⟩|⟨h1,h2⟩
 ·exact .inl ⟨i,o,h1,h2,h3,h4,h5.mono hE⟩
 ·exact .inr ⟨h1,h2.mono hE⟩
theorem conf_of_look{x y:Oper}{t:Nat}(hx:dstK K x=some t)(hy:t∈looks all y):conf P K all x y=true:=by
 simp[conf,hx,optMem,memB_iff.2 hy]
theorem conf_of_look'{x y:Oper}{t:Nat}(hx:t∈looks all x)(hy:dstK K y=some t):conf P K all x y=true:=by
 simp[conf,hy,optMem,memB_iff.2 hx]
theorem conf_of_dst{x y:Oper}{t:Nat}(hx:dstK K x=some t)(hy:dstK K y=some t):conf P K all x y=true:=by
 simp[conf,hx,hy,optEq]
theorem conf_chain{x y:Oper}(hx:2≤kindK P K x)(hy:2≤kindK P K y)(hxy:kindK P K x≠4∨kindK P K y≠4):conf P K all x y=true:=by
 have:(Nat.beq (kindK P K x) 4&&Nat.beq (kindK P K y) 4)=false:=by
  rw[Bool.and_eq_false_iff]
  exact hxy.imp (fun h=>Bool.eq_false_iff.2 fun h'=>h (Nat.eq_of_beq_eq_true h')) (fun h=>Bool.eq_false_iff.2 fun h'=>h (Nat.eq_of_beq_eq_true h'))
 simp only[conf,this,Nat.ble_eq_true_of_le hx,Nat.ble_eq_true_of_le hy]
 simp
theorem conf_ls{x y:Oper}(hx:kindK P K x=1)(hy:kindK P K y=3):conf P K all x y=true:=by simp[conf,hx,hy]
theorem conf_sl{x y:Oper}(hx:kindK P K x=3)(hy:kindK P K y=1):conf P K all x y=true:=by simp[conf,hx,hy]
structure Comes(all:List Oper)(S:Nat→Prop)(i:Nat)(o:Oper):Prop where
 at_:all[i]? =some o
 out: ¬S i
 pre: ∀e∈o.after,Region.binds .any e=true→S e.on
theorem Comes.before(hO:Ordered P K all){S:Nat→Prop}(hS:ClosedS all S){i:Nat}{o:Oper}(h:Comes all S i o){j:Nat}{x:Oper}(hj:j<i)(hx:all[j]? =some x)(hc:conf P K all x o=true):S j:=by
 have hS':ClosedS all (fun k=>S k∨k=i):=by
  intro k y hy hk e he hb
  rcases hk with hk|rfl
  ·exact .inl (hS k y hy hk e he hb)
  ·rw[h.at_]at hy
   cases hy
   exact .inl (h.pre e he hb)
 rcases hO.pair _ hS' i o j x h.at_ hj hx hc (.inr rfl)with h1|h1
 ·exact h1
 ·omega
theorem Comes.behind(hO:Ordered P K all){S:Nat→Prop}(hS:ClosedS all S){i:Nat}{o:Oper}(h:Comes all S i o){j:Nat}{y:Oper}(hj:i<j)(hy:all[j]? =some y)(hc:conf P K all o y=true): ¬S j:=
 fun hs=>h.out (hO.pair S hS j y i o hy hj h.at_ hc hs)
theorem Comes.slot(hT:IsRun P N all K T)(hO:Ordered P K all){S:Nat→Prop}(hS:ClosedS all S){i:Nat}{o:Oper}(h:Comes all S i o){t:Nat}(ht:t∈looks all o){c:Ctx}{v:Value}(hs:SlotOk K all T S c t v):RV c (T.E i t) v:=by
 have hi:i≤all.length:=Nat.le_of_lt (List.getElem?_eq_some_iff.1 h.at_).1
 rcases hs with⟨i',o',h1,h2,h3,h4,h5⟩|⟨h1,h2⟩
 ·have hlt:i'<i:=by
   rcases Nat.lt_trichotomy i' i with hlt|rfl|hgt
   ·exact hlt
   ·exact absurd h2 h.out
   ·exact absurd h2 (h.behind hO hS hgt h1 (conf_of_look' ht h3))
  rw[env_last hT h1 h3 i hlt hi fun j o'' hj1 hj2 hj3 hj4=>h4 j o'' hj1 hj3 (h.before hO hS hj2 hj3 (conf_of_look hj4 ht)) hj4]
  exact h5
 ·rw[env_first hT i hi fun j o'' hj1 hj2 hj3=>h1 j o'' hj2 (h.before hO hS hj1 hj2 (conf_of_look hj3 ht)) hj3]
  exact h2
theorem SlotOk.put(hO:Ordered P K all){S:Nat→Prop}(hS:ClosedS all S){i:Nat}{o:Oper}(h:Comes all S i o){c:Ctx}{a a':Act}
  (hv: ∀t,dstK K o=some t→RV c (T.V i) (a'.tmps.getD t undef)) (hsame: ∀t,dstK K o≠some t→a'.tmps.getD t undef=a.tmps.getD t undef)
  (hs: ∀t,SlotOk K all T S c t (a.tmps.getD t undef)): ∀t,SlotOk K all T (fun k=>S k∨k=i) c t (a'.tmps.getD t undef):=by
 intro t
 by_cases e:dstK K o=some t
 ·refine .inl ⟨i,o,h.at_, .inr rfl,e,fun j o' hj ho' hsj he=> ?_,hv t e⟩
  rcases hsj with hsj|rfl
  ·exact h.behind hO hS hj ho' (conf_of_dst e he) hsj
  ·omega
 ·rw[hsame t e]
  rcases hs t with⟨i',o',h1,h2,h3,h4,h5⟩|⟨h1,h2⟩
  ·refine .inl ⟨i',o',h1, .inl h2,h3,fun j o'' hj ho'' hsj he=> ?_,h5⟩
   rcases hsj with hsj|rfl
   ·exact h4 j o'' hj ho'' hsj he
   ·rw[h.at_]at ho''
    cases ho''
    exact e he
  ·refine .inr ⟨fun j o'' ho'' hsj he=> ?_,h2⟩
   rcases hsj with hsj|rfl
   ·exact h1 j o'' ho'' hsj he
   ·rw[h.at_]at ho''
    cases ho''
    exact e he
theorem put_get{a:Act}{N:Nat}(hN:a.tmps.size=N){d:Option Tmp}(hd: ∀t,d=some t→t<N)(rv:Value):(∀t,d=some t→(a.put d rv).tmps.getD t undef=rv)∧ ∀t,d≠some t→(a.put d rv).tmps.getD t undef=a.tmps.getD t undef:=by
 refine⟨fun t e=> ?_,fun t e=> ?_⟩
 ·have hlt:t<a.tmps.size:=by rw[hN];exact hd t e
  rw[e]
  simp[Act.put,Array.getD_eq_getD_getElem?,hlt]
 ·cases hdd:d with
  |none=>rfl
  |some d'=>
   have hne:d'≠t:=fun h=>e (by rw[hdd,h])
   simp[Act.put,Array.getD_eq_getD_getElem?,hne]
theorem gd_local{o:Oper}{env:Env}{c:Ctx}{tmps:Array Value}(h: ∀t∈looks all o,RV c (env t) (tmps.getD t undef)){b:Bool}(hg:gd all.toArray o env=some b):Region.wanted o (yielded all.toArray tmps)=b:=by
 unfold gd at hg
 unfold Region.wanted
 split at hg
 ·rename_i e;rw[e];simpa using hg
 ·rename_i j want e
  rw[e]
  simp only[yielded]
  split at hg
  ·rename_i d hd
   have hd':(all[j]?).bind (·.dst)=some d:=by simpa using hd
   have hs:=h d (by simp[looks,e,hd'])
   have hd2:((all.toArray)[j]?).bind (·.dst)=some d:=by simpa using hd'
   rw[hd2]
   simp only[Option.bind_some]
   split at hg
   ·rename_i b' he
    rw[he]at hs
    cases hs with
    |g x v hr=>
     generalize hv:tmps.getD d undef=v at hr
     cases hr
     rw[Array.getD_eq_getD_getElem?]at hv
     cases hx:tmps[d]? with
     |none=>rw[hx]at hv;simp[undef]at hv
     |some u=>rw[hx]at hv;simp at hv;subst hv;simpa using hg
   ·rename_i vs he
    rw[he]at hs
    cases hs with
    |g x v hr=>
     generalize hv:tmps.getD d undef=v at hr
     cases hr
     rw[Array.getD_eq_getD_getElem?]at hv
     cases hx:tmps[d]? with
     |none=>simpa using hg
     |some u=>rw[hx]at hv;simp at hv;subst hv;simpa using hg
   ·cases hg
  ·cases hg
structure Pend(P:Program)(K:List Nat)(all:List Oper)(S:Nat→Prop)(c0 c:Ctx)(a:Act)(x:Tmp×Nat):Prop where
 slot:a.tmps.getD x.1 undef= .pointer (some ⟨x.2,0,none⟩)
 mem:40000+x.1∈K
 row: ∃(vals:Array Value) (t:TypeId),c.w.heap[x.2]? =some (.cells vals t (0,0))∧szB P t=some vals.size∧(∀z,zeroB P t=some z→vals=z.cells)∧ ∀(i:Nat) (o:Oper),all[i]? =some o→alT K o=some x.1→o.op= .alloc t
 sig:x.2∉c.σ
 tok: ∀t∈c.τ,t.live=true→t.g≠x.2
 mu: ∀t∈c.μ,t.live=true→t.g≠x.2
 new:c0.w.heap.size≤x.2
 open_: ∀(u:Nat) (o:Oper),all[u]? =some o→abT K o=some x.1→ ¬S u
 made: ∃(j:Nat) (o:Oper),all[j]? =some o∧alT K o=some x.1∧S j
theorem Pend.lt{S:Nat→Prop}{c0 c:Ctx}{a:Act}{x:Tmp×Nat}(h:Pend P K all S c0 c a x):x.2<c.w.heap.size:=by
 obtain⟨vals,t,h1,_⟩:=h.row
 exact(Array.getElem?_eq_some_iff.1 h1).1
def hidL(h:Hid)(L:List (Tmp×Nat)):Hid:=⟨fun b p=>h b p∨ ∃x∈L,x.2=b,h.d⟩
theorem hidL_nil(h:Hid):hidL h []=h:=by
 cases h
 simp[hidL]
def Ctx.bare(c:Ctx)(h:Hid):Ctx:=⟨c.σ,c.τ,c.μ,h,c.w⟩
theorem pend_keep{S:Nat→Prop}{c0 c c':Ctx}{a:Act}{x:Tmp×Nat}(hE:Evo c c')(h:Pend P K all S c0 c a x):x.2∉c'.σ∧(∀t∈c'.τ,t.live=true→t.g≠x.2)∧(∀t∈c'.μ,t.live=true→t.g≠x.2)∧c'.w.heap[x.2]? =c.w.heap[x.2]? :=by
 obtain⟨n,hn,hn'⟩:=hE.sig
 refine⟨?_, ?_, ?_,hE.frame _ h.lt h.sig h.tok h.mu⟩
 ·rw[hn]
  intro hm
  rcases List.mem_append.1 hm with hm|hm
  ·exact h.sig hm
  ·have:=hn' _ hm;have:=h.lt;omega
 ·intro t ht lv e
  rcases hE.toknew t ht lv with⟨t0,ht0,lv0,e0⟩|hl
  ·exact h.tok t0 ht0 lv0 (e0.trans e)
  ·have:=h.lt;omega
 ·intro t ht lv e
  rcases hE.munew t ht lv with⟨t0,ht0,lv0,e0⟩|hl
  ·exact h.mu t0 ht0 lv0 (e0.trans e)
  ·have:=h.lt;omega
theorem Pend.step{S S':Nat→Prop}{c0 c c':Ctx}{a a':Act}{x:Tmp×Nat}(hE:Evo c c')(h:Pend P K all S c0 c a x)(hs:a'.tmps.getD x.1 undef=a.tmps.getD x.1 undef)
  (ho: ∀(u:Nat) (o:Oper),all[u]? =some o→abT K o=some x.1→ ¬S' u) (hS: ∀k,S k→S' k):Pend P K all S' c0 c' a' x:=by
 obtain⟨k1,k2,k3,k4⟩:=pend_keep hE h
 obtain⟨vals,t,h1,h2⟩:=h.row
 exact⟨hs.trans h.slot,h.mem,⟨vals,t,k4.trans h1,h2⟩,k1,k2,k3,h.new,ho,h.made.imp fun j ⟨o,a1,a2,a3⟩=>⟨o,a1,a2,hS j a3⟩⟩
theorem evo_bare{S:Nat→Prop}{c0 c c':Ctx}{a:Act}{L:List (Tmp×Nat)}{h:Hid}(hE:Evo c c')(hh:c.hid=hidL h L)(hp: ∀x∈L,Pend P K all S c0 c a x):Evo (c.bare h) (c'.bare h):=by
 refine⟨hE.os,hE.tape,hE.output,hE.size,rfl,hE.sig,hE.tok,hE.mu,hE.munew,hE.toknew, ?_,hE.frame⟩
 intro b v hb hs hc
 by_cases hx: ∃x∈L,x.2=b.block
 ·obtain⟨x,hx,e⟩:=hx
  obtain⟨k1,k2,k3,k4⟩:=pend_keep hE (hp x hx)
  rw[e]at k1 k2 k3 k4
  refine⟨?_,hs.1,k1,fun t ht lv e=>absurd e (k2 t ht lv),k3⟩
  show c'.w.cell? b=some v
  rw[World.cell?_of_block k4]
  exact hc
 ·have hst:c.stab b.block b.off:=⟨fun hq=>by rw[hh]at hq;exact hq.elim hs.1 hx,hs.2⟩
  obtain⟨k1,k2⟩:=hE.keep b v hb hst hc
  exact⟨k1,hs.1,k2.2⟩
def InsAt(P:Program)(all:List Oper)(K:List Nat)(T:Tr)(j:Nat)(x:Ins):Prop:=
 ∃(o:Oper) (es:List (GV×GV)),all[j]? =some o∧kindK P K o=4∧InsOp P o (T.E j).eval x∧(T.H j).mu[x.id]? =some (.map es)∧lookAll x.k es=some none∧T.H (j+1)=x.ap (T.H j)∧memB K (10000+x.id)=false
structure InsFn(P:Program)(all:List Oper)(K:List Nat)(T:Tr)(F:Nat→Option Ins):Prop where
 at_: ∀(j:Nat) (x:Ins),F j=some x→InsAt P all K T j x
 of: ∀(j:Nat) (x:Ins),InsAt P all K T j x→ ∃y,F j=some y
open Classical in
theorem insFn_ex(P:Program)(all:List Oper)(K:List Nat)(T:Tr): ∃F,InsFn P all K T F:=by
 refine⟨fun j=>if h: ∃x,InsAt P all K T j x then some h.choose else none,fun j x h=> ?_,fun j x h=> ?_⟩
 ·split at h
  ·rename_i h'
   cases h
   exact h'.choose_spec
  ·cases h
 ·exact⟨_,dif_pos ⟨x,h⟩⟩
variable{F:Nat→Option Ins}
theorem InsFn.kind(hF:InsFn P all K T F){j:Nat}{o:Oper}(ho:all[j]? =some o)(hk:kindK P K o≠4):F j=none:=by
 cases h:F j with
 |none=>rfl
 |some x=>
  obtain⟨o',_,h1,h2,_⟩:=hF.at_ j x h
  rw[ho]at h1
  cases h1
  exact absurd h2 hk
theorem InsFn.still(hF:InsFn P all K T F){j:Nat}(h:T.H (j+1)=T.H j):F j=none:=by
 cases hq:F j with
 |none=>rfl
 |some x=>
  obtain⟨o',es,_,_,_,h3,_,h4,_⟩:=hF.at_ j x hq
  have h5:=Ins.ap_at x (T.H j) x.id
  rw[←h4,h,Nat.beq_refl,cond_true,h3]at h5
  simp at h5
theorem H_ins(hT:IsRun P N all K T)(hF:InsFn P all K T F){m:Nat}: ∀(n:Nat),m+n≤all.length→(∀(j:Nat) (o:Oper),m≤j→j<m+n→all[j]? =some o→kindK P K o<2∨kindK P K o=4)→T.H (m+n)=addAll ((List.range' m n).filterMap F) (T.H m)
 |0,_,_=>by simp[addAll_nil]
 |n+1,hn,h=>by
  have ih:=H_ins hT hF n (by omega) fun j o h1 h2=>h j o h1 (by omega)
  have ho:all[m+n]? =some all[m+n]:=List.getElem?_eq_getElem (by omega)
  rw[List.range'_concat,List.filterMap_append,←Nat.add_assoc,Nat.one_mul]
  have hk:=h (m+n) _ (by omega) (by omega) ho
  cases hf:F (m+n)with
  |some x=>
   obtain⟨_,_,_,_,_,_,_,h4,_⟩:=hF.at_ _ x hf
   simp only[List.filterMap_cons,hf,List.filterMap_nil]
   rw[←ap_addAll,←ih,h4]
  |none=>
   simp only[List.filterMap_cons,hf,List.filterMap_nil,List.append_nil]
   rw[←ih]
   rcases hT.step _ _ ho with⟨_,hc⟩|⟨_,_,hc⟩
   ·rcases hc with⟨_,_,hc⟩|⟨_,_,_,_,_,_,_,_,hH⟩|⟨_,_,_,_,ha,_⟩
    ·rcases hc with⟨_,h1,_⟩|⟨_,h1,_⟩|⟨h1,_⟩|⟨h1,_⟩|⟨h1,_,_,x,es,h2,h3,h4,h5,h6⟩
     ·exact h1
     ·exact h1
     ·omega
     ·omega
     ·obtain⟨y,hy⟩:=hF.of _ x ⟨_,es,ho,h1,h2,h3,h4,h5,h6⟩
      rw[hf]at hy;cases hy
    ·exact hH
    ·rw[kindK_ab ha]at hk;omega
   ·exact hc
def is4(P:Program)(K:List Nat)(all:List Oper)(j:Nat):Bool:=match all[j]? with|some o=>Nat.beq (kindK P K o) 4|none=>false
theorem is4_iff{j:Nat}:is4 P K all j=true↔ ∃o,all[j]? =some o∧kindK P K o=4:=by
 unfold is4
 cases all[j]? with
 |none=>simp
 |some o=>simp
theorem InsFn.filter(hF:InsFn P all K T F): ∀l:List Nat,(l.filter (is4 P K all)).filterMap F=l.filterMap F
 |[]=>rfl
 |j::l=>by
  rw[List.filter_cons]
  cases h:is4 P K all j with
  |true=>rw[if_pos rfl,List.filterMap_cons,List.filterMap_cons,hF.filter l]
  |false=>
   rw[if_neg (by simp),hF.filter l,List.filterMap_cons]
   have:F j=none:=by
    cases hq:F j with
    |none=>rfl
    |some x=>
     obtain⟨o',_,h1,h2,_⟩:=hF.at_ j x hq
     rw[is4_iff.2 ⟨o',h1,h2⟩]at h
     cases h
   rw[this]
structure DOk(P:Program)(K:List Nat)(all:List Oper)(S:Nat→Prop)(m:Nat)(D:List Nat):Prop where
 nd:D.Nodup
 mem: ∀j,j∈D↔(m≤j∧S j∧ ∃o,all[j]? =some o∧kindK P K o=4)
theorem InsFn.keq(hF:InsFn P all K T F)(D:List Nat)(H:PH):KEq K H (addAll (D.filterMap F) H):=
 addAll_keq (fun x hx=>by
  obtain⟨j,_,hj⟩:=List.mem_filterMap.1 hx
  obtain⟨_,_,_,_,_,_,_,_,h⟩:=hF.at_ j x hj
  exact h) H
def Inv(P:Program)(N:Nat)(all:List Oper)(K:List Nat)(T:Tr)(F:Nat→Option Ins)(c0:Ctx)(S:Nat→Prop)(a:Act)(w:World):Prop:=
 ∃(c:Ctx) (m:Nat) (L:List (Tmp×Nat)) (D:List Nat),m≤all.length∧(∀(j:Nat) (o:Oper),all[j]? =some o→2≤kindK P K o→kindK P K o≠4→(S j↔j<m))∧
  ((∀(j:Nat) (o:Oper),all[j]? =some o→kindK P K o=4→j<m→S j)∧DOk P K all S m D)∧c.w=w∧Rel P c (addAll (D.filterMap F) (T.H m))∧c.hid=hidL c0.hid L∧Evo c0 (c.bare c0.hid)∧
  (∀x∈L,Pend P K all S c0 c a x)∧(∀x∈L,∀y∈L,x.2=y.2→x=y)∧
  (∀(j:Nat) (o:Oper) (d:Tmp),all[j]? =some o→alT K o=some d→S j→(∃b,(d,b)∈L)∨ ∃(u:Nat) (o':Oper),all[u]? =some o'∧abT K o'=some d∧S u)∧
  a.defers=c0.hid.d∧a.tmps.size=N∧ ∀t,SlotOk K all T S c t (a.tmps.getD t undef)
theorem SlotOk.light{S:Nat→Prop}{c c':Ctx}(hE:EvoL c c'){t:Nat}{v:Value}(h:SlotOk K all T S c t v):SlotOk K all T S c' t v:=by
 rcases h with⟨i,o,h1,h2,h3,h4,h5⟩|⟨h1,h2⟩
 ·exact .inl ⟨i,o,h1,h2,h3,h4,h5.light hE⟩
 ·exact .inr ⟨h1,h2.light hE⟩
theorem Rel.hideNew{c:Ctx}{H:PH}(hr:Rel P c H){w':World}(h:Ext c.w w'){b:Nat}(h1:c.w.heap.size≤b)(h2:b<w'.heap.size){hid':Hid}(hh: ∀x p,hid' x p↔(c.hid x p∨x=b)):
  EvoL c ⟨c.σ,c.τ,c.μ,hid',w'⟩∧Rel P ⟨c.σ,c.τ,c.μ,hid',w'⟩ H:=by
 have hE:EvoL c ⟨c.σ,c.τ,c.μ,hid',w'⟩:=by
  refine⟨⟨[],by simp⟩,fun id t ht=>⟨t,ht,rfl,rfl, .inl rfl⟩,fun id t ht=>⟨t,ht,rfl, .inl rfl⟩,fun a v ha hs hc=>⟨h.cell hc, ?_,hs.2⟩⟩
  have hlt:=World.block_lt_of_cell? c.w a hc
  intro hx
  rcases(hh _ _).1 hx with hx|hx
  ·exact hs.1 hx
  ·omega
 refine⟨hE,⟨hr.len, ?_,hr.tk, ?_,hr.nd,hr.td,hr.st, ?_, ?_, ?_,hr.dead,hr.mlen, ?_, ?_,hr.md,hr.ms,hr.mt, ?_,hr.gl.keep hE.keep⟩⟩
 ·intro i k cs hk hcs
  obtain⟨vals,U,e1,e2,e3⟩:=hr.bx i k cs hk hcs
  exact⟨vals,U,(h.old k (hr.shid k (List.mem_of_getElem? hk))).trans e1,e2,fun j p v hp hv=>⟨(e3 j p v hp hv).1.light hE,(e3 j p v hp hv).2⟩⟩
 ·intro t ht lv
  obtain⟨cur,e1,e2⟩:=hr.tb t ht lv
  exact⟨cur,(h.old _ (hr.tlt ht lv)).trans e1,e2⟩
 ·intro x p hx
  rcases(hh _ _).1 hx with hx|hx
  ·exact Nat.lt_of_lt_of_le (hr.hidlt x p hx) h.size
  ·subst hx;exact h2
 ·intro t ht lv p hx
  rcases(hh _ _).1 hx with hx|hx
  ·exact hr.thid t ht lv p hx
  ·have:=hr.tlt ht lv;omega
 ·exact fun x hx=>Nat.lt_of_lt_of_le (hr.shid x hx) h.size
 ·intro i t o hi ho
  exact(hr.mu i t o hi ho).light hE fun lv=>h.old _ (hr.mlt t (List.mem_of_getElem? hi) lv)
 ·exact fun t ht lv=>Nat.lt_of_lt_of_le (hr.mlt t ht lv) h.size
 ·intro t ht lv p hx
  rcases(hh _ _).1 hx with hx|hx
  ·exact hr.mhid t ht lv p hx
  ·have:=hr.mlt t ht lv;omega
theorem Rel.absorb{c:Ctx}{H:PH}(hr:Rel P c H){b:Nat}{old new:Array Value}{U:TypeId}{cs:List PV}{hid':Hid}(ho:c.w.heap[b]? =some (.cells old U (0,0)))(hs:b∉c.σ)(ht: ∀t∈c.τ,t.live=true→t.g≠b)(hm: ∀t∈c.μ,t.live=true→t.g≠b)
  (hb: ∀p,c.hid b p) (hh: ∀x p,hid' x p→c.hid x p) (hl:new.size=cs.length) (hv: ∀(j:Nat) (p:PV) (v:Value),cs[j]? =some p→new[j]? =some v→RV c p v∧v.oneCell'=true):
  EvoL c ⟨c.σ++[b],c.τ,c.μ,hid',c.w.setRow b new⟩∧Rel P ⟨c.σ++[b],c.τ,c.μ,hid',c.w.setRow b new⟩ ⟨H.bx++[cs],H.tk,H.mu⟩:=by
 have hother: ∀k,k≠b→(c.w.setRow b new).heap[k]? =c.w.heap[k]? :=fun k hk=>setRow_other c.w b k new hk
 have hblt:b<c.w.heap.size:=(Array.getElem?_eq_some_iff.1 ho).1
 have hE:EvoL c ⟨c.σ++[b],c.τ,c.μ,hid',c.w.setRow b new⟩:=by
  refine⟨⟨[b],rfl⟩,fun id t ht=>⟨t,ht,rfl,rfl, .inl rfl⟩,fun id t ht=>⟨t,ht,rfl, .inl rfl⟩,fun a v ha hs' hc=> ?_⟩
  have hne:a.block≠b:=fun e=>hs'.1 (e▸hb _)
  refine⟨?_,fun hx=>hs'.1 (hh _ _ hx), ?_,hs'.2.2⟩
  ·rw[←hc]
   exact World.cell?_of_block (hother a.block hne)
  ·intro hx
   rcases List.mem_append.1 hx with hx|hx
   ·exact hs'.2.1 hx
   ·simp at hx;exact hne hx
 refine⟨hE,⟨by simp[hr.len], ?_,hr.tk, ?_, ?_,hr.td, ?_, ?_, ?_, ?_,hr.dead,hr.mlen, ?_, ?_,hr.md, ?_,hr.mt, ?_,hr.gl.keep hE.keep⟩⟩
 ·intro i k ds hk hds
  simp only at hk hds
  by_cases hi:i<c.σ.length
  ·rw[List.getElem?_append_left hi]at hk
   rw[List.getElem?_append_left (by rw[←hr.len];exact hi)]at hds
   obtain⟨vals,V,e1,e2,e3⟩:=hr.bx i k ds hk hds
   have hne:k≠b:=fun e=>hs (e▸List.mem_of_getElem? hk)
   exact⟨vals,V,(hother k hne).trans e1,e2,fun j p v hp hv=>⟨(e3 j p v hp hv).1.light hE,(e3 j p v hp hv).2⟩⟩
  ·rw[List.getElem?_append_right (by omega)]at hk
   rw[List.getElem?_append_right (by rw[←hr.len];omega),←hr.len]at hds
   have hi0:i-c.σ.length=0:=by
    have:=(List.getElem?_eq_some_iff.1 hk).1
    simp at this;omega
   rw[hi0]at hk hds
   simp at hk hds
   subst hk hds
   exact⟨new,U,setRow_heap c.w b old new U (0,0) ho,hl,fun j p v hp hv'=>⟨(hv j p v hp hv').1.light hE,(hv j p v hp hv').2⟩⟩
 ·intro t ht' lv
  obtain⟨cur,e1,e2⟩:=hr.tb t ht' lv
  exact⟨cur,(hother _ (ht t ht' lv)).trans e1,e2⟩
 ·refine List.nodup_append.2 ⟨hr.nd,by simp,fun x hx y hy e=> ?_⟩
  simp at hy
  subst hy
  exact hs (e▸hx)
 ·intro t ht' lv hx
  rcases List.mem_append.1 hx with hx|hx
  ·exact hr.st t ht' lv hx
  ·simp at hx;exact ht t ht' lv hx
 ·intro x p hx
  simpa using hr.hidlt x p (hh _ _ hx)
 ·exact fun t ht' lv p hx=>hr.thid t ht' lv p (hh _ _ hx)
 ·intro x hx
  rcases List.mem_append.1 hx with hx|hx
  ·simpa using hr.shid x hx
  ·simp at hx;subst hx;simpa using hblt
 ·intro i t o hi ho'
  exact(hr.mu i t o hi ho').light hE fun lv=>hother _ (hm t (List.mem_of_getElem? hi) lv)
 ·intro t ht' lv
  simpa using hr.mlt t ht' lv
 ·intro t ht' lv hx
  rcases List.mem_append.1 hx with hx|hx
  ·exact hr.ms t ht' lv hx
  ·simp at hx;exact hm t ht' lv hx
 ·exact fun t ht' lv p hx=>hr.mhid t ht' lv p (hh _ _ hx)
theorem inv_step (hT:IsRun P N all K T)(hF:InsFn P all K T F)(hO:Ordered P K all){c0:Ctx}{S:Nat→Prop}(hS:ClosedS all S){a:Act}{w:World}(hI:Inv P N all K T F c0 S a w){i:Nat}{o:Oper}(h:Comes all S i o){Z:Act→World→Prop}{Q:Exit→Act→World→Prop}
    (hZ: ∀a' w',Inv P N all K T F c0 (fun k=>S k∨k=i) a' w'→Z a' w'):
    if Region.wanted o (yielded all.toArray a.tmps)then o.wp P a w Z Q∨(o.asks P a w∧LetsOut Q)else Z (a.put o.dst undef) w:=by
  obtain⟨c,m,L,D,hm,hch,⟨hi4,hD⟩,rfl,hr,hhid,hE,hpd,hinj,hcp,hdf,hN,hs⟩:=hI
  have hlooks: ∀t∈looks all o,RV c (T.E i t) (a.tmps.getD t undef):=fun t ht=>h.slot hT hO hS ht (hs t)
  have hilen:i<all.length:=(List.getElem?_eq_some_iff.1 h.at_).1
  have hops: ∀x∈o.op.operands.toList,RV c ((T.E i).eval x) (a.eval x):=by
    intro x hx
    cases x with
    |tmp t=>exact hlooks t (by simp only[looks,List.mem_append];exact .inl (List.mem_filterMap.2 ⟨.tmp t,hx,rfl⟩))
    |const v=>exact constPV_ok c v
    |global g=>exact .glob g 0
    |func f=>exact .g _ _ (.raw _)
  -- where the chain stands
  have hle:2≤kindK P K o→m≤i:=fun hk=>Nat.le_of_not_lt fun hlt=>by
    by_cases e:kindK P K o=4
    · exact h.out (hi4 i o h.at_ e hlt)
    · exact h.out ((hch i o h.at_ hk e).2 hlt)
  have hnochain:2≤kindK P K o→ ∀(j:Nat) (x:Oper),m≤j→j<i→all[j]? =some x→kindK P K x<2∨kindK P K x=4:=by
    intro hk j x hj1 hj2 hx
    refine Classical.byContradiction fun hn=> ?_
    have hkx:2≤kindK P K x:=by omega
    have hk4:kindK P K x≠4:=by omega
    have:=(hch j x hx hkx hk4).1 (h.before hO hS hj2 hx (conf_chain hkx hk (.inl hk4)))
    omega
  have hHi:2≤kindK P K o→T.H i=addAll ((List.range' m (i-m)).filterMap F) (T.H m):=fun hk=>by
    have h1:=hle hk
    have:=H_ins hT hF (m:=m) (i-m) (by omega) fun j x hj1 hj2 hx=>hnochain hk j x hj1 (by omega) hx
    rwa[show m+(i-m)=i by omega]at this
  have hDi:2≤kindK P K o→kindK P K o≠4→D.Perm ((List.range' m (i-m)).filter (is4 P K all)):=fun hk hk4=>by
    refine(List.perm_ext_iff_of_nodup hD.nd (List.Pairwise.filter _ List.nodup_range')).2 fun j=> ?_
    rw[hD.mem,List.mem_filter,is4_iff,List.mem_range'_1]
    have h1:=hle hk
    constructor
    · rintro⟨q1,q2,x,q3,q4⟩
      refine⟨⟨q1, ?_⟩,x,q3,q4⟩
      rcases Nat.lt_trichotomy j i with hlt|rfl|hgt
      · omega
      · exact absurd q2 h.out
      · exact absurd q2 (h.behind hO hS hgt q3 (conf_chain hk (by omega) (.inl hk4)))
    · rintro⟨⟨q1,q2⟩,x,q3,q4⟩
      exact⟨q1,h.before hO hS (by omega) q3 (conf_chain (by omega) hk (.inr hk4)),x,q3,q4⟩
  have hRi:2≤kindK P K o→kindK P K o≠4→Rel P c (T.H i):=fun hk hk4=>by
    rw[hHi hk,←hF.filter]
    exact hr.perm (addAll_perm ((hDi hk hk4).filterMap F) _)
  have chain':2≤kindK P K o→kindK P K o≠4→ ∀(j:Nat) (x:Oper),all[j]? =some x→2≤kindK P K x→kindK P K x≠4→((S j∨j=i)↔j<i+1):=by
    intro hk hk4 j x hx hkx hkx4
    constructor
    · rintro(hsj|rfl)
      · have:=(hch j x hx hkx hkx4).1 hsj
        have:=hle hk
        omega
      · omega
    · intro hlt
      by_cases e:j=i
      · exact .inr e
      · refine .inl ((hch j x hx hkx hkx4).2 ?_)
        refine Nat.lt_of_not_le fun hmj=> ?_
        have:=hnochain hk j x hmj (by omega) hx
        omega
  have chain4:2≤kindK P K o→kindK P K o≠4→(∀(j:Nat) (x:Oper),all[j]? =some x→kindK P K x=4→j<i+1→(S j∨j=i))∧DOk P K all (fun k=>S k∨k=i) (i+1) []:=by
    intro hk hk4
    refine⟨fun j x hx hkx hlt=> ?_,List.nodup_nil,fun j=> ?_⟩
    · by_cases e:j=i
      · exact .inr e
      · exact .inl (h.before hO hS (by omega) hx (conf_chain (by omega) hk (.inr hk4)))
    · constructor
      · intro hj;cases hj
      · rintro⟨q1,q2,x,q3,q4⟩
        rcases q2 with q2|rfl
        · exact absurd q2 (h.behind hO hS (by omega) q3 (conf_chain hk (by omega) (.inl hk4)))
        · omega
  have plain':(kindK P K o<2∨kindK P K o=4)→ ∀(j:Nat) (x:Oper),all[j]? =some x→2≤kindK P K x→kindK P K x≠4→((S j∨j=i)↔j<m):=by
    intro hk j x hx hkx hkx4
    constructor
    · rintro(hsj|rfl)
      · exact(hch j x hx hkx hkx4).1 hsj
      · rw[h.at_]at hx
        cases hx
        omega
    · intro hlt
      exact .inl ((hch j x hx hkx hkx4).2 hlt)
  have plain4:kindK P K o≠4→(∀(j:Nat) (x:Oper),all[j]? =some x→kindK P K x=4→j<m→(S j∨j=i))∧DOk P K all (fun k=>S k∨k=i) m D:=by
    intro hk
    refine⟨fun j x hx hkx hlt=> .inl (hi4 j x hx hkx hlt),hD.nd,fun j=> ?_⟩
    rw[hD.mem]
    constructor
    · rintro⟨q1,q2,q3⟩
      exact⟨q1, .inl q2,q3⟩
    · rintro⟨q1,q2,x,q3,q4⟩
      rcases q2 with q2|rfl
      · exact⟨q1,q2,x,q3,q4⟩
      · rw[h.at_]at q3;cases q3;exact absurd q4 hk
  have ins4:kindK P K o=4→(∀(j:Nat) (x:Oper),all[j]? =some x→kindK P K x=4→j<m→(S j∨j=i))∧DOk P K all (fun k=>S k∨k=i) m (D++[i]):=by
    intro hk
    refine⟨fun j x hx hkx hlt=> .inl (hi4 j x hx hkx hlt),List.nodup_append.2 ⟨hD.nd,by simp,fun a ha b hb e=> ?_⟩,fun j=> ?_⟩
    · simp only[List.mem_singleton]at hb
      subst hb;subst e
      exact h.out ((hD.mem _).1 ha).2.1
    · rw[List.mem_append,hD.mem,List.mem_singleton]
      constructor
      · rintro(⟨q1,q2,q3⟩|rfl)
        · exact⟨q1, .inl q2,q3⟩
        · exact⟨hle (by omega), .inr rfl,o,h.at_,hk⟩
      · rintro⟨q1,q2|q2,q3⟩
        · exact .inl ⟨q1,q2,q3⟩
        · exact .inr q2
  -- what a value hands on
  have done:alT K o=none→abT K o=none→ ∀(c':Ctx) (m':Nat) (D':List Nat) (rv:Value),m'≤all.length→(∀(j:Nat) (x:Oper),all[j]? =some x→2≤kindK P K x→kindK P K x≠4→((S j∨j=i)↔j<m'))→
      ((∀(j:Nat) (x:Oper),all[j]? =some x→kindK P K x=4→j<m'→(S j∨j=i))∧DOk P K all (fun k=>S k∨k=i) m' D')→Rel P c' (addAll (D'.filterMap F) (T.H m'))→Evo c c'→RV c' (T.V i) rv→Z (a.put o.dst rv) c'.w:=by
    intro hal hab c' m' D' rv hm' hch' hd' hr' hE' hv
    have hdk:dstK K o=o.dst:=by unfold dstK;rw[hab]
    have hpg:=put_get hN (hT.dst i o h.at_) rv
    refine hZ _ _ ⟨c',m',L,D',hm',hch',hd',rfl,hr',hE'.hid.trans hhid,hE.trans (evo_bare hE' hhid hpd),fun x hx=> ?_,hinj, ?_,by cases o.dst<;>exact hdf,by cases o.dst<;>simpa[Act.put]using hN, ?_⟩
    · have hne:o.dst≠some x.1:=fun e=>by
        obtain⟨i1,u,a1,b1,t,y,_,e1,e2,_,_,_,_,_,e5,e6,e7⟩:=(hO.float _ (hpd x hx).mem).ex
        rcases e7 i o h.at_ (hdk.trans e)with rfl|rfl
        · rw[h.at_]at e1;cases e1;rw[hal]at e5;cases e5
        · rw[h.at_]at e2;cases e2;rw[hab]at e6;cases e6
      refine(hpd x hx).step hE' (hpg.2 _ hne) (fun u o' hu hab' hsu=> ?_) (fun k hk=> .inl hk)
      rcases hsu with hsu|rfl
      · exact(hpd x hx).open_ u o' hu hab' hsu
      · rw[h.at_]at hu;cases hu;rw[hab]at hab';cases hab'
    · intro j a' d hj hd hsj
      rcases hsj with hsj|rfl
      · rcases hcp j a' d hj hd hsj with h1|⟨u,b,h1,h2,h3⟩
        · exact .inl h1
        · exact .inr ⟨u,b,h1,h2, .inl h3⟩
      · rw[h.at_]at hj;cases hj;rw[hal]at hd;cases hd
    · exact SlotOk.put hO hS h (fun t e=>by rw[hpg.1 t (hdk▸e)];exact hv) (fun t e=>hpg.2 t (hdk▸e)) fun t=>(hs t).mono hE'
  have run:alT K o=none→abT K o=none→ ∀(H1 H':PH) (m':Nat) (D':List Nat),m'≤all.length→(∀(j:Nat) (x:Oper),all[j]? =some x→2≤kindK P K x→kindK P K x≠4→((S j∨j=i)↔j<m'))→
      ((∀(j:Nat) (x:Oper),all[j]? =some x→kindK P K x=4→j<m'→(S j∨j=i))∧DOk P K all (fun k=>S k∨k=i) m' D')→Rel P c H1→H'=addAll (D'.filterMap F) (T.H m')→PO P o (T.E i).eval H1 (T.V i) H'→o.wp P a c.w Z Q:=by
    intro hal hab H1 H' m' D' hm' hch' hd' hr1 hH' hpo
    refine(hpo c a.eval hr1 hops).wp ?_
    rintro rv w' ⟨c',rfl,hr',hE',hv⟩
    exact done hal hab c' m' D' rv hm' hch' hd' (hH'▸hr') hE' hv
  rcases hT.step i o h.at_ with⟨hg,hc⟩|⟨hg,hv,hH⟩
  · rw[gd_local hlooks hg,if_pos rfl]
    left
    rcases hc with⟨hal,hab,hc⟩|⟨d,t,z,hal,hop,hz,hsz,hv,hH⟩|⟨x,t,y,cs,hab,hop,hsz,hcs,hv,hH,hq⟩
    · rcases hc with⟨hk,_,hpo⟩|⟨hk,_,hpo⟩|⟨hk,hpo,_⟩|⟨hk,hpo,_⟩|⟨hk,hdn,hvu,x0,es0,q1,q2,q3,q4,q5⟩
      · refine run hal hab _ _ m D hm (plain' (by omega)) (plain4 (by omega)) hr rfl (hpo _ ?_)
        refine KSh.trans ?_ (hF.keq D _).sh
        rcases Nat.le_total i m with him|him
        · exact H_ksh hT him hm
        · exact(H_ksh hT him (by omega)).symm
      · refine run hal hab _ _ m D hm (plain' (by omega)) (plain4 (by omega)) hr rfl (hpo _ ?_)
        refine KEq.trans ?_ (hF.keq D _)
        rcases Nat.le_total i m with him|him
        · refine H_keq hT him hm fun j x hj1 hj2 hx hkx=> ?_
          have hne:i≠j:=fun e=>by subst e;rw[h.at_]at hx;cases hx;omega
          exact h.behind hO hS (by omega) hx (conf_ls hk hkx) ((hch j x hx (by omega) (by omega)).2 hj2)
        · refine(H_keq hT him (by omega) fun j x hj1 hj2 hx hkx=> ?_).symm
          have:=(hch j x hx (by omega) (by omega)).1 (h.before hO hS hj2 hx (conf_sl hkx hk))
          omega
      · exact run hal hab (T.H i) (T.H (i+1)) (i+1) [] hilen (chain' (by omega) (by omega)) (chain4 (by omega) (by omega)) (hRi (by omega) (by omega)) (addAll_nil _).symm hpo
      · exact run hal hab (T.H i) (T.H (i+1)) (i+1) [] hilen (chain' (by omega) (by omega)) (chain4 (by omega) (by omega)) (hRi (by omega) (by omega)) (addAll_nil _).symm hpo
      · -- something is put into a map
        obtain⟨x,hx⟩:=hF.of i x0 ⟨o,es0,h.at_,hk,q1,q2,q3,q4,q5⟩
        obtain⟨o',es,p1,_,p2,p3,p4,p5,p6⟩:=hF.at_ i x hx
        have:o'=o:=Option.some.inj (p1.symm.trans h.at_)
        subst this
        have hmi:=hle (by omega)
        have hHi':=hHi (by omega)
        rw[hHi',addAll_at]at p3
        cases he0:(T.H m).mu[x.id]? with
        |none=>rw[he0]at p3;cases p3
        |some o0=>
          rw[he0]at p3
          simp only[Option.map_some,Option.some.injEq]at p3
          cases o0 with
          |gone n=>cases p3
          |arr n e es=>cases p3
          |iter n s pos=>cases p3
          |map es1=>
            simp only[addO,MO.map.injEq]at p3
            have hmu:(addAll (D.filterMap F) (T.H m)).mu[x.id]? =some (.map (es1++((D.filterMap F).filter fun y=>Nat.beq y.id x.id).map fun y=>(y.k,y.v))):=by
              rw[addAll_at,he0];rfl
            have hold: ∀e∈es,keyEq x.k e.1=some false:=lookAll_none.1 p4
            have hfr:lookAll x.k (es1++((D.filterMap F).filter fun y=>Nat.beq y.id x.id).map fun y=>(y.k,y.v))=some none:=by
              refine lookAll_none.2 fun e he=> ?_
              rcases List.mem_append.1 he with he|he
              · exact hold e (by rw[←p3];exact List.mem_append_left _ he)
              · obtain⟨y,hy,rfl⟩:=List.mem_map.1 he
                obtain⟨hy1,hy2⟩:=List.mem_filter.1 hy
                obtain⟨j,hj1,hj2⟩:=List.mem_filterMap.1 hy1
                obtain⟨r1,r2,oj,r3,r4⟩:=(hD.mem j).1 hj1
                have hji:j≠i:=fun e=>h.out (e▸r2)
                rcases Nat.lt_or_gt_of_ne hji with hlt|hgt
                · refine hold (y.k,y.v) ?_
                  rw[←p3]
                  refine List.mem_append_right _ (List.mem_map.2 ⟨y,List.mem_filter.2 ⟨List.mem_filterMap.2 ⟨j, ?_,hj2⟩,hy2⟩,rfl⟩)
                  rw[List.mem_range'_1];omega
                · obtain⟨oj',es2,s1,_,_,s3,s4,_,_⟩:=hF.at_ j y hj2
                  have hjlen:=(List.getElem?_eq_some_iff.1 r3).1
                  have hHj:=H_ins hT hF (m:=m) (j-m) (by omega) fun q z hq1 hq2 hz=>by
                    refine Classical.byContradiction fun hn=> ?_
                    have:=(hch q z hz (by omega) (by omega)).1 (hO.pair S hS j oj q z r3 (by omega) hz (conf_chain (by omega) (by omega) (.inl (by omega))) r2)
                    omega
                  rw[show m+(j-m)=j by omega]at hHj
                  have hid:=Nat.eq_of_beq_eq_true hy2
                  rw[hHj,addAll_at,hid,he0]at s3
                  simp only[Option.map_some,Option.some.injEq,addO,MO.map.injEq]at s3
                  have h9:=lookAll_none.1 s4 (x.k,x.v) (by
                    rw[←s3]
                    refine List.mem_append_right _ (List.mem_map.2 ⟨x,List.mem_filter.2 ⟨List.mem_filterMap.2 ⟨i, ?_,hx⟩,Nat.beq_refl _⟩,rfl⟩)
                    rw[List.mem_range'_1];omega)
                  exact keyEq_symm h9
            refine run hal hab _ _ m (D++[i]) hm (plain' (.inr hk)) (ins4 hk) hr ?_ (hvu▸PO_ins p2 hmu hfr)
            rw[List.filterMap_append,List.filterMap_cons,hx,List.filterMap_nil,←ap_addAll]
    · -- a new variable is made
      obtain⟨_,hdK,hdst,hdk,hab⟩:=al_op hal
      obtain⟨i1,u1,a1,b1,t1,y1,hlt,e1,e2,e3,e4,_,_,_,e5,e6,e7⟩:=(hO.float _ hdK).ex
      have hi1:i=i1:=by
        rcases e7 i o h.at_ hdk with hh|hh
        · exact hh
        · subst hh;rw[h.at_]at e2;cases e2;rw[hab]at e6;cases e6
      subst hi1
      have huniq: ∀(j:Nat) (o':Oper),all[j]? =some o'→alT K o'=some d→j=i:=by
        intro j o' hj hd
        rcases e7 j o' hj (al_op hd).2.2.2.1 with hh|hh
        · exact hh
        · subst hh;rw[hj]at e2;cases e2;rw[(al_op hd).2.2.2.2]at e6;cases e6
      have hopen: ∀(u:Nat) (o':Oper),all[u]? =some o'→abT K o'=some d→ ¬(S u∨u=i):=by
        intro u o' hu hab' hsu
        rcases hsu with hsu|rfl
        · obtain⟨⟨t',y',ho'⟩,_,hdk'⟩:=ab_op hab'
          rcases e7 u o' hu hdk' with rfl|rfl
          · rw[h.at_]at hu;cases hu;rw[hab]at hab';cases hab'
          · exact h.out (hO.pair S hS u o' i o hu hlt h.at_ (conf_of_dst hdk hdk') hsu)
        · rw[h.at_]at hu;cases hu;rw[hab]at hab';cases hab'
      have hrun:(execOp a.eval o).run P c.w= .ok (.value (.pointer (some ⟨c.w.heap.size,0,none⟩))) (c.w.alloc (.cells z.cells t)):=by
        simp[execOp,hop,Instr.alloc,run_zero hz,newVar,newRow,newObj,Sem.run]
      have hgo:OpGoes P a.eval o c.w (fun rv w'=>rv= .pointer (some ⟨c.w.heap.size,0,none⟩)∧w'=c.w.alloc (.cells z.cells t)):=by unfold OpGoes;rw[hrun];exact⟨rfl,rfl⟩
      refine hgo.wp ?_
      rintro rv w' ⟨rfl,rfl⟩
      have hpg:=put_get hN (hT.dst i o h.at_) (.pointer (some ⟨c.w.heap.size,0,none⟩))
      have hX:=Ext.alloc c.w (.cells z.cells t)
      obtain⟨hEL,hR⟩:=hr.hideNew hX (b:=c.w.heap.size) (Nat.le_refl _) (by simp) (hid':=hidL c0.hid ((d,c.w.heap.size)::L)) (fun x p=>by
        rw[hhid]
        simp only[hidL,List.mem_cons,exists_eq_or_imp]
        constructor
        · rintro(hx|hx|hx)
          · exact .inl (.inl hx)
          · exact .inr hx.symm
          · exact .inl (.inr hx)
        · rintro((hx|hx)|hx)
          · exact .inl hx
          · exact .inr (.inr hx)
          · exact .inr (.inl hx.symm))
      have hEb:Evo (c.bare c0.hid) (Ctx.bare ⟨c.σ,c.τ,c.μ,hidL c0.hid ((d,c.w.heap.size)::L),c.w.alloc (.cells z.cells t)⟩ c0.hid):=by
        have:=evo_ext (c:=c.bare c0.hid) hX [] [] [] (by simp) (by simp) (by simp)
        simpa[Ctx.bare]using this
      refine hZ _ _ ⟨⟨c.σ,c.τ,c.μ,hidL c0.hid ((d,c.w.heap.size)::L),c.w.alloc (.cells z.cells t)⟩,m,(d,c.w.heap.size)::L,D,hm,plain' (by rw[kindK_al hal];omega),plain4 (by rw[kindK_al hal];omega),rfl,hR,rfl,hE.trans hEb, ?_, ?_, ?_,by cases o.dst<;>exact hdf,by cases o.dst<;>simpa[Act.put]using hN, ?_⟩
      · intro x hx
        rcases List.mem_cons.1 hx with rfl|hx
        · refine⟨hpg.1 d hdst,hdK,⟨z.cells,t,Go.heap_alloc_new c.w _,hsz,fun z' hz'=>by rw[hz]at hz';cases hz';rfl,fun j o' hj hd=> ?_⟩,fun hm=> ?_,fun t ht lv=> ?_,fun t ht lv=> ?_,hE.size,hopen,⟨i,o,h.at_,hal, .inr rfl⟩⟩
          · have:=huniq j o' hj hd
            subst this
            rw[h.at_]at hj;cases hj;exact hop
          · exact Nat.lt_irrefl _ (hr.shid _ hm)
          · exact Nat.ne_of_lt (hr.tlt ht lv)
          · exact Nat.ne_of_lt (hr.mlt t ht lv)
        · have hp:=hpd x hx
          have hne:o.dst≠some x.1:=fun e=>by
            rw[hdst]at e
            cases e
            obtain⟨j,o',hj,hd,hsj⟩:=hp.made
            have:=huniq j o' hj hd
            subst this
            exact h.out hsj
          obtain⟨vals,t',r1,r2⟩:=hp.row
          refine⟨(hpg.2 _ hne).trans hp.slot,hp.mem,⟨vals,t',(hX.old _ hp.lt).trans r1,r2⟩,hp.sig,hp.tok,hp.mu,hp.new,fun u o' hu hab' hsu=> ?_,hp.made.imp fun j ⟨o',q1,q2,q3⟩=>⟨o',q1,q2, .inl q3⟩⟩
          rcases hsu with hsu|rfl
          · exact hp.open_ u o' hu hab' hsu
          · rw[h.at_]at hu;cases hu;rw[hab]at hab';cases hab'
      · intro x hx y hy e
        rcases List.mem_cons.1 hx with rfl|hx<;>rcases List.mem_cons.1 hy with rfl|hy
        · rfl
        · have:=(hpd y hy).lt;simp only at e;omega
        · have:=(hpd x hx).lt;simp only at e;omega
        · exact hinj x hx y hy e
      · intro j o' d' hj hd hsj
        rcases hsj with hsj|rfl
        · rcases hcp j o' d' hj hd hsj with⟨b,h1⟩|⟨u,b,h1,h2,h3⟩
          · exact .inl ⟨b,List.mem_cons_of_mem _ h1⟩
          · exact .inr ⟨u,b,h1,h2, .inl h3⟩
        · rw[h.at_]at hj;cases hj
          rw[hal]at hd;cases hd
          exact .inl ⟨_,List.mem_cons_self ..⟩
      · exact SlotOk.put hO hS h (fun t e=>by rw[hv];exact .any _) (fun t e=>hpg.2 t (fun e'=>e (by unfold dstK;rw[hab];exact e'))) fun t=>(hs t).light hEL
    · -- a new variable's first store
      obtain⟨_,hxK,hdk⟩:=ab_op hab
      obtain⟨i1,u1,a1,b1,t1,y1,hlt,e1,e2,e3,e4,_,_,hbd,e5,e6,e7⟩:=(hO.float _ hxK).ex
      have hi1:i=u1:=by
        rcases e7 i o h.at_ hdk with hh|hh
        · subst hh;rw[h.at_]at e1;cases e1;rw[(al_op e5).2.2.2.2]at hab;cases hab
        · exact hh
      subst hi1
      have hob:o=b1:=Option.some.inj (h.at_.symm.trans e2)
      subst hob
      have hS1:S i1:=h.before hO hS hlt e1 (conf_of_dst (al_op e5).2.2.2.1 hdk)
      obtain⟨blk,hmem⟩: ∃b,(x,b)∈L:=by
        rcases hcp i1 a1 x e1 e5 hS1 with hh|⟨u,o',hu,hab',hsu⟩
        · exact hh
        · exfalso
          rcases e7 u o' hu (ab_op hab').2.2 with rfl|rfl
          · rw[e1]at hu;cases hu;rw[(al_op e5).2.2.2.2]at hab';cases hab'
          · exact h.out hsu
      have hp:=hpd _ hmem
      obtain⟨vals,t',r1,r2,_,r3⟩:=hp.row
      have ht':t'=t:=by
        have q1:=r3 i1 a1 e1 e5
        rw[e3]at q1
        rw[e4]at hop
        cases q1;cases hop;rfl
      subst ht'
      simp only at r1
      have hk2:kindK P K o=2:=kindK_ab hab
      have hr:=hRi (by omega) (by omega)
      have hsl:a.eval (.tmp x)= .pointer (some ⟨blk,0,none⟩):=hp.slot
      obtain⟨f1,f2⟩:=pvCells_ok (hops y (by simp[hop,Op.operands])) hcs
      have hvs:vals.size=cs.length:=by rw[hsz]at r2;exact(Option.some.inj r2).symm
      have hone: ∀v∈(a.eval y).cells.toList,v.oneCell'=true:=by
        intro v hv
        obtain⟨j,hj,rfl⟩:=List.mem_iff_getElem.1 hv
        have hj':j<cs.length:=by rw[f1];simpa using hj
        exact(f2 j cs[j] _ (List.getElem?_eq_getElem hj') (by simp)).2
      have hst:=run_storeCells_at P blk 0 t' (a.eval y).cells.toList 0 vals c.w r1 (by simp;omega) hone
      have hnew:(vals.toList.take 0++(a.eval y).cells.toList++vals.toList.drop (0+(a.eval y).cells.size)).toArray=(a.eval y).cells:=by
        rw[List.drop_eq_nil_of_le (by simp;omega)]
        simp
      have hrun:(execOp a.eval o).run P c.w= .ok .skip (c.w.setRow blk (a.eval y).cells):=by
        simp only[Nat.add_zero]at hst
        rw[←hnew]
        simp[execOp,hop,hsl,Instr.storeAt,Instr.sureAddr,storeVar,run_sizeOf hsz,←f1,hst]
      have hgo:OpGoes P a.eval o c.w (fun rv w'=>w'=c.w.setRow blk (a.eval y).cells):=by unfold OpGoes;rw[hrun]
      refine hgo.wp ?_
      rintro rv w' rfl
      rw[hbd]
      have hb: ∀p,c.hid blk p:=fun p=>by rw[hhid];exact .inr ⟨_,hmem,rfl⟩
      obtain⟨hEL,hR⟩:=hr.absorb (hid':=hidL c0.hid (L.filter fun q=>decide (q.2≠blk))) r1 hp.sig hp.tok hp.mu hb (fun b p hh=>by
        rw[hhid]
        rcases hh with hh|⟨q,hq,e⟩
        · exact .inl hh
        · exact .inr ⟨q,(List.mem_filter.1 hq).1,e⟩) f1.symm f2
      have hHi:addAll ([].filterMap F) (T.H (i+1))=⟨(T.H i).bx++[cs],(T.H i).tk,(T.H i).mu⟩:=by rw[List.filterMap_nil,addAll_nil,hH]
      have hother: ∀k,k≠blk→(c.w.setRow blk (a.eval y).cells).heap[k]? =c.w.heap[k]? :=fun k hk=>setRow_other c.w blk k _ hk
      have hblk:c0.w.heap.size≤blk:=hp.new
      have hEb:Evo c0 (Ctx.bare ⟨c.σ++[blk],c.τ,c.μ,hidL c0.hid (L.filter fun q=>decide (q.2≠blk)),c.w.setRow blk (a.eval y).cells⟩ c0.hid):=by
        obtain⟨n,hn,hn'⟩:=hE.sig
        refine⟨hE.os,hE.tape,hE.output,by simpa[Ctx.bare]using hE.size,rfl,⟨n++[blk], ?_, ?_⟩,hE.tok,hE.mu,hE.munew,hE.toknew, ?_, ?_⟩
        · simp only[Ctx.bare]at hn⊢
          rw[hn,List.append_assoc]
        · intro b hb
          rcases List.mem_append.1 hb with hb|hb
          · exact hn' b hb
          · simp at hb;subst hb;exact hblk
        · intro b v hb' hst' hc
          have hlt':=World.block_lt_of_cell? c0.w b hc
          obtain⟨k1,k2⟩:=hE.keep b v hb' hst' hc
          have hne:b.block≠blk:=by omega
          refine⟨?_,k2.1, ?_,k2.2.2⟩
          · rw[←k1]
            exact World.cell?_of_block (hother _ hne)
          · intro hx
            rcases List.mem_append.1 hx with hx|hx
            · exact k2.2.1 hx
            · simp at hx;exact hne hx
        · intro b hb' h1 h2 h3
          exact(hother b (by omega)).trans (hE.frame b hb' h1 h2 h3)
      refine hZ _ _ ⟨⟨c.σ++[blk],c.τ,c.μ,hidL c0.hid (L.filter fun q=>decide (q.2≠blk)),c.w.setRow blk (a.eval y).cells⟩,i+1,L.filter fun q=>decide (q.2≠blk),[],hilen,chain' (by omega) (by omega),chain4 (by omega) (by omega),rfl,hHi▸hR,rfl,hEb, ?_, ?_, ?_,hdf,hN, ?_⟩
      · intro q hq
        obtain⟨hq1,hq2⟩:=List.mem_filter.1 hq
        have hq2:q.2≠blk:=of_decide_eq_true hq2
        have hp':=hpd q hq1
        obtain⟨vals',t2,s1,s2⟩:=hp'.row
        refine⟨hp'.slot,hp'.mem,⟨vals',t2,(hother _ hq2).trans s1,s2⟩, ?_,hp'.tok,hp'.mu,hp'.new,fun u o' hu hab' hsu=> ?_,hp'.made.imp fun j ⟨o',q1,q2,q3⟩=>⟨o',q1,q2, .inl q3⟩⟩
        · intro hx
          rcases List.mem_append.1 hx with hx|hx
          · exact hp'.sig hx
          · simp at hx;exact hq2 hx
        · rcases hsu with hsu|rfl
          · exact hp'.open_ u o' hu hab' hsu
          · rw[h.at_]at hu;cases hu
            rw[hab]at hab'
            have e:x=q.1:=Option.some.inj hab'
            have s3:=hp'.slot
            rw[←e]at s3
            have s4:=hp.slot
            simp only at s4
            rw[s3]at s4
            simp at s4
            exact hq2 s4
      · exact fun q hq r hr' e=>hinj q (List.mem_filter.1 hq).1 r (List.mem_filter.1 hr').1 e
      · intro j o' d hj hd hsj
        rcases hsj with hsj|rfl
        · rcases hcp j o' d hj hd hsj with⟨b,h1⟩|⟨u,b,h1,h2,h3⟩
          · by_cases e:b=blk
            · have:=hinj _ h1 _ hmem e
              cases this
              exact .inr ⟨i,o,h.at_,hab, .inr rfl⟩
            · exact .inl ⟨b,List.mem_filter.2 ⟨h1,by simpa using e⟩⟩
          · exact .inr ⟨u,b,h1,h2, .inl h3⟩
        · rw[h.at_]at hj;cases hj
          rw[(al_op hd).2.2.2.2]at hab;cases hab
      · refine SlotOk.put hO hS h (a':=a) (fun t e=> ?_) (fun t e=>rfl) fun t=>(hs t).light hEL
        rw[hdk]at e
        cases e
        rw[hv]
        have:a.tmps.getD x undef= .pointer (some ⟨blk,0,none⟩):=hp.slot
        rw[this]
        exact .ptr _ _ _ (by simp[←hr.len])
  · have hno:alT K o=none∧abT K o=none:=by
      constructor
      · cases hal:alT K o with
        |none=>rfl
        |some d=>
          exfalso
          obtain⟨_,hdK,_,hdk,hab⟩:=al_op hal
          obtain⟨i1,u1,a1,b1,t1,y1,hlt,e1,e2,e3,e4,g1,_,_,e5,e6,e7⟩:=(hO.float _ hdK).ex
          rcases e7 i o h.at_ hdk with rfl|rfl
          · rw[h.at_]at e1;cases e1;unfold gd at hg;rw[g1]at hg;cases hg
          · rw[h.at_]at e2;cases e2;rw[hab]at e6;cases e6
      · cases hab:abT K o with
        |none=>rfl
        |some x=>
          exfalso
          obtain⟨_,hxK,hdk⟩:=ab_op hab
          obtain⟨i1,u1,a1,b1,t1,y1,hlt,e1,e2,e3,e4,_,g1,_,e5,e6,e7⟩:=(hO.float _ hxK).ex
          rcases e7 i o h.at_ hdk with rfl|rfl
          · rw[h.at_]at e1;cases e1;rw[(al_op e5).2.2.2.2]at hab;cases hab
          · rw[h.at_]at e2;cases e2;unfold gd at hg;rw[g1]at hg;cases hg
    rw[gd_local hlooks hg,if_neg (by simp)]
    by_cases hk:2≤kindK P K o
    · by_cases hk4:kindK P K o=4
      · exact done hno.1 hno.2 c m (D++[i]) undef hm (plain' (.inr hk4)) (ins4 hk4) (by rw[List.filterMap_append,List.filterMap_cons,hF.still hH,List.filterMap_nil,List.append_nil];exact hr) (Evo.refl c) (by rw[hv];exact .g _ _ (.raw _))
      · exact done hno.1 hno.2 c (i+1) [] undef hilen (chain' hk hk4) (chain4 hk hk4) (by rw[List.filterMap_nil,addAll_nil,hH];exact hRi hk hk4) (Evo.refl c) (by rw[hv];exact .g _ _ (.raw _))
    · exact done hno.1 hno.2 c m D undef hm (plain' (by omega)) (plain4 (by omega)) hr (Evo.refl c) (by rw[hv];exact .g _ _ (.raw _))
theorem inv_end(hT:IsRun P N all K T)(hF:InsFn P all K T F)(hO:Ordered P K all){c0:Ctx}{S:Nat→Prop}(hSl: ∀i,S i→i<all.length)(hall: ∀i,i<all.length→S i){a:Act}{w:World}(hI:Inv P N all K T F c0 S a w):
  ∃c,c.w=w∧Rel P c (T.H all.length)∧Evo c0 c∧ER c N (T.E all.length) a:=by
 obtain⟨c,m,L,D,hm,hch,⟨_,hD⟩,rfl,hr,hhid,hE,hpd,_,_,hdf,hN,hs⟩:=hI
 have hL:L=[]:=by
  cases L with
  |nil=>rfl
  |cons x L=>
   exfalso
   have hp:=hpd x (List.mem_cons_self ..)
   obtain⟨i1,u1,a1,b1,t1,y1,hlt,e1,e2,e3,e4,_,g1,_,e5,e6,e7⟩:=(hO.float _ hp.mem).ex
   exact hp.open_ u1 b1 e2 e6 (hall u1 (List.getElem?_eq_some_iff.1 e2).1)
 subst hL
 rw[hidL_nil]at hhid
 have hE:Evo c0 c:=by
  have:c.bare c0.hid=c:=by cases c;simp only[Ctx.bare]at *;rw[hhid]
  rw[this]at hE;exact hE
 have hH:T.H all.length=addAll ((List.range' m (all.length-m)).filterMap F) (T.H m):=by
  have:=H_ins hT hF (m:=m) (all.length-m) (by omega) fun j o hj1 hj2 hx=>by
   refine Classical.byContradiction fun hn=> ?_
   have:=(hch j o hx (by omega) (by omega)).1 (hall j (by omega))
   omega
  rwa[show m+(all.length-m)=all.length by omega]at this
 have hR:Rel P c (T.H all.length):=by
  rw[hH,←hF.filter]
  refine hr.perm (addAll_perm (List.Perm.filterMap F ?_) _)
  refine(List.perm_ext_iff_of_nodup hD.nd (List.Pairwise.filter _ List.nodup_range')).2 fun j=> ?_
  rw[hD.mem,List.mem_filter,is4_iff,List.mem_range'_1]
  constructor
  ·rintro⟨q1,q2,q3⟩
   have:=hSl j q2
   exact⟨⟨q1,by omega⟩,q3⟩
  ·rintro⟨⟨q1,q2⟩,q3⟩
   exact⟨q1,hall j (by omega),q3⟩
 refine⟨c,rfl,hR,hE,hdf.trans (congrArg Hid.d hhid).symm,hN,fun t=> ?_⟩
 rcases hs t with⟨i,o,h1,h2,h3,h4,h5⟩|⟨h1,h2⟩
 ·have hi:=(List.getElem?_eq_some_iff.1 h1).1
  rw[env_last hT h1 h3 _ hi (Nat.le_refl _) fun j o' hj1 hj2 hj3=>h4 j o' hj1 hj3 (hall j hj2)]
  exact h5
 ·rw[env_first hT _ (Nat.le_refl _) fun j o' hj1 hj2=>h1 j o' hj2 (hall j hj1)]
  exact h2
def lst(listed:Array Bool)(i:Nat):Prop:=listed.getD i false=true
def left(listed:Array Bool)(n:Nat):Nat:=((List.range n).filter fun i=> !listed.getD i false).length
theorem lst_set{listed:Array Bool}{i k:Nat}(hi:i<listed.size):lst (listed.setIfInBounds i true) k↔(lst listed k∨k=i):=by
 unfold lst
 simp only[Array.getD_eq_getD_getElem?,Array.getElem?_setIfInBounds]
 by_cases e:i=k
 ·subst e;simp[hi]
 ·simp[e];intro h;exact absurd h.symm e
theorem left_set{listed:Array Bool}{i n:Nat}(hi:i<listed.size)(hn:i<n)(hl: ¬lst listed i):left (listed.setIfInBounds i true) n<left listed n:=by
 unfold left
 have h1:((List.range n).filter fun k=> !(listed.setIfInBounds i true).getD k false)=((List.range n).filter fun k=> !listed.getD k false).filter (fun k=>decide (k≠i)):=by
  rw[List.filter_filter]
  congr 1
  funext k
  by_cases e:i=k
  ·subst e;simp[Array.getD_eq_getD_getElem?,hi]
  ·have e': ¬k=i:=fun h=>e h.symm
   simp[Array.getD_eq_getD_getElem?,e,e']
 rw[h1]
 refine List.length_filter_lt_length_iff_exists.2 ⟨i, ?_,by simp⟩
 simp only[List.mem_filter,List.mem_range]
 refine⟨hn, ?_⟩
 simpa[lst]using hl
theorem mem_ready'{listed:Array Bool}{i:Nat}(hsz:listed.size=all.length)(h:i∈Region.ready .any all.toArray listed): ∃o,Comes all (lst listed) i o:=by
 unfold Region.ready at h
 rw[List.mem_filter]at h
 obtain⟨h1,h2⟩:=h
 have hlt:i<all.length:=by simpa using h1
 simp only[Bool.and_eq_true]at h2
 refine⟨all[i],List.getElem?_eq_getElem hlt, ?_, ?_⟩
 ·have:=h2.1
  simp only[lst,Array.getD_eq_getD_getElem?]at this⊢
  rw[Array.getElem?_eq_getElem (by omega)]at this⊢
  simpa using this
 ·intro e he hb
  have h3:=h2.2
  have:(all.toArray)[i]? =some all[i]:=by simp[hlt]
  rw[this]at h3
  simp only[Option.map_some,Option.getD_some]at h3
  have h4:=Array.all_eq_true_iff_forall_mem.1 h3 e he
  simp only[hb,Bool.not_true,Bool.false_or]at h4
  exact h4
theorem ready_or_all(hO:Ordered P K all){listed:Array Bool}(hsz:listed.size=all.length)(h:Region.ready .any all.toArray listed=[]): ∀i,i<all.length→lst listed i:=by
 intro i
 induction i using Nat.strongRecOn with
 |_ i ih=>
  intro hi
  refine Classical.byContradiction fun hn=> ?_
  have:i∈Region.ready .any all.toArray listed:=by
   unfold Region.ready
   rw[List.mem_filter]
   refine⟨by simpa using hi, ?_⟩
   simp only[Bool.and_eq_true]
   refine⟨?_, ?_⟩
   ·simp only[lst,Array.getD_eq_getD_getElem?]at hn⊢
    rw[Array.getElem?_eq_getElem (by omega)]at hn⊢
    simpa using hn
   ·have e0:(all.toArray)[i]? =some all[i]:=by simp[hi]
    rw[e0]
    simp only[Option.map_some,Option.getD_some]
    refine Array.all_eq_true_iff_forall_mem.2 fun e he=> ?_
    cases hb:Region.binds .any e with
    |false=>simp
    |true=>
     have hlt:=hO.back i all[i] (List.getElem?_eq_getElem hi) e he hb
     have:=ih e.on hlt (by omega)
     simp only[lst]at this
     simp[this]
  rw[h]at this
  cases this
theorem lst_lt{listed:Array Bool}{i:Nat}(h:lst listed i):i<listed.size:=by
 refine Nat.lt_of_not_le fun hn=> ?_
 unfold lst at h
 rw[Array.getD_eq_getD_getElem?,Array.getElem?_eq_none hn]at h
 cases h
theorem wpAny_of_inv(hT:IsRun P N all K T)(hF:InsFn P all K T F)(hO:Ordered P K all){c0:Ctx}{Q:Exit→Act→World→Prop}
  (hQ: ∀a w,(∃c,c.w=w∧Rel P c (T.H all.length)∧Evo c0 c∧ER c N (T.E all.length) a)→Q .normal a w):
  ∀(fuel:Nat) (listed:Array Bool) (a:Act) (w:World),listed.size=all.length→left listed all.length≤fuel→ClosedS all (lst listed)→Inv P N all K T F c0 (lst listed) a w→wpAny P .any all.toArray Q fuel listed a w
 |0,listed,a,w,hsz,hf,hS,hI=>by
  have hall: ∀i,i<all.length→lst listed i:=by
   intro i hi
   refine Classical.byContradiction fun hn=> ?_
   have hmem:i∈(List.range all.length).filter fun i=> !listed.getD i false:=by
    simp only[List.mem_filter,List.mem_range]
    exact⟨hi,by simpa[lst]using hn⟩
   have h0:(List.range all.length).filter (fun i=> !listed.getD i false)=[]:=List.eq_nil_of_length_eq_zero (by unfold left at hf;omega)
   rw[h0]at hmem
   cases hmem
  refine⟨?_,hQ a w (inv_end hT hF hO (fun i hi=>hsz▸lst_lt hi) hall hI)⟩
  refine List.eq_nil_iff_forall_not_mem.2 fun i hi=> ?_
  obtain⟨o,hc⟩:=mem_ready' hsz hi
  exact hc.out (hall i (List.getElem?_eq_some_iff.1 hc.at_).1)
 |fuel+1,listed,a,w,hsz,hf,hS,hI=>by
  refine⟨fun h0=>hQ a w (inv_end hT hF hO (fun i hi=>hsz▸lst_lt hi) (ready_or_all hO hsz h0) hI),fun i hi=> ?_⟩
  obtain⟨o,hc⟩:=mem_ready' hsz hi
  have hlt:=(List.getElem?_eq_some_iff.1 hc.at_).1
  have hop:(all.toArray)[i]? =some o:=by simpa using hc.at_
  have hstep:=inv_step (Q:=Q) hT hF hO hS hI hc (Z:=wpAny P .any all.toArray Q fuel (listed.setIfInBounds i true)) (by
   intro a' w' hI'
   have hset:lst (listed.setIfInBounds i true)=fun k=>lst listed k∨k=i:=funext fun k=>propext (lst_set (by omega))
   refine wpAny_of_inv hT hF hO hQ fuel _ a' w' (by simpa using hsz) ?_ ?_ ?_
   ·have:=left_set (n:=all.length) (by omega:i<listed.size) hlt hc.out
    omega
   ·rw[hset]
    intro k y hy hk e he hb
    rcases hk with hk|rfl
    ·exact .inl (hS k y hy hk e he hb)
    ·rw[hc.at_]at hy
     cases hy
     exact .inl (hc.pre e he hb)
   ·rw[hset];exact hI')
  unfold wpOp
  rw[hop]
  exact hstep
theorem PW_draw{id:Nat}{l:List Oper}{Q:Exit→Env→PH→Prop}{env:Env}{H:PH}(K:List Nat)(hm:P.follows .mixedOrders=true)(hd:drawB P K l=true)(h:POpsD P N l.toArray K (fun env H=>Q .normal env H) l env H):
  PW P N (.region id l.toArray true) Q env H:=by
 obtain⟨T,e1,e2,e3,e4⟩:=run_of l 0 env H (by simp) h
 have hT:IsRun P N l K T:=⟨fun i o ho=>(e4 i o (Nat.zero_le _) ho).1,fun i o ho=>(e4 i o (Nat.zero_le _) ho).2.1,fun i o ho=>(e4 i o (Nat.zero_le _) ho).2.2⟩
 have hO:=ordered_of hd
 obtain⟨F,hF⟩:=insFn_ex P l K T
 intro c a hr he
 refine wp_region_any hm ?_
 have hg:=hr.grow (Ext.drew c.w)
 have none: ∀i,¬lst (Array.replicate l.toArray.size false) i:=by
  intro i h
  simp only[lst,Array.getD_eq_getD_getElem?]at h
  by_cases hi:i<l.length<;>simp[hi]at h
 refine wpAny_of_inv (c0:=c) hT hF hO ?_ _ _ a _ (by simp) ?_ (fun j o _ hj=>absurd hj (none j)) ?_
 ·rintro a' w' ⟨c',rfl,hr',hE,he'⟩
  simp only[Nat.zero_add]at e3
  exact⟨c',_,_,e3,rfl,hr',hE,he'⟩
 ·unfold left
  refine Nat.le_trans (List.length_filter_le _ _) (by simp)
 ·refine⟨⟨c.σ,c.τ,c.μ,c.hid,c.w.drew⟩,0,[],[],Nat.zero_le _,fun j o hj _ _=>⟨fun h=>absurd h (none j),fun h=>by omega⟩,⟨fun j o _ _ h=>by omega,List.nodup_nil,fun j=>⟨fun h=>(by cases h),fun h=>absurd h.2.1 (none j)⟩⟩,rfl,by rw[List.filterMap_nil,addAll_nil];exact e2▸hg.1,(hidL_nil _).symm,hg.2,by simp,by simp,fun j o d _ _ hj=>absurd hj (none j),he.defers,he.size,fun t=> .inr ⟨fun i o _ hs=>absurd hs (none i), ?_⟩⟩
  rw[e1]
  exact(he.slot t).mono hg.2
end
end Go.Pure