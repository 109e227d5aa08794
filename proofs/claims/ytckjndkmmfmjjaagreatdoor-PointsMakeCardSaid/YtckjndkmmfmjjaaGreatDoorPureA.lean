/- Steps to pointsMake_card. -/
import Derived.Lib.DecodeN
import Derived.Orders
import Derived.Below
import Derived.Deep.LoopGhost
import Derived.Laws.Panics
set_option linter.all false
namespace Go.Pure
variable{A:Prop}
def aa(h:A:=by simp):A:=h
def ab(h:A:=by omega):A:=h
def ad(h:A:=by simp;omega):A:=h
def ae(h:A:=by simp<;>omega):A:=h
def af(h:A:=by decide):A:=h
def ah(h:A:=by dsimp only;omega):A:=h
def ai(h:A:=by unfold maxLen;omega):A:=h
def aj(h:A:=by kernel_rfl):A:=h
def aR:=@List.getElem?_eq_some_iff
def aS:=@List.getElem?_eq_getElem
def aT:=@congrArg
def aU:=@of_decide_eq_true
def aV:=@if_neg
def aW:=@if_pos
def aX:=@of_decide_eq_false
def aY:=@List.mem_of_getElem?
def aZ:=@Nat.le_refl
def a7:=@List.getElem?_append_right
def a8:=@List.getElem?_append_left
def bc:=@Nat.zero_add
def bd:=@List.length_append
def bg:=@Nat.mul_le_mul_right
def bh:=@Option.map_eq_some_iff
def bj:=@List.getElem?_map
def bk:=@beq_eq_false_iff_ne
def bl:=@Nat.eq_of_beq_eq_true
def bm:=@Nat.zero_le
def bn:=@Nat.mod_eq_of_lt
def bq:=@List.getElem?_take
def br:=@Int.natCast_nonneg
def bt:=@List.getElem?_of_mem
def bu:=@List.length_cons
def bw:=@List.mem_cons_of_mem
def bz:=@Nat.le_of_ble_eq_true
def bA:=@decide_eq_false
def bB:=@Nat.add_mul
def bC:=@List.mem_append
def bD:=@List.getElem?_drop
def bE:=@List.mem_cons_self
def bF:=@Array.getD_eq_getD_getElem?
def bG:=@Nat.mul_comm
def bH:=@List.length_nil
def bI:=@Bool.and_eq_true
def bJ:=@List.getElem_mem
def bK:=@Nat.div_lt_iff_lt_mul
def bL:=@Nat.mod_lt
def bM:=@Int.natAbs_natCast
def bN:=@List.mem_cons
def bO:=@Nat.lt_of_le_of_lt
def bP:=@List.getElem?_set_ne
def bQ:=@beq_iff_eq
def bR:=@List.take_of_length_le
def bU:=@decide_eq_true
def bV:=@List.append_assoc
def bW:=@List.length_take
def bX:=@Nat.lt_of_lt_of_le
def bY:=@List.drop_eq_getElem_cons
def bZ:=@List.getElem?_set_self
def b7:=@List.take_succ_eq_append_getElem
def b8:=@Nat.le_trans
def b9:=@Nat.add_zero
def cf:=@Nat.pow_le_pow_right
def cg:=@Option.some.injEq
def ch:=@Nat.mul_le_mul_left
def cj:=@Classical.byContradiction
def cn:=@Nat.mul_add
def cr:=@cond_true
def cA:=@List.take_append_drop
def cC:=@List.mem_of_mem_take
def cE:=@Option.some.inj
def cF:=@List.not_mem_nil
def cG:=@List.append_nil
def cH:=@List.mem_map
def cL:=@Nat.add_mul_div_left
def cN:=@Nat.mul_assoc
def cO:=@Int.mul_assoc
def cP:=@decide_eq_false_iff_not
def cS:=@List.length_replicate
def cT:=@Nat.mod_add_div
def cU:=@Nat.mul_one
def cV:=@List.take_append_of_le_length
def cW:=@Nat.pow_succ
def cX:=@decide_eq_true_eq
def cY:=@List.all_eq_true
def cZ:=@Nat.div_eq_of_lt
def c7:=@List.getElem?_cons_succ
def c8:=@Nat.one_mul
def c9:=@Bool.not_eq_true'
def da:=@Int.toNat_natCast
def db:=@List.mem_singleton
def dc:=@Nat.add_mul_mod_self_left
def de:=@cond_false
def df:=@List.eq_nil_of_length_eq_zero
def dh:=@bne_eq_false_iff_eq
def dm:=@List.length_map
def dn:=@BitVec.ofInt_natCast
def dp:=@List.getElem?_eq_none
def dq:=@Bool.not_eq_false'
def dr:=@Array.getElem?_eq_getElem
def dt:=@Nat.pow_pos
def du:=@List.take_length
def dv:=@List.drop_length
def dw:=@Array.getElem?_eq_some_iff
def dx:=@List.map_cons
def dy:=@Nat.mul_le_mul
def dz:=@List.drop_zero
def dA:=@Nat.sub_self
def dB:=@Bool.false_eq_true
def dD:=@BitVec.toNat_ofNat
def dE:=@List.getD_eq_getElem?_getD
def dG:=@Nat.lt_or_ge
def dH:=@List.drop_of_length_le
def dI:=@Int.natAbs_mul
def dJ:=@Int.natCast_mul
def dK:=@List.mem_filter
def dM:=@not_not_intro
def dN:=@Bool.false_and
def dO:=@bne_iff_ne
def dQ:=@List.cons_append
def dS:=@List.mem_flatMap
def dT:=@Nat.pow_one
def dU:=@Nat.lt_trans
def dV:=@List.getElem?_toArray
def dW:=@List.set_append_right
def dX:=@List.nil_append
def dY:=@Nat.div_le_self
def dZ:=@Nat.mul_zero
def ec:=@Nat.min_eq_left
def ed:=@List.mem_append_right
def en:=@if_false
def ep:=@Nat.add_assoc
def eu:=@Nat.ble_eq_true_of_le
def ew:=@Nat.add_sub_cancel_left
def ez:=@Int.mul_comm
def eC:=@Nat.testBit_or
def eD:=@Bool.eq_false_iff
def eE:=@List.ext_getElem?
def eF:=@List.eq_nil_iff_forall_not_mem
def eG:=@UInt8.lt_iff_toNat_lt
def eH:=@List.take_succ_cons
def eI:=@List.flatMap_append
def eJ:=@List.getElem?_replicate
def eK:=@Nat.add_comm
def eL:=@Prod.mk.injEq
def eM:=@Nat.pow_zero
def eO:=@gt_iff_lt
def eP:=@ge_iff_le
def eQ:=@Int.mul_left_comm
def eR:=@Int.eq_of_mul_eq_mul_right
def eS:=@Option.map_some
def eT:=@List.getElem_range
def eU:=@List.map_append
def eV:=@List.filterMap_nil
def eW:=@Nat.div_lt_of_lt_mul
def eX:=@Nat.div_add_mod
def eY:=@List.length_drop
def eZ:=@Int.lt_trichotomy
def e8:=@List.take_zero
def fa:=@Nat.le_div_iff_mul_le
def fc:=@Nat.le_succ
def fe:=@Nat.div_one
def ff:=@Array.getElem?_map
def fh:=@Nat.blt_eq
def fi:=@List.mem_append_left
def fj:=@List.mem_of_mem_drop
def fk:=@Nat.beq_refl
def fm:=@Array.getElem?_append_left
def fo:=@Int.natAbs_pow
def fp:=@Nat.pow_add
def fq:=@Nat.div_div_eq_div_mul
def fu:=@List.take_add_one
def fv:=@List.flatMap_cons
def fw:=@List.foldl_append
def fA:=@Array.length_toList
def fB:=@List.replicate_succ
def fC:=@Array.getElem?_toList
def fD:=@Nat.mul_pos
def fE:=@Array.getElem?_setIfInBounds
def fF:=@Nat.lt_trichotomy
def fG:=@Int.mul_ne_zero
def fH:=@List.filterMap_cons
def fI:=@List.map_nil
def fJ:=@Nat.le_of_eq
def fK:=@Int.le_refl
def fL:=@Nat.lt_of_mul_lt_mul_right
def fM:=@Int.fdiv_eq_ediv_of_nonneg
def fN:=@Array.all_eq_true_iff_forall_mem
def fO:=@Bool.not_eq_true
def fP:=@Array.mem_of_getElem?
def fQ:=@List.mem_filterMap
def fR:=@List.mem_range
def fS:=@List.mem_replicate
def fT:=@List.pairwise_cons
def fU:=@List.set_cons_zero
def fV:=@ne_eq
def fW:=@List.getElem?_eq_none_iff
def fY:=@Nat.div_pos
def fZ:=@Int.ne_of_gt
def ga:=@List.size_toArray
def gb:=@Nat.or_lt_two_pow
def gf:=@List.map_take
def gh:=@List.drop_append_of_le_length
def gi:=@List.getElem?_cons_zero
def gj:=@Nat.le_mul_of_pos_right
def gn:=@List.replicate_zero
def gp:=@Nat.le_add_right
def gr:=@List.drop_drop
def gw:=@decide_eq_decide
def gA:=@Int.pow_pos
def gB:=@Array.getElem?_append_right
def gC:=@Nat.add_sub_cancel
def gD:=@Nat.sub_zero
def gE:=@Nat.mul_lt_mul_of_pos_right
def gF:=@if_true
def gG:=@Bool.eq_iff_iff
def gH:=@Int.natCast_pow
def gJ:=@Nat.le_of_lt_succ
def gK:=@Array.mem_toList_iff
def gL:=@List.nodup_nil
def gM:=@Int.ofNat_tmod
def gN:=@Array.toList_map
def gO:=@Nat.zero_mul
def gP:=@Int.zero_mul
def gQ:=@Nat.mul_lt_mul''
def gR:=@List.length_pos_iff
def gS:=@Nat.le_of_dvd
def gT:=@Bool.or_eq_true
def gU:=@Nat.mul_right_comm
def gV:=@Int.natCast_add
def gW:=@Int.sub_eq_add_neg
def gX:=@List.drop_eq_nil_of_le
def gY:=@Int.pow_add
def gZ:=@List.nodup_append
def ib:=@Array.size_append
def ie:=@Nat.add_mod_right
def ig:=@getElem!_pos
def ij:=@Ne.symm
def ik:=@Nat.ne_of_gt
def il:=@Int.ofNat_tdiv
def im:=@Nat.lt_of_not_le
def iu:=@BitVec.toNat_and
def iv:=@Nat.shiftLeft_eq
def iw:=@List.cons.injEq
def ix:=@List.foldl_cons
def iy:=@Nat.mul_ne_zero
def iz:=@BitVec.toNat_or
def iB:=@Nat.le_of_lt
def iC:=@List.map_set
end Go.Pure
open Go.IntKind (i64)
set_option maxRecDepth 100000
set_option maxHeartbeats 32000000
namespace Go.Pure
open Go
def om(_:Nat->Value):List (Nat×List Value):=[(3,[Value.int .i64 12]),(4,[Value.int .i64 80]),(5,[Value.int .i64 40]),(8,[Value.int .i64 40]),
 (0,(List.range 256).map λc=>Value.int .u8 (Lib.firstT c)),(1,(List.range 32).map λk=>Value.int .u8 (if k%2=0 then Lib.accLo (k/2)else Lib.accHi (k/2)))]
def xv:Prop:=True
def Xv(_:Nat->Value):Prop:=True
def gq(_:World):Prop:=True
inductive GV where
 |int (k:IntKind) (n:Int)
 |bool (b:Bool)
 |str (s:ByteArray)
 |raw (v:Value)
 |agg (cs:List GV)
 |sl (es:List GV)
 deriving Inhabited
def GV.cells:GV->List GV
 |.agg cs=>cs|g=>[g]
inductive RG(w:World)(S:Nat->Nat->Prop):GV->Value->Prop where
 |int (k:IntKind) (n:Int):RG w S (.int k n) (.int k n)
 |bool (b:Bool):RG w S (.bool b) (.bool b)
 |str (s:ByteArray):RG w S (.str s) (.string s)
 |raw (v:Value):RG w S (.raw v) v
 |agg (cs:List GV) (vs:Array Value) (hl:cs.length=vs.size) (h1:∀v∈vs.toList,v.oneCell'=true)
   (h:∀(i:Nat) (g:GV) (v:Value),cs[i]?=some g->vs[i]?=some v->RG w S g v):RG w S (.agg cs) (.agg vs)
 |nil:RG w S (.sl []) (.slice none 0 0)
 |sl (es:List GV) (a:Addr) (cap size:Nat) (f:Nat->Value) (ha:es≠[]->a.spot=none) (hc:es.length<=cap) (hm:cap<=maxLen)
   (hs:∀(i:Nat) (e:GV),es[i]?=some e->e.cells.length=size)
   (hf:∀k,k<es.length*size->w.cell? (a.add k)=some (f k)∧S a.block (a.off+k)∧(f k).oneCell'=true)
   (h:∀(i:Nat) (e:GV) (j:Nat) (g:GV),es[i]?=some e->e.cells[j]?=some g->RG w S g (f (i*size+j))):
   RG w S (.sl es) (.slice (some a) es.length cap)
def sV(a:Addr)(k:Nat):(a.add k).block=a.block:=by unfold Addr.add;split<;>rfl
def yd(a:Addr)(k:Nat):(a.add k).off=a.off+k:=by unfold Addr.add;split<;>simp_all
def oT(a:Addr)(k:Nat)(h:a.spot=none):(a.add k).spot=none:=by unfold Addr.add;split<;>simp_all
def add_eq(a:Addr)(k:Nat)(h:a.spot=none):a.add k=⟨a.block,a.off+k,none⟩:=by
 unfold Addr.add;split
 ·subst_vars;cases a;simp_all
 rfl
def yN(w w':World)(S S':Nat->Nat->Prop):Prop:=
 ∀(a:Addr) (v:Value),a.spot=none->S a.block a.off->w.cell? a=some v->w'.cell? a=some v∧S' a.block a.off
variable{w w':World}{S':Nat->Nat->Prop}{v:Value}
def RG.mono{S:Nat->Nat->Prop}(hk:yN w w' S S'){g:GV}(h:RG w S g v):RG w' S' g v:=by
 induction h with
 |int k n=>exact .int k n|bool b=>exact .bool b|str s=>exact .str s|raw v=>exact .raw v|agg cs vs hl h1 _ ih=>exact .agg cs vs hl h1 ih|nil=>exact .nil
 |sl es a cap size f ha hc hm hs hf _ ih=>
  refine .sl es a cap size f ha hc hm hs (λk yt=>?_) ih;obtain⟨h1,h2,h3⟩:=hf k yt;have:=hk (a.add k) (f k) (oT a k (ha (by rintro rfl;simp at yt))) (by rw[sV,yd];exact h2) h1;rw[sV,yd]at this;exact⟨this.1,this.2,h3⟩
inductive PV where
 |g (x:GV)
 |own (es:List GV) (id:Nat)
 |ptr (b:Nat) (off:Nat)
 |jx
 |iM
 |pat (cs:List GV)
 |mU (fn:Fn) (first cap:List PV)
 |agg (cs:List PV)
 |tuple (cs:List PV)
 |lit (es:List GV)
 |lK (id n:Nat)
 |kE (id n i off:Nat)
 |mp (id:Nat)
 |vw (id n off len cap:Nat)
 |qm (id n off len:Nat)
 |mV (g off:Nat)
 |kv (g off:Nat)
 |rz (t:TypeId) (p:PV)
 |any
 deriving Inhabited
structure Tok where
 live:Bool
 g:Nat
 e:TypeId
 size:Nat
 cap:Nat
 hw:Nat
structure oZ where
 live:Bool
 g:Nat
 size:Nat
 gen:Nat
 len:Nat
 cap:Nat
structure Hid where
 f:Nat->Nat->Prop
 d:List Deferred
instance:CoeFun Hid λ_=>Nat->Nat->Prop:=⟨Hid.f⟩
structure Ctx where
 σ:List Nat
 τ:List Tok
 μ:List oZ
 hid:Hid
 w:World
def Ctx.jq(c:Ctx)(b p:Nat):Prop:= ¬c.hid b p∧b∉c.σ∧(∀t∈c.τ,t.live=true->t.g=b->p<t.hw*t.size)∧∀t∈c.μ,t.live=true->t.g≠b
def GX(w:World)(S:Nat->Nat->Prop):Prop:= ∀w':World,(∀(a:Addr) (v:Value),a.spot=none->S a.block a.off->w.cell? a=some v->w'.cell? a=some v)->gq w'
def GL(c:Ctx):Prop:=(∃β:Nat->Value,Xv β∧∀x∈om β,∀(k:Nat) (v:Value),x.2[k]?=some v->c.w.cell? ⟨x.1,k,none⟩=some v∧c.jq x.1 k)∧GX c.w c.jq
def GX.kF{S:Nat->Nat->Prop}(h:GX w S)(hk:yN w w' S S'):GX w' S':=λw2 h2=>h w2 λa v hs lT hc=>h2 a v hs (hk a v hs lT hc).2 (hk a v hs lT hc).1
def GL.kF{c c':Ctx}(h:GL c)(hk:yN c.w c'.w c.jq c'.jq):GL c':=⟨h.1.imp λ_ h=>⟨h.1,λx hx k v hv=>hk ⟨x.1,k,none⟩ v rfl (h.2 x hx k v hv).2 (h.2 x hx k v hv).1⟩,h.2.kF hk⟩
variable{c c':Ctx}
def GL.Cj(h:GL c)(hw:c'.w=c.w)(hs:∀b p,c.jq b p->c'.jq b p):GL c':=h.kF λ_ _ _ lT hc=>⟨by rw[hw];exact hc,hs _ _ lT⟩
def GL.q(h:GL c):gq c.w:=h.2 c.w λ_ _ _ _ hc=>hc
inductive RV(c:Ctx):PV->Value->Prop where
 |g (x:GV) (v:Value) (h:RG c.w c.jq x v):RV c (.g x) v
 |own (es:List GV) (id:Nat) (v:Value) (t:Tok) (h:RG c.w c.jq (.sl es) v) (ht:c.τ[id]?=some t)
   (hs:∀(i:Nat) (e:GV),es[i]?=some e->e.cells.length=t.size) (hl:es.length<=t.hw)
   (hv:es.length=t.hw->(t.live=true∧v=.slice (some ⟨t.g,0,none⟩) es.length t.cap)∨(es=[]∧v=.slice none 0 0)):RV c (.own es id) v
 |ptr (b off:Nat) (kh:Nat) (h:c.σ[b]?=some kh):RV c (.ptr b off) (.pointer (some ⟨kh,off,none⟩))
 |jx:RV c .jx (.pointer none)
 |iM:RV c .iM (.slice none 0 0)
 |pat (cs:List GV) (a:Addr) (f:Nat->Value) (ha:a.spot=none)
   (hf:∀k,k<cs.length->c.w.cell? (a.add k)=some (f k)∧c.jq a.block (a.off+k)∧(f k).oneCell'=true)
   (h:∀(j:Nat) (g:GV),cs[j]?=some g->RG c.w c.jq g (f j)):RV c (.pat cs) (.pointer (some a))
 |mU (fn:Fn) (ps qs:List PV) (us vs:Array Value) (hp:ps.length=us.size) (hq:qs.length=vs.size)
   (h1:∀(i:Nat) (p:PV) (v:Value),ps[i]?=some p->us[i]?=some v->RV c p v)
   (h2:∀(i:Nat) (p:PV) (v:Value),qs[i]?=some p->vs[i]?=some v->RV c p v):RV c (.mU fn ps qs) (.func fn us vs)
 |agg (cs:List PV) (vs:Array Value) (hl:cs.length=vs.size) (h1:∀v∈vs.toList,v.oneCell'=true)
   (h:∀(i:Nat) (p:PV) (v:Value),cs[i]?=some p->vs[i]?=some v->RV c p v):RV c (.agg cs) (.agg vs)
 |tuple (cs:List PV) (vs:Array Value) (hl:cs.length=vs.size)
   (h:∀(i:Nat) (p:PV) (v:Value),cs[i]?=some p->vs[i]?=some v->RV c p v):RV c (.tuple cs) (.tuple vs)
 |lit (es:List GV) (a:Option Addr) (h:RG c.w c.jq (.sl es) (.slice a es.length es.length)):RV c (.lit es) (.slice a es.length es.length)
 |lK (id n:Nat) (v:Value) (t:oZ) (ht:c.μ[id]?=some t) (hn:n<=t.gen) (h1:v.oneCell'=true) (hv:n=t.gen->(t.live=true∧v=.slice (some ⟨t.g,0,none⟩) t.len t.cap)∨(t.live=false∧v=.slice none 0 0)):RV c (.lK id n) v
 |kE (id n i off:Nat) (a:Addr) (t:oZ) (ht:c.μ[id]?=some t) (hn:n<=t.gen) (h1:a.spot=none) (hv:n=t.gen->a=⟨t.g,i*t.size+off,none⟩):RV c (.kE id n i off) (.pointer (some a))
 |mp (id:Nat) (v:Value) (t:oZ) (ht:c.μ[id]?=some t) (h1:v.oneCell'=true) (hv:t.gen=0->v=.map (some t.g)):RV c (.mp id) v
 |vw (id n off len cap g:Nat) (t:oZ) (ht:c.μ[id]?=some t) (hn:n<=t.gen) (h1:len<=cap) (h2:cap<=maxLen) (hv:n=t.gen->t.live=true∧t.g=g∧t.size=1∧off+cap<=t.len):RV c (.vw id n off len cap) (.slice (some ⟨g,off,none⟩) len cap)
 |qm (id n off len g xw cap:Nat) (t:oZ) (ht:c.μ[id]?=some t) (hn:n<=t.gen) (h1:len<=cap) (h2:cap<=maxLen) (hv:n=t.gen->t.live=true∧t.g=g∧xw=off*t.size∧off+len<=t.len):RV c (.qm id n off len) (.slice (some ⟨g,xw,none⟩) len cap)
 |mV (g off:Nat):RV c (.mV g off) (.pointer (some ⟨g,off,none⟩))
 |kv (g off:Nat) (v:Value) (h:c.w.cell? ⟨g,off,none⟩=some v) (hs:c.jq g off) (h1:v.oneCell'=true):RV c (.kv g off) v
 |rz (t:TypeId) (p:PV) (v:Value) (h:RV c p v):RV c (.rz t p) (.iface t v)
 |any (v:Value):RV c .any v
structure kI(c c':Ctx):Prop where
 os:c'.w.os=c.w.os
 tape:c'.w.tape=c.w.tape∧(xv->c.w.drawn<=c'.w.drawn)
 output:c'.w.output=c.w.output
 size:c.w.heap.size<=c'.w.heap.size
 hid:c'.hid=c.hid
 sig:∃n,c'.σ=c.σ++n∧∀b∈n,c.w.heap.size<=b
 tok:∀(id:Nat) (t:Tok),c.τ[id]?=some t->∃t',c'.τ[id]?=some t'∧t'.size=t.size∧t'.e=t.e∧(t'=t∨t.hw<t'.hw)
 mu:∀(id:Nat) (t:oZ),c.μ[id]?=some t->∃t',c'.μ[id]?=some t'∧t'.size=t.size∧(t'=t∨t.gen<t'.gen)
 sA:∀t'∈c'.μ,t'.live=true->(∃t∈c.μ,t.live=true∧t.g=t'.g)∨c.w.heap.size<=t'.g
 pq:∀t'∈c'.τ,t'.live=true->(∃t∈c.τ,t.live=true∧t.g=t'.g)∨c.w.heap.size<=t'.g
 kF:yN c.w c'.w c.jq c'.jq
 frame:∀b,b<c.w.heap.size->b∉c.σ->(∀t∈c.τ,t.live=true->t.g≠b)->(∀t∈c.μ,t.live=true->t.g≠b)->c'.w.heap[b]?=c.w.heap[b]?
def kI.refl(c:Ctx):kI c c:=
 ⟨rfl,⟨rfl,λ_=>aZ _⟩,rfl,aZ _,rfl,⟨[],by simp⟩,λ_ t h=>⟨t,h,rfl,rfl,.inl rfl⟩,λ_ t h=>⟨t,h,rfl,.inl rfl⟩,λt h hl=>.inl ⟨t,h,hl,rfl⟩,λt h hl=>.inl ⟨t,h,hl,rfl⟩,λ_ _ _ hs hc=>⟨hc,hs⟩,λ_ _ _ _ _=>rfl⟩
def kI.trans{a b c:Ctx}(h:kI a b)(k:kI b c):kI a c:=by
 obtain⟨n,hn,Je⟩:=h.sig;obtain⟨m,hm,Oh⟩:=k.sig;refine⟨k.os.trans h.os,⟨k.tape.1.trans h.tape.1,λg=>b8 (h.tape.2 g) (k.tape.2 g)⟩,k.output.trans h.output,b8 h.size k.size,k.hid.trans h.hid,⟨n++m,by rw[hm,hn,bV],?_⟩,?_,?_,?_,?_,?_,?_⟩
 ·intro b hb;rcases bC.1 hb with hb|hb
  exact Je b hb;exact b8 h.size (Oh b hb)
 ·intro id t ht;obtain⟨t1,h1,s1,e1,d1⟩:=h.tok id t ht;obtain⟨t2,h2,s2,e2,d2⟩:=k.tok id t1 h1;refine⟨t2,h2,s2.trans s1,e2.trans e1,?_⟩;rcases d1 with rfl|d1
  exact d2
  ·rcases d2 with rfl|d2
   exact .inr d1;exact .inr (dU d1 d2)
 ·intro id t ht;obtain⟨t1,h1,s1,d1⟩:=h.mu id t ht;obtain⟨t2,h2,s2,d2⟩:=k.mu id t1 h1;refine⟨t2,h2,s2.trans s1,?_⟩;rcases d1 with rfl|d1
  exact d2
  ·rcases d2 with rfl|d2
   exact .inr d1;exact .inr (dU d1 d2)
 ·intro t' kp MS;rcases k.sA t' kp MS with⟨t,ht,lv,e⟩|hl
  ·rcases h.sA t ht lv with⟨t0,MT,Qu,e0⟩|hl
   exact .inl ⟨t0,MT,Qu,e0.trans e⟩;exact .inr (e▸hl)
  exact .inr (b8 h.size hl)
 ·intro t' kp MS;rcases k.pq t' kp MS with⟨t,ht,lv,e⟩|hl
  ·rcases h.pq t ht lv with⟨t0,MT,Qu,e0⟩|hl
   exact .inl ⟨t0,MT,Qu,e0.trans e⟩;exact .inr (e▸hl)
  exact .inr (b8 h.size hl)
 intro x v hx hs hc;obtain⟨h1,h2⟩:=h.kF x v hx hs hc;exact k.kF x v hx h2 h1
 ·intro x hx hs ht hm;rw[k.frame x (bX hx h.size),h.frame x hx hs ht hm]
  ·rw[hn];intro ki;rcases bC.1 ki with ki|ki
   exact hs ki;have:=Je x ki;omega
  ·intro t su lv e;rcases h.pq t su lv with⟨t0,MT,Qu,e0⟩|hl
   exact ht t0 MT Qu (e0.trans e);omega
  ·intro t su lv e;rcases h.sA t su lv with⟨t0,MT,Qu,e0⟩|hl
   exact hm t0 MT Qu (e0.trans e);omega
structure CV(c c':Ctx):Prop where
 sig:∃n,c'.σ=c.σ++n
 tok:∀(id:Nat) (t:Tok),c.τ[id]?=some t->∃t',c'.τ[id]?=some t'∧t'.size=t.size∧t'.e=t.e∧(t'=t∨t.hw<t'.hw)
 mu:∀(id:Nat) (t:oZ),c.μ[id]?=some t->∃t',c'.μ[id]?=some t'∧t'.size=t.size∧(t'=t∨t.gen<t'.gen)
 kF:yN c.w c'.w c.jq c'.jq
def kI.kA(h:kI c c'):CV c c':=⟨h.sig.imp λ_ h=>h.1,h.tok,h.mu,h.kF⟩
variable{p:PV}
def RV.kA(hE:CV c c')(h:RV c p v):RV c' p v:=by
 induction h with
 |g x v h=>exact .g x v (h.mono hE.kF)
 |own es id v t h ht hs hl hv=>
  obtain⟨t',kp,s',_,d⟩:=hE.tok id t ht;refine .own es id v t' (h.mono hE.kF) kp (λi e he=>(hs i e he).trans s'.symm) ?_ ?_;rcases d with rfl|d<;>omega
  ·intro e;rcases d with rfl|d
   exact hv e;omega
 |ptr b off kh h=>
  obtain⟨n,hn⟩:=hE.sig;refine .ptr b off kh ?_;rw[hn,a8 (aR.1 h).1];exact h
 |jx=>exact .jx|iM=>exact .iM
 |pat cs a f ha hf h=>
  refine .pat cs a f ha (λk hk=>?_) (λj g hj=>(h j g hj).mono hE.kF);obtain⟨h1,h2,h3⟩:=hf k hk;have:=hE.kF (a.add k) (f k) (oT a k ha) (by rw[sV,yd];exact h2) h1;rw[sV,yd]at this;exact⟨this.1,this.2,h3⟩
 |mU fn ps qs us vs hp hq _ _ h1 h2=>exact .mU fn ps qs us vs hp hq h1 h2|agg cs vs hl h1 _ ih=>exact .agg cs vs hl h1 ih|tuple cs vs hl _ ih=>exact .tuple cs vs hl ih|lit es a h=>exact .lit es a (h.mono hE.kF)
 |lK id n v t ht hn h1 hv=>
  obtain⟨t',kp,s',d⟩:=hE.mu id t ht;refine .lK id n v t' kp (by rcases d with rfl|d<;>omega) h1 (λe=>?_);rcases d with rfl|d
  exact hv e;omega
 |kE id n i off v t ht hn h1 hv=>
  obtain⟨t',kp,s',d⟩:=hE.mu id t ht;refine .kE id n i off v t' kp (by rcases d with rfl|d<;>omega) h1 (λe=>?_);rcases d with rfl|d
  exact hv e;omega
 |mp id v t ht h1 hv=>
  obtain⟨t',kp,s',d⟩:=hE.mu id t ht;refine .mp id v t' kp h1 (λe=>?_);rcases d with rfl|d
  exact hv e;omega
 |vw id n off len cap g t ht hn h1 h2 hv=>
  obtain⟨t',kp,s',d⟩:=hE.mu id t ht;refine .vw id n off len cap g t' kp (by rcases d with rfl|d<;>omega) h1 h2 (λe=>?_);rcases d with rfl|d
  exact hv e;omega
 |qm id n off len g xw cap t ht hn h1 h2 hv=>
  obtain⟨t',kp,s',d⟩:=hE.mu id t ht;refine .qm id n off len g xw cap t' kp (by rcases d with rfl|d<;>omega) h1 h2 (λe=>?_);rcases d with rfl|d
  exact hv e;omega
 |mV g off=>exact .mV g off|kv g off v h hs h1=>exact .kv g off v (hE.kF ⟨g,off,none⟩ v rfl hs h).1 (hE.kF ⟨g,off,none⟩ v rfl hs h).2 h1|rz t p v _ ih=>exact .rz t p v ih|any v=>exact .any v
def RV.mono(hE:kI c c')(h:RV c p v):RV c' p v:=h.kA hE.kA
inductive MO where
 |gone (n:Nat)
 |arr (n:Nat) (e:TypeId) (es:List GV)
 |map (es:List (GV×GV))
 |iter (n:Nat) (s:ByteArray) (pos:Nat)
structure PH where
 bx:List (List PV)
 tk:List (TypeId×Nat)
 mu:List MO
def yO(P:Program)(c:Ctx)(t:oZ):MO->Prop
 |.gone n=>t.live=false∧t.gen=n
 |.arr n e es=>t.gen=n∧t.len=es.length∧(P.info? e).map (·.size)=some t.size∧((t.live=false∧es=[])∨(t.live=true∧∃cur,c.w.heap[t.g]?=some (.cells cur e (0,0))∧cur.size=t.cap*t.size∧es.length<=t.cap∧t.cap<=maxLen∧
   (∀x∈es,x.cells.length=t.size)∧∀(i:Nat) (x:GV) (j:Nat) (g:GV) (v:Value),es[i]?=some x->x.cells[j]?=some g->cur[i*t.size+j]?=some v->RG c.w c.jq g v∧v.oneCell'=true))
 |.map es=>t.gen=0∧t.live=true∧∃(n5:Array MapEntry) (o8:List (GV×GV)),es.Perm o8∧c.w.heap[t.g]?=some (.map n5 n5.size)∧n5.size=o8.length∧
   ∀(i:Nat) (k v:GV) (n:MapEntry),o8[i]?=some (k,v)->n5[i]?=some n->RG c.w c.jq k n.key∧RG c.w c.jq v n.val∧n.born=i
 |.iter n s pos=>t.gen=n∧t.live=true∧c.w.heap[t.g]?=some (.stringIter s pos)
structure Rel(P:Program)(c:Ctx)(H:PH):Prop where
 len:c.σ.length=H.bx.length
 bx:∀(i b:Nat) (cs:List PV),c.σ[i]?=some b->H.bx[i]?=some cs->∃(jJ:Array Value) (T:TypeId),c.w.heap[b]?=some (.cells jJ T (0,0))∧jJ.size=cs.length∧
  ∀(j:Nat) (p:PV) (v:Value),cs[j]?=some p->jJ[j]?=some v->RV c p v∧v.oneCell'=true
 tk:c.τ.map (λt=>(t.e,t.hw))=H.tk
 tb:∀t∈c.τ,t.live=true->∃cur,c.w.heap[t.g]?=some (.cells cur t.e (0,0))∧cur.size=t.cap*t.size∧t.hw<=t.cap∧t.cap<=maxLen∧(P.info? t.e).map (·.size)=some t.size
 nd:c.σ.Nodup
 td:∀(i j:Nat) (t t':Tok),c.τ[i]?=some t->c.τ[j]?=some t'->t.live=true->t'.live=true->t.g=t'.g->i=j
 st:∀t∈c.τ,t.live=true->t.g∉c.σ
 nu:∀b p,c.hid b p->b<c.w.heap.size
 tG:∀t∈c.τ,t.live=true->∀p,¬c.hid t.g p
 pB:∀b∈c.σ,b<c.w.heap.size
 dead:∀t∈c.τ,t.live=false->t.hw=0∧(P.info? t.e).map (·.size)=some t.size
 nq:c.μ.length=H.mu.length
 mu:∀(i:Nat) (t:oZ) (o:MO),c.μ[i]?=some t->H.mu[i]?=some o->yO P c t o
 mlt:∀t∈c.μ,t.live=true->t.g<c.w.heap.size
 md:∀(i j:Nat) (t t':oZ),c.μ[i]?=some t->c.μ[j]?=some t'->t.live=true->t'.live=true->t.g=t'.g->i=j
 ms:∀t∈c.μ,t.live=true->t.g∉c.σ
 mt:∀t∈c.μ,t.live=true->∀t'∈c.τ,t'.live=true->t.g≠t'.g
 sW:∀t∈c.μ,t.live=true->∀p,¬c.hid t.g p
 gl:GL c
variable{P:Program}
def yO.kA(hE:CV c c'){t:oZ}{o:MO}(hb:t.live=true->c'.w.heap[t.g]?=c.w.heap[t.g]?)(h:yO P c t o):yO P c' t o:=by
 cases o with
 |gone n=>exact h
 |arr n e es=>
  obtain⟨h1,h2,h3,h4⟩:=h;refine⟨h1,h2,h3,?_⟩;rcases h4 with h4|⟨lv,cur,a1,a2,a3,a4,a5,a6⟩
  exact .inl h4;exact .inr ⟨lv,cur,(hb lv).trans a1,a2,a3,a4,a5,λi x j g v hx hg hv=>⟨(a6 i x j g v hx hg hv).1.mono hE.kF,(a6 i x j g v hx hg hv).2⟩⟩
 |map es=>
  obtain⟨h1,lv,n5,o8,hp,a1,a2,a3⟩:=h;exact⟨h1,lv,n5,o8,hp,(hb lv).trans a1,a2,λi k v n hk hn=>⟨(a3 i k v n hk hn).1.mono hE.kF,(a3 i k v n hk hn).2.1.mono hE.kF,(a3 i k v n hk hn).2.2⟩⟩
 |iter n s pos=>exact⟨h.1,h.2.1,(hb h.2.1).trans h.2.2⟩
def yO.mono(hE:kI c c'){t:oZ}{o:MO}(hb:t.live=true->c'.w.heap[t.g]?=c.w.heap[t.g]?)(h:yO P c t o):yO P c' t o:=h.kA hE.kA hb
def Xw(c:Ctx)(ps:List PV)(vs:Array Value):Prop:=ps.length=vs.size∧∀(i:Nat) (p:PV) (v:Value),ps[i]?=some p->vs[i]?=some v->RV c p v
def PC(P:Program)(f:FuncId)(args:List PV)(H:PH)(v:PV)(H':PH):Prop:=
 ∀(c:Ctx) (vs:Array Value),Rel P c H->Xw c args vs->
  Calls P f vs c.w λe w'=>∃rv c',e=.returned rv∧c'.w=w'∧Rel P c' H'∧kI c c'∧RV c' v rv
def Ds(P:Program)(f:FuncId)(args:List PV)(H:PH)(R:PV->PH->Prop):Prop:=
 ∀(c:Ctx) (vs:Array Value),Rel P c H->Xw c args vs->
  Calls P f vs c.w λe w'=>∃v H' rv c',R v H'∧e=.returned rv∧c'.w=w'∧Rel P c' H'∧kI c c'∧RV c' v rv
variable{f:FuncId}{args:List PV}{H H':PH}
def PC.x{v:PV}(h:PC P f args H v H'):Ds P f args H λa b=>a=v∧b=H':=
 λc vs hr ha=>(h c vs hr ha).mono λ_ _ ⟨rv,c',h1,h2,h3,h4,h5⟩=>⟨v,H',rv,c',⟨rfl,rfl⟩,h1,h2,h3,h4,h5⟩
def Ds.one{v:PV}{R:PV->PH->Prop}(h:Ds P f args H R)(hR:∀a b,R a b->a=v∧b=H'):PC P f args H v H':=
 λc vs hr ha=>(h c vs hr ha).mono λ_ _ ⟨a,b,rv,c',lr,h1,h2,h3,h4,h5⟩=>by obtain⟨e1,e2⟩:=hR a b lr;subst e1;subst e2;exact⟨rv,c',h1,h2,h3,h4,h5⟩
abbrev Env:=Nat->PV
def mB:Value->GV
 |.int k n=>.int k n|.bool b=>.bool b|.string s=>.str s|v=>.raw v
def tu:Value->PV
 |.pointer none=>.jx|.slice none 0 0=>.iM|v=>.g (mB v)
def Mf:Value->PV
 |.agg cs=>if cs.toList.all (·.oneCell')then .agg (cs.toList.map tu)else .g (.raw (.agg cs))|v=>tu v
def o9(w:World)(S:Nat->Nat->Prop)(v:Value):RG w S (mB v) v:=by unfold mB;split;exact .int _ _;exact .bool _;exact .str _;exact .raw _
def Ar(c:Ctx)(v:Value):RV c (tu v) v:=by unfold tu;split;exact .jx;exact .iM;exact .g _ _ (o9 _ _ _)
def HQ(c:Ctx)(v:Value):RV c (Mf v) v:=by unfold Mf;split;rename_i cs;split;rename_i h;refine .agg _ _ aa (λv hv=>cY.1 h v hv) ?_;intro i g u hg hu;simp only[bj]at hg;rw[fC]at hg;rw[hu]at hg;simp at hg;subst hg;exact Ar _ _;exact .g _ _ (.raw _);exact Ar _ _
def Env.eval(env:Env):Operand->PV
 |.tmp t=>env t|.const v=>Mf v|.global g=>.mV g 0|.func f=>.g (.raw (.func (.func f) #[] #[]))
def qE(env:Env)(d:Option Tmp)(v:PV):Env:=
 match d with
 |some d=>λt=>bif Nat.beq t d then v else env t
 |none=>env
structure ER(c:Ctx)(N:Nat)(env:Env)(a:Act):Prop where
 defers:a.defers=c.hid.d
 size:a.tmps.size=N
 slot:∀t,RV c (env t) (a.tmps.getD t undef)
def ER.eval{c:Ctx}{N:Nat}{env:Env}{a:Act}(h:ER c N env a)(x:Operand):RV c (env.eval x) (a.eval x):=by
 cases x with
 |tmp t=>exact h.slot t|const v=>exact HQ c v|global g=>exact .mV g 0|func f=>exact .g _ _ (.raw _)
def ER.mono{c c':Ctx}{N:Nat}{env:Env}{a:Act}(hE:kI c c')(h:ER c N env a):ER c' N env a:=
 ⟨h.defers.trans (aT Hid.d hE.hid).symm,h.size,λt=>(h.slot t).mono hE⟩
def ER.put{c:Ctx}{N:Nat}{env:Env}{a:Act}(h:ER c N env a){d:Option Tmp}{p:PV}{v:Value}(hd:∀t,d=some t->t<N)(hv:RV c p v):
  ER c N (qE env d p) (a.put d v):=by
 cases d with
 |none=>exact h
 |some d=>
  refine⟨h.defers,by simpa[Act.put]using h.size,λt=>?_⟩;have iI:d<a.tmps.size:=by rw[h.size];exact hd d rfl
  simp only[qE,Act.put];by_cases e:t=d;subst e;rw[fk,cr];simpa[bF,fE,iI]using hv;have e':¬d=t:=λx=>e x.symm;have e2:Nat.beq t d=false:=eD.2 λh=>e (bl h);rw[e2,de];simpa[bF,fE,e']using h.slot t
def kU(P:Program)(ρ:Operand->Value)(o:Oper)(w:World)(R:Value->World->Prop):Prop:=
 match(execOp ρ o).run P w with
 |.ok (.value rv) w'=>R rv w'|.ok .skip w'=>R undef w'
 |.ok (.enter f args) w'=>Calls P f args w' λe w''=>∃rv,e=.returned rv∧R rv w''
 |_=>False
def PO(P:Program)(o:Oper)(ρ:Operand->PV)(H:PH)(v:PV)(H':PH):Prop:=
 ∀(c:Ctx) (ρr:Operand->Value),Rel P c H->(∀x∈o.op.operands.toList,RV c (ρ x) (ρr x))->
  kU P ρr o c.w λrv w'=>∃c',c'.w=w'∧Rel P c' H'∧kI c c'∧RV c' v rv
def kU.wp{P:Program}{o:Oper}{a:Act}{w:World}{R:Value->World->Prop}{K:Act->World->Prop}{Q:Exit->Act->World->Prop}
  (h:kU P a.eval o w R) (hK:∀v w',R v w'->K (a.put o.dst v) w'):o.wp P a w K Q:=by
 unfold kU at h;unfold Oper.wp;generalize(execOp a.eval o).run P w=r at *
 cases r with
 |ok n w'=>
  cases n<;>simp only[Oper.upon]at h⊢;case value v=>exact hK _ _ h
  case skip=>exact hK _ _ h
  case enter f args=>exact h.mono λe w'' ⟨rv,he,hR⟩=>by subst he;exact hK _ _ hR
  all_goals exact h.elim
 |halt x w'=>exact h.elim
def gd(all:Array Oper)(o:Oper)(env:Env):Option Bool:=
 match o.guard with
 |none=>some true
 |some (j,want)=>
  match(all.toList[j]?).bind (·.dst)with
  |some d=>match env d with
   |.g (.bool b)=>some (b==want)|.g (.raw (.tuple _))=>some false|_=>none
  |none=>none
variable{o:Oper}{env:Env}{N:Nat}{a:Act}
def Ra{all:Array Oper}(h:ER c N env a){b:Bool}(hg:gd all o env=some b):Region.wanted o (yielded all a.tmps)=b:=by
 unfold gd at hg;unfold Region.wanted;split at hg;rename_i e;rw[e];simpa using hg
 ·rename_i j want e;rw[e];simp only[yielded];split at hg
  ·rename_i d hd;rw[fC]at hd;rw[hd];have hs:=h.slot d;simp only[Option.bind_some];split at hg
   ·rename_i b' he;rw[he]at hs;cases hs with
    |g x v hr=>
     generalize hv:a.tmps.getD d undef=v at hr;cases hr;rw[bF]at hv;cases hx:a.tmps[d]? with
     |none=>rw[hx]at hv;simp[undef]at hv|some u=>rw[hx]at hv;simp at hv;subst hv;simpa using hg
   ·rename_i vs he;rw[he]at hs;cases hs with
    |g x v hr=>
     generalize hv:a.tmps.getD d undef=v at hr;cases hr;rw[bF]at hv;cases hx:a.tmps[d]? with
     |none=>simpa using hg|some u=>rw[hx]at hv;simp at hv;subst hv;simpa using hg
   cases hg
  cases hg
def mW:PV:=.g (.raw undef)
def jQ(P:Program)(N:Nat)(all:Array Oper)(K:Env->PH->Prop):List Oper->Env->PH->Prop
 |[],env,H=>K env H
 |o::rest,env,H=>(∀t,o.dst=some t->t<N)∧
  match gd all o env with
  |some true=>∃v H',PO P o env.eval H v H'∧jQ P N all K rest (qE env o.dst v) H'|some false=>jQ P N all K rest (qE env o.dst mW) H|none=>False
def QR(P:Program)(c:Ctx)(N:Nat)(Q:Exit->Env->PH->Prop):Exit->Act->World->Prop:=
 λe a' w'=>∃c' env' H',Q e env' H'∧c'.w=w'∧Rel P c' H'∧kI c c'∧ER c' N env' a'
variable{Q Q':Exit->Env->PH->Prop}{e:Exit}
def QR.mono(hE:kI c c')(hq:∀e env H,Q e env H->Q' e env H)(h:QR P c' N Q e a w):QR P c N Q' e a w:=
 let⟨c1,env,H,q,hw,hr,rX,her⟩:=h
 ⟨c1,env,H,hq _ _ _ q,hw,hr,hE.trans rX,her⟩
def PW(P:Program)(N:Nat)(code:Code)(Q:Exit->Env->PH->Prop)(env:Env)(H:PH):Prop:=
 ∀(c:Ctx) (a:Act),Rel P c H->ER c N env a->code.wp P (QR P c N Q) a c.w
section
variable{P:Program}{N:Nat}{Q:Exit->Env->PH->Prop}{env:Env}{H:PH}
def mX{all:Array Oper}{K:Env->PH->Prop}:∀(l:List Oper) (env:Env) (H:PH),jQ P N all K l env H->∀(c:Ctx) (a:Act),Rel P c H->ER c N env a->
  wpList P all (QR P c N λe env H=>e=.normal∧K env H) l a c.w
 |[],env,H,h,c,a,hr,he=>⟨c,env,H,⟨rfl,h⟩,rfl,hr,kI.refl c,he⟩
 |o::rest,env,H,h,c,a,hr,he=>by obtain⟨hd,h⟩:=h;unfold wpList;split at h;rename_i hg;rw[Ra he hg,aW rfl];obtain⟨v,H',Ek,I0⟩:=h;refine .inl ((Ek c a.eval hr (λx _=>he.eval x)).wp ?_);rintro rv w' ⟨c',rfl,kP,hE,hv⟩;have:=mX rest _ _ I0 c' (a.put o.dst rv) kP ((he.mono hE).put hd hv);refine rN (λe a w h=>QR.mono hE (λ_ _ _ h=>h) h) this;rename_i hg;rw[Ra he hg,aV aa];exact mX rest _ _ h c (a.put o.dst undef) hr (he.put hd (.g _ _ (.raw _)));exact h.elim
where
 rN {all:Array Oper} {Q Q':Exit->Act->World->Prop} (hq:∀e a w,Q e a w->Q' e a w):∀{l:List Oper} {a:Act} {w:World},wpList P all Q l a w->wpList P all Q' l a w
  |[],_,_,h=>hq _ _ _ h
  |o::rest,a,w,h=>by
   unfold wpList at *
   split
   ·rename_i hw;rw[aW hw]at h;refine h.imp ?_ ?_
    ·intro h;have h1:=Oper.wp_mono (Q:=Q) (λa w h=>rN hq (l:=rest) (a:=a) (w:=w) h) h;unfold Oper.wp at *
     generalize(execOp a.eval o).run P w=r at *
     cases r with
     |ok n w'=>
      cases n<;>simp only[Oper.upon]at h1⊢ <;>
       first
        |exact h1
        |exact Calls.mono h1 (λe w'' he=>by cases e;exact he;exact hq _ _ _ he;obtain⟨a,w,h⟩:=he;exact⟨a,w,hq _ _ _ h⟩)
     |halt x w'=>cases x<;>simp only[Oper.upon]at h1⊢ <;>first|exact h1|exact hq _ _ _ h1
    rintro⟨h1,a,w,h2⟩;exact⟨h1,a,w,hq _ _ _ h2⟩
   rename_i hw;rw[aV hw]at h;exact rN hq h
variable{code:Code}
def Mg(h:PW P N code Q env H)(hq:∀e env H,Q e env H->Q' e env H):PW P N code Q' env H:=
 λc a hr he=>wp_mono (h c a hr he) λ_ _ _ h=>QR.mono (kI.refl c) hq h
def Next(K:Env->PH->Prop)(Q:Exit->Env->PH->Prop):Exit->Env->PH->Prop
 |.normal,env,H=>K env H|e,env,H=>Q e env H
def uw{x y:Code}(h:PW P N x (Next (PW P N y Q) Q) env H):PW P N (.seq x y) Q env H:=by
 intro c a hr he;refine wp_seq (wp_mono (h c a hr he) ?_);rintro e a' w' ⟨c',env',H',q,rfl,kP,hE,mw⟩;cases e<;>simp only[Next]at q<;>simp only[Exit.then];case normal=>exact wp_mono (q c' a' kP mw) λ_ _ _ h=>QR.mono hE (λ_ _ _ h=>h) h
 all_goals exact⟨c',env',H',q,rfl,kP,hE,mw⟩
def SY(h:Q .normal env H):PW P N .skip Q env H:=λc _ hr he=>wp_skip ⟨c,env,H,h,rfl,hr,kI.refl c,he⟩
def Xx(h:Q .ret env H):PW P N .ret Q env H:=λc _ hr he=>wp_ret ⟨c,env,H,h,rfl,hr,kI.refl c,he⟩
def S0{id:Nat}(h:Q (.exit id) env H):PW P N (.exit id) Q env H:=λc _ hr he=>wp_exit ⟨c,env,H,h,rfl,hr,kI.refl c,he⟩
def F9{x:Operand}{t e:Code}{b:Bool}(hx:env.eval x=.g (.bool b))(h1:b=true->PW P N t Q env H)(h2:b=false->PW P N e Q env H):PW P N (.cond x t e) Q env H:=by
 intro c a hr he;have hv:=he.eval x;rw[hx]at hv;cases hv with
 |g _ v hg=>
  generalize hv:a.eval x=v at hg;cases hg;exact wp_cond_split hv (λe=>h1 e c a hr he) (λe=>h2 e c a hr he)
def Blk(id:Nat)(Q:Exit->Env->PH->Prop):Exit->Env->PH->Prop
 |.exit k7,env,H=>bif Nat.beq k7 id then Q .normal env H else Q (.exit k7) env H|e,env,H=>Q e env H
def Oi{id:Nat}{x:Code}(h:PW P N x (Blk id Q) env H):PW P N (.block id x) Q env H:=by
 intro c a hr he;refine wp_block (wp_mono (h c a hr he) ?_);rintro e a' w' ⟨c',env',H',q,rfl,kP,hE,mw⟩;cases e<;>simp only[Blk]at q<;>simp only[Exit.inBlock];case exit k7=>
  by_cases e:k7=id
  ·subst e;rw[fk,cr]at q;rw[aW rfl];exact⟨c',env',H',q,rfl,kP,hE,mw⟩
  ·rw[eD.2 λh=>e (bl h),de]at q;rw[aV e];exact⟨c',env',H',q,rfl,kP,hE,mw⟩
 all_goals exact⟨c',env',H',q,rfl,kP,hE,mw⟩
def JD{id:Nat}{l:List Oper}(h:jQ P N l.toArray (λenv H=>Q .normal env H) l env H):PW P N (.region id l.toArray false) Q env H:=by intro c a hr he;refine wp_region_lit ?_;refine mX.rN ?_ (mX l env H h c a hr he);rintro e a' w' ⟨c',env',H',⟨rfl,q⟩,hw,kP,hE,mw⟩;exact⟨c',env',H',q,hw,kP,hE,mw⟩
def qX(env env':Env):Prop:= ∀t (c:Ctx) (v:Value),RV c (env t) v->RV c (env' t) v
def kW(P:Program)(H H':PH):Prop:= ∀c:Ctx,Rel P c H->Rel P c H'
variable{env':Env}
def qX.er(h:qX env env')(he:ER c N env a):ER c N env' a:=⟨he.defers,he.size,λt=>h t c _ (he.slot t)⟩
def ja(h1:qX env env')(h2:kW P H H')(h:PW P N code Q env' H'):PW P N code Q env H:=
 λc a hr he=>h c a (h2 c hr) (h1.er he)
def jf{S:Type}{body:Code}(E:S->Env)(F:S->PH)(Inv:S->Prop)(μ:S->Nat)(s0:S)(hi:Inv s0)(h1:qX env (E s0))(h2:kW P H (F s0))
  (round:∀s,Inv s->PW P N body (Next (λenv' H'=>∃s',Inv s'∧μ s'<μ s∧qX env' (E s')∧kW P H' (F s')) Q) (E s) (F s)):PW P N (.loop body) Q env H:=by
 intro c a hr he;refine wp_loop_ghost (λn a w=>∃s c',Inv s∧μ s=n∧c'.w=w∧Rel P c' (F s)∧kI c c'∧ER c' N (E s) a) (μ s0) ⟨s0,c,hi,rfl,rfl,h2 c hr,kI.refl c,h1.er he⟩ ?_;rintro n a w ⟨s,c1,aeN,rfl,rfl,nV,qT,he1⟩;refine wp_mono (round s aeN c1 a nV he1) ?_;rintro e a' w' ⟨c2,Ga,H2,q,rfl,nh,JE,MU⟩;cases e<;>simp only[Next]at q<;>simp only[Exit.then];case normal=>
  obtain⟨s',lk,iI,e1,e2⟩:=q;exact⟨μ s',iI,s',c2,lk,rfl,rfl,e2 c2 nh,qT.trans JE,e1.er MU⟩
 all_goals exact⟨c2,Ga,H2,q,rfl,nh,qT.trans JE,MU⟩
end
def qY(P:Program)(t:TypeId):Option Bool:=(P.underlying t).map fun|.struct _|.array _ _=>true|_=>false
def kZ(P:Program)(t:TypeId):Option Nat:=(P.info? t).map (·.size)
def vE(P:Program)(s:TypeId)(k:Nat):Option (Nat×TypeId):=
 match P.underlying s with
 |some (.struct fs)=>match fs[k]? with
  |some f=>match kZ P f.type with
   |some (_+1)=>some (f.offset,f.type)|_=>none
  |none=>none
 |_=>none
def my(P:Program)(t:TypeId):Option Value:=(P.info? t).bind (·.zero)
section
variable{P:Program}{w:World}
def As{t:TypeId}{b:Bool}(h:qY P t=some b):(isAgg t).run P w=.ok b w:=by
 unfold qY at h;cases hu:P.underlying t with
 |none=>rw[hu]at h;cases h
 |some d=>
  rw[hu]at h;simp only[eS,cg]at h;simp only[isAgg,Sem.run_bind,run_underlying hu,Result.andThen_ok];split at h<;>subst h<;>simp_all
variable{n:Nat}
def run_sizeOf{t:TypeId}(h:kZ P t=some n):(sizeOf t).run P w=.ok n w:=by
 unfold kZ at h;cases hu:P.info? t with
 |none=>rw[hu]at h;cases h
 |some d=>
  rw[hu]at h;simp only[eS,cg]at h;simp[sizeOf,typeInfo,hu,h]
variable{z:Value}
def qL{t:TypeId}(h:my P t=some z):(zeroValue t).run P w=.ok z w:=by
 unfold my at h;cases hu:P.info? t with
 |none=>rw[hu]at h;cases h
 |some d=>
  rw[hu]at h;simp only[Option.bind_some]at h;simp[zeroValue,typeInfo,hu,h]
variable{off:Nat}
def Ak{s:TypeId}{k:Nat}{ft:TypeId}(h:vE P s k=some (off,ft))(a:Addr):
  (Instr.fieldAt s (.pointer (some a)) k).run P w=.ok (.pointer (some (a.add off))) w:=by
 unfold vE at h;split at h;rename_i fs hu;split at h;rename_i f hf;split at h;rename_i n hn;simp only[cg,eL]at h;simp[Instr.fieldAt,run_underlying hu,hf,Instr.sureAddr,fieldPlace,run_sizeOf hn,h.1];cases h;cases h;cases h
end
def RG.abO{S:Nat->Nat->Prop}{g:GV}(h:RG w S g v)(h1:∀cs,g≠ .agg cs)(h2:∀v,g≠ .raw v):v.oneCell'=true:=by cases h<;>first|rfl|exact absurd rfl (h1 _)|exact absurd rfl (h2 _)
def kc:PV->Option (List PV)
 |.g (.agg cs)=>some (cs.map .g)|.g (.raw v)=>if v.oneCell' then some [.g (.raw v)]else none|.agg cs=>some cs
 |.tuple _|.any=>none
 |p=>some [p]
def cells_one(h:v.oneCell'=true):v.cells= #[v]:=by cases v<;>first|rfl|cases h
variable{cs:List PV}
def pN(h:RV c p v)(hc:kc p=some cs):
  cs.length=v.cells.size∧∀(j:Nat) (q:PV) (u:Value),cs[j]?=some q->v.cells[j]?=some u->RV c q u∧u.oneCell'=true:=by
 have one:∀{p:PV} {v:Value},RV c p v->v.oneCell'=true->([p]:List PV).length=v.cells.size∧
   ∀(j:Nat) (q:PV) (u:Value),([p]:List PV)[j]?=some q->v.cells[j]?=some u->RV c q u∧u.oneCell'=true:=by
  intro p v h h1;rw[cells_one h1];refine⟨rfl,λj q u hq hu=>?_⟩;cases j with
  |zero=>simp at hq hu;subst hq;subst hu;exact⟨h,h1⟩|succ j=>simp at hq
 cases h with
 |g x v hg=>
  cases hg with
  |agg gs vs hl h1 hh=>
   simp only[kc,cg]at hc;subst hc;refine⟨by simpa[Value.cells]using hl,λj q u hq hu=>?_⟩;simp only[bj,bh]at hq;obtain⟨x,hx,rfl⟩:=hq;simp only[Value.cells]at hu;exact⟨.g _ _ (hh j x u hx hu),h1 u (by rw[gK];exact fP hu)⟩
  |raw v=>
   simp only[kc]at hc;split at hc;rename_i h1;simp at hc;subst hc;exact one (.g _ _ (.raw _)) h1;cases hc
  |int k n=>simp[kc]at hc;subst hc;exact one (.g _ _ (.int _ _)) rfl|bool b=>simp[kc]at hc;subst hc;exact one (.g _ _ (.bool _)) rfl|str s=>simp[kc]at hc;subst hc;exact one (.g _ _ (.str _)) rfl|nil=>simp[kc]at hc;subst hc;exact one (.g _ _ .nil) rfl|sl es a cap size f ha hcc hm hs hf hh=>simp[kc]at hc;subst hc;exact one (.g _ _ (.sl es a cap size f ha hcc hm hs hf hh)) rfl
 |own es id v t hg ht hs hl hv=>
  simp[kc]at hc;subst hc;exact one (.own es id v t hg ht hs hl hv) (hg.abO aa aa)
 |ptr b off kh hb=>simp[kc]at hc;subst hc;exact one (.ptr _ _ _ hb) rfl|jx=>simp[kc]at hc;subst hc;exact one .jx rfl|iM=>simp[kc]at hc;subst hc;exact one .iM rfl|pat cs a f ha hf hh=>simp[kc]at hc;subst hc;exact one (.pat cs a f ha hf hh) rfl|mU fn ps qs us vs hp hq h1 h2=>simp[kc]at hc;subst hc;exact one (.mU fn ps qs us vs hp hq h1 h2) rfl
 |agg gs vs hl h1 hh=>
  simp[kc]at hc;subst hc;refine⟨hl,λj q u hq hu=>?_⟩;simp only[Value.cells]at hu;exact⟨hh j q u hq hu,h1 u (by rw[gK];exact fP hu)⟩
 |tuple=>cases hc|lit es a h=>simp[kc]at hc;subst hc;exact one (.lit es a h) rfl|lK id n v t ht hn h1 hv=>simp[kc]at hc;subst hc;exact one (.lK id n v t ht hn h1 hv) h1|kE id n i off v t ht hn h1 hv=>simp[kc]at hc;subst hc;exact one (.kE id n i off v t ht hn h1 hv) rfl|mp id v t ht h1 hv=>simp[kc]at hc;subst hc;exact one (.mp id v t ht h1 hv) h1|mV g off=>simp[kc]at hc;subst hc;exact one (.mV g off) rfl|kv g off v h hs h1=>simp[kc]at hc;subst hc;exact one (.kv g off v h hs h1) h1|rz t p v h=>simp[kc]at hc;subst hc;exact one (.rz t p v h) rfl|vw id n off len cap g t ht hn h1 h2 hv=>simp[kc]at hc;subst hc;exact one (.vw id n off len cap g t ht hn h1 h2 hv) rfl|qm id n off len g xw cap t ht hn h1 h2 hv=>simp[kc]at hc;subst hc;exact one (.qm id n off len g xw cap t ht hn h1 h2 hv) rfl|any=>cases hc
def yz:List PV->Option (List GV)
 |[]=>some []
 |p::r=>
  match p with
  |.g x=>(yz r).map (x:: ·)|.iM=>(yz r).map (.sl []:: ·)|.own es _=>(yz r).map (.sl es:: ·)|.lit es=>(yz r).map (.sl es:: ·)|_=>none
def pack:PV->PV
 |.own es _=>.g (.sl es)|.lit es=>.g (.sl es)|.iM=>.g (.sl [])
 |.agg cs=>match yz cs with|some gs=>.g (.agg gs)|none=>.agg cs
 |p=>p
def qM{c:Ctx}:∀{cs:List PV} {gs:List GV},yz cs=some gs->gs.length=cs.length∧∀(i:Nat) (g:GV) (p:PV),gs[i]?=some g->cs[i]?=some p->∀v,RV c p v->RG c.w c.jq g v
 |[],gs,h=>by simp[yz]at h;subst h;simp
 |p::r,gs,h=>by
  have key:∀(x:GV),(∀v,RV c p v->RG c.w c.jq x v)->(yz r).map (x:: ·)=some gs->gs.length=(p::r).length∧∀(i:Nat) (g:GV) (q:PV),gs[i]?=some g->(p::r)[i]?=some q->∀v,RV c q v->RG c.w c.jq g v:=by
   intro x hx he;simp only[bh]at he;obtain⟨gs',hr,rfl⟩:=he;obtain⟨h1,h2⟩:=qM (c:=c) hr;refine⟨by simpa using h1,λi g q hg hq v hv=>?_⟩;cases i with
   |zero=>simp at hg hq;subst hg;subst hq;exact hx v hv|succ i=>exact h2 i g q (by simpa using hg) (by simpa using hq) v hv
  unfold yz at h;split at h;exact key _ (λv hv=>by cases hv;assumption) h;exact key _ (λv hv=>by cases hv;exact .nil) h;exact key _ (λv hv=>by cases hv;assumption) h;exact key _ (λv hv=>by cases hv;assumption) h;cases h
def ye(h:RV c p v):RV c (pack p) v:=by
 unfold pack;split;cases h with|own es id v t hg=>exact .g _ _ hg
 cases h with|lit es a hg=>exact .g _ _ hg
 cases h;exact .g _ _ .nil
 ·rename_i cs;split
  ·rename_i gs MV;cases h with
   |agg _ vs hl h1 hh=>
    obtain⟨e1,e2⟩:=qM (c:=c) MV;refine .g _ _ (.agg _ _ (e1.trans hl) h1 λi g u hg hu=>?_);have hi:i<cs.length:=(by rw[<-e1];exact(aR.1 hg).1);exact e2 i g _ hg (aS hi) u (hh i _ u (aS hi) hu)
  exact h
 exact h
section
variable{P:Program}{o:Oper}{ρ:Operand->PV}{H:PH}
def jr{v:PV}(h:∀(c:Ctx) (ρr:Operand->Value),Rel P c H->(∀x∈o.op.operands.toList,RV c (ρ x) (ρr x))->∃rv,(execOp ρr o).run P c.w=.ok (.value rv) c.w∧RV c v rv):PO P o ρ H v H:=by intro c ρr hr hx;obtain⟨rv,h1,h2⟩:=h c ρr hr hx;unfold kU;rw[h1];exact⟨c,rfl,hr,kI.refl c,h2⟩
def abP{x:Operand}(ho:o.op=.move x):PO P o ρ H (ρ x) H:=
 jr λc ρr hr hx=>⟨ρr x,by simp[execOp,ho],hx x (by simp[ho,Op.operands])⟩
def UJ{x:Operand}(ho:o.op=.assign x):PO P o ρ H (ρ x) H:=
 jr λc ρr hr hx=>⟨ρr x,by simp[execOp,ho],hx x (by simp[ho,Op.operands])⟩
def yf{b:Bool}(h:RV c (.g (.bool b)) v):v=.bool b:=by cases h with|g x v hg=>cases hg;rfl
variable{k:IntKind}
def k6{n:Int}(h:RV c (.g (.int k n)) v):v=.int k n:=by cases h with|g x v hg=>cases hg;rfl
variable{s:ByteArray}
def za(h:RV c (.g (.str s)) v):v=.string s:=by cases h with|g x v hg=>cases hg;rfl
def Bc{u:Value}(h:RV c (.g (.raw u)) v):v=u:=by cases h with|g x v hg=>cases hg;rfl
variable{y:Operand}
def S2{x z:Operand}{b:Bool}(ho:o.op=.pick x y z)(hb:ρ x=.g (.bool b)):PO P o ρ H (if b then ρ y else ρ z) H:=
 jr λc ρr hr hx=>by have h1:=hx x (by simp[ho,Op.operands]);rw[hb]at h1;refine⟨if b then ρr y else ρr z,by simp[execOp,ho,yf h1,asBool],?_⟩;split;exact hx y (by simp[ho,Op.operands]);exact hx z (by simp[ho,Op.operands])
variable{b off d:Nat}
def Fp{s:TypeId}{x:Operand}{k:Nat}{ft:TypeId}(ho:o.op=.fieldAddr s x k)(hf:vE P s k=some (d,ft))(hp:ρ x=.ptr b off):PO P o ρ H (.ptr b (off+d)) H:=
 jr λc ρr hr hx=>by
  have h1:=hx x (by simp[ho,Op.operands]);rw[hp]at h1;generalize hv:ρr x=v at h1;cases h1 with
  |ptr _ _ kh hb=>
   refine⟨.pointer (some ⟨kh,off+d,none⟩),?_,.ptr _ _ _ hb⟩;simp[execOp,ho,hv,Ak hf,add_eq]
variable{n i:Nat}
def Eh{s:TypeId}{x:Operand}{k id:Nat}{ft:TypeId}(ho:o.op=.fieldAddr s x k)(hf:vE P s k=some (d,ft))(hp:ρ x=.kE id n i off):PO P o ρ H (.kE id n i (off+d)) H:=
 jr λc ρr hr hx=>by
  have h1:=hx x (by simp[ho,Op.operands]);rw[hp]at h1;generalize hv:ρr x=v at h1;cases h1 with
  |kE _ _ _ _ a t ht hn hs pr=>
   refine⟨.pointer (some (a.add d)),by simp[execOp,ho,hv,Ak hf],.kE id n i (off+d) _ t ht hn (oT a d hs) (λe=>?_)⟩;rw[add_eq _ _ hs,pr e];simp[ep]
def Fq{s:TypeId}{x:Operand}{k:Nat}{ft:TypeId}{cs:List GV}(ho:o.op=.fieldAddr s x k)(hf:vE P s k=some (d,ft))(hp:ρ x=.pat cs):PO P o ρ H (.pat (cs.drop d)) H:=
 jr λc ρr hr hx=>by
  have h1:=hx x (by simp[ho,Op.operands]);rw[hp]at h1;generalize hv:ρr x=v at h1;cases h1 with
  |pat _ a f ha hf' hh=>
   refine⟨.pointer (some (a.add d)),by simp[execOp,ho,hv,Ak hf],.pat _ _ (λj=>f (d+j)) (oT a d ha) (λj hj=>?_) (λj g hg=>hh (d+j) g (by simpa using hg))⟩;have h2:=hf' (d+j) (by simp at hj;omega);rw[add_eq a _ ha]at h2;rw[add_eq _ _ (oT a d ha),sV,yd,ep];exact h2
variable{kh:Nat}
def tH(hr:Rel P c H)(hb:c.σ[b]?=some kh)(hc:H.bx[b]?=some cs):
  ∃jJ:Array Value,jJ.size=cs.length∧(∀j,j<jJ.size->c.w.cell? ⟨kh,j,none⟩=some (jJ.getD j undef))∧∀(j:Nat) (p:PV),cs[j]?=some p->RV c p (jJ.getD j undef)∧(jJ.getD j undef).oneCell'=true:=by
 obtain⟨jJ,T,h1,h2,h3⟩:=hr.bx b kh cs hb hc;refine⟨jJ,h2,λj hj=>?_,λj p hp=>?_⟩;simp[World.cell?,h1,bF,hj]
 ·have hj:j<jJ.size:=by rw[h2];exact(aR.1 hp).1
  have:=h3 j p jJ[j] hp (by simp[hj]);simpa[bF,hj]using this
def pt{t:TypeId}(h1:qY P t=some true)(h2:kZ P t=some n)(a:Addr)(f:Nat->Value)(hc:∀j,j<n->w.cell? (a.add j)=some (f j)):
  (loadVar t a).run P w=.ok (.agg (((List.range n).map f).toArray)) w:=by
 simp only[loadVar,Sem.run_bind,As h1,run_sizeOf h2,Result.andThen_ok,gF];rw[run_loadCells w a n f hc];simp
def px{t:TypeId}(h1:qY P t=some false)(a:Addr)(v:Value)(hc:w.cell? a=some v):(loadVar t a).run P w=.ok v w:=by simp[loadVar,As h1,hc]
def GP{t:TypeId}{x:Operand}{v:PV}(ho:o.op=.load t x)(h1:qY P t=some false)(hp:ρ x=.ptr b off)(hb:H.bx[b]?=some cs)(hv:cs[off]?=some v):PO P o ρ H v H:=
 jr λc ρr hr hx=>by
  have kf:=hx x (by simp[ho,Op.operands]);rw[hp]at kf;generalize El:ρr x=u at kf;cases kf with
  |ptr _ _ kh hblk=>
   obtain⟨jJ,e1,e2,e3⟩:=tH hr hblk hb;refine⟨_,?_,(e3 off v hv).1⟩;have:=e2 off (by rw[e1];exact(aR.1 hv).1);simp[execOp,ho,El,Instr.loadAt,Instr.sureAddr,px h1 _ _ this]
def GQ{t:TypeId}{x:Operand}(ho:o.op=.load t x)(h1:qY P t=some true)(h2:kZ P t=some n)(hp:ρ x=.ptr b off)(hb:H.bx[b]?=some cs)(hn:off+n<=cs.length):
  PO P o ρ H (.agg ((cs.drop off).take n)) H:=
 jr λc ρr hr hx=>by
  have kf:=hx x (by simp[ho,Op.operands]);rw[hp]at kf;generalize El:ρr x=u at kf;cases kf with
  |ptr _ _ kh hblk=>
   obtain⟨jJ,e1,e2,e3⟩:=tH hr hblk hb;have hl:=pt (w:=c.w) h1 h2 ⟨kh,off,none⟩ (λj=>jJ.getD (off+j) undef) (λj hj=>by rw[add_eq _ _ rfl];exact e2 (off+j) ab);refine⟨_,by simp only[execOp,ho,El,Instr.loadAt,Instr.sureAddr];simp[hl];rfl,?_⟩;refine .agg _ _ ad ?_ ?_;intro v hv;simp at hv;obtain⟨j,hj,rfl⟩:=hv;have:=(e3 (off+j) (cs[off+j]'(by omega)) aa).2;simpa[bF]using this;intro i p v hi hv;simp[bq]at hi hv;obtain⟨iI,hi⟩:=hi;obtain⟨i',h0,rfl⟩:=hv;obtain⟨h0,rfl⟩:=aR.1 h0;rw[eT];have:=(e3 (off+i) p hi).1;simpa[bF]using this
def GR{t:TypeId}{x:Operand}{cs:List GV}{g:GV}(ho:o.op=.load t x)(h1:qY P t=some false)(hp:ρ x=.pat cs)(hv:cs[0]?=some g):PO P o ρ H (.g g) H:=
 jr λc ρr hr hx=>by
  have kf:=hx x (by simp[ho,Op.operands]);rw[hp]at kf;generalize El:ρr x=u at kf;cases kf with
  |pat _ a f ha hf hh=>
   have h3:=(hf 0 (aR.1 hv).1).1;rw[show a.add 0=a from rfl]at h3;exact⟨f 0,by simp[execOp,ho,El,Instr.loadAt,Instr.sureAddr,px h1 _ _ h3],.g _ _ (hh 0 g hv)⟩
def GS{t:TypeId}{x:Operand}{cs:List GV}(ho:o.op=.load t x)(h1:qY P t=some true)(h2:kZ P t=some n)(hp:ρ x=.pat cs)(hn:n<=cs.length):
  PO P o ρ H (.g (.agg (cs.take n))) H:=
 jr λc ρr hr hx=>by
  have kf:=hx x (by simp[ho,Op.operands]);rw[hp]at kf;generalize El:ρr x=u at kf;cases kf with
  |pat _ a f ha hf hh=>
   have hl:=pt (w:=c.w) h1 h2 a f (λj hj=>(hf j ab).1);refine⟨_,by simp only[execOp,ho,El,Instr.loadAt,Instr.sureAddr];simp[hl];rfl,.g _ _ (.agg _ _ ad ?_ ?_)⟩;intro v hv;simp at hv;obtain⟨j,hj,rfl⟩:=hv;exact(hf j ab).2.2;intro i g v hi hv;simp[bq]at hi hv;obtain⟨i',h0,rfl⟩:=hv;obtain⟨h0,rfl⟩:=aR.1 h0;rw[eT];exact hh i g hi.2
end
structure Ext(w w':World):Prop where
 os:w'.os=w.os
 tape:w'.tape=w.tape∧(xv->w.drawn<=w'.drawn)
 output:w'.output=w.output
 size:w.heap.size<=w'.heap.size
 yP:∀b,b<w.heap.size->w'.heap[b]?=w.heap[b]?
def Ext.refl(w:World):Ext w w:=⟨rfl,⟨rfl,λ_=>aZ _⟩,rfl,aZ _,λ_ _=>rfl⟩
def Ext.drew(w:World):Ext w w.drew:=⟨rfl,⟨rfl,λ_=>fc _⟩,rfl,aZ _,λ_ _=>rfl⟩
def Ext.alloc(w:World)(o:Obj):Ext w (w.alloc o):=⟨rfl,⟨rfl,λ_=>aZ _⟩,rfl,by simp,λb hb=>by first|exact Go.heap_alloc_old w o b hb|exact Go.heap_alloc_old w o hb⟩
def Ext.trans{a b c:World}(h:Ext a b)(k:Ext b c):Ext a c:=
 ⟨k.os.trans h.os,⟨k.tape.1.trans h.tape.1,λg=>b8 (h.tape.2 g) (k.tape.2 g)⟩,k.output.trans h.output,b8 h.size k.size,λx hx=>(k.yP x (bX hx h.size)).trans (h.yP x hx)⟩
def Ext.cell(h:Ext w w'){a:Addr}(hc:w.cell? a=some v):w'.cell? a=some v:=
 (World.cell?_of_block (h.yP a.block (World.block_lt_of_cell? w a hc))).trans hc
def yg(h:Ext c.w w')(n:List Nat)(m:List Tok)(q:List oZ)(hn:∀b∈n,c.w.heap.size<=b)(hm:∀t∈m,t.live=true->c.w.heap.size<=t.g)(hq:∀t∈q,t.live=true->c.w.heap.size<=t.g):
  kI c ⟨c.σ++n,c.τ++m,c.μ++q,c.hid,w'⟩:=by
 refine⟨h.os,h.tape,h.output,h.size,rfl,⟨n,rfl,hn⟩,λid t ht=>⟨t,?_,rfl,rfl,.inl rfl⟩,λid t ht=>⟨t,?_,rfl,.inl rfl⟩,λt ht lv=>?_,λt ht lv=>?_,λa v ha hs hc=>?_,λb hb _ _ _=>h.yP b hb⟩;show(c.τ++m)[id]?=some t;rw[a8 (aR.1 ht).1];exact ht;show(c.μ++q)[id]?=some t;rw[a8 (aR.1 ht).1];exact ht
 ·rcases bC.1 ht with ht|ht
  exact .inl ⟨t,ht,lv,rfl⟩;exact .inr (hq t ht lv)
 ·rcases bC.1 ht with ht|ht
  exact .inl ⟨t,ht,lv,rfl⟩;exact .inr (hm t ht lv)
 ·have iI:=World.block_lt_of_cell? c.w a hc;refine⟨h.cell hc,hs.1,λki=>?_,λt ht lv e=>?_,λt ht lv e=>?_⟩
  ·rcases bC.1 ki with ki|ki
   exact hs.2.1 ki;have:=hn _ ki;omega
  ·rcases bC.1 ht with ht|ht
   exact hs.2.2.1 t ht lv e;have:=hm t ht lv;omega
  ·rcases bC.1 ht with ht|ht
   exact hs.2.2.2 t ht lv e;have:=hq t ht lv;omega
section
variable{P:Program}{c:Ctx}{H:PH}
def Rel.Bd(hr:Rel P c H){t:Tok}(ht:t∈c.τ)(lv:t.live=true):t.g<c.w.heap.size:=by obtain⟨cur,h,_⟩:=hr.tb t ht lv;exact(dw.1 h).1
def Rel.ext(hr:Rel P c H)(h:Ext c.w w')(n:List (Nat×List PV))(m:List Tok)(q:List (oZ×MO))
  (hn:∀x∈n,c.w.heap.size<=x.1∧x.1<w'.heap.size∧∃(jJ:Array Value) (T:TypeId),w'.heap[x.1]?=some (.cells jJ T (0,0))∧jJ.size=x.2.length∧
   ∀(j:Nat) (p:PV) (v:Value),x.2[j]?=some p->jJ[j]?=some v->RV ⟨c.σ++n.map (·.1),c.τ++m,c.μ++q.map (·.1),c.hid,w'⟩ p v∧v.oneCell'=true)
  (hnd:(n.map (·.1)).Nodup) (hmd:∀(i j:Nat) (t t':Tok),m[i]?=some t->m[j]?=some t'->t.live=true->t'.live=true->t.g=t'.g->i=j) (hmz:∀t∈m,t.live=false->t.hw=0∧(P.info? t.e).map (·.size)=some t.size)
  (hm:∀t∈m,t.live=true->c.w.heap.size<=t.g∧t.g∉n.map (·.1)∧∃cur,w'.heap[t.g]?=some (.cells cur t.e (0,0))∧cur.size=t.cap*t.size∧t.hw<=t.cap∧t.cap<=maxLen∧(P.info? t.e).map (·.size)=some t.size)
  (hq:∀x∈q,yO P ⟨c.σ++n.map (·.1),c.τ++m,c.μ++q.map (·.1),c.hid,w'⟩ x.1 x.2) (vd:∀x∈q,x.1.live=true->c.w.heap.size<=x.1.g∧x.1.g<w'.heap.size∧x.1.g∉n.map (·.1)∧∀t∈m,t.live=true->x.1.g≠t.g)
  (hqd:∀(i j:Nat) (t t':oZ),(q.map (·.1))[i]?=some t->(q.map (·.1))[j]?=some t'->t.live=true->t'.live=true->t.g=t'.g->i=j):
  Rel P ⟨c.σ++n.map (·.1),c.τ++m,c.μ++q.map (·.1),c.hid,w'⟩ ⟨H.bx++n.map (·.2),H.tk++m.map (λt=>(t.e,t.hw)),H.mu++q.map (·.2)⟩:=by
 have hE:=yg h (n.map (·.1)) m (q.map (·.1)) (λb hb=>by obtain⟨x,hx,rfl⟩:=cH.1 hb;exact(hn x hx).1) (λt ht lv=>(hm t ht lv).1) (λt ht lv=>by obtain⟨x,hx,rfl⟩:=cH.1 ht;exact(vd x hx lv).1);have slt:∀b∈c.σ,b<c.w.heap.size:=hr.pB;refine⟨by simp[hr.len],?_,by simp[hr.tk],?_,?_,?_,?_,?_,?_,?_,?_,by simp[hr.nq],?_,?_,?_,?_,?_,?_,hr.gl.kF hE.kF⟩;intro i b cs hb kR;simp only at hb kR;by_cases hi:i<c.σ.length;rw[a8 hi]at hb;rw[a8 (by rw[<-hr.len];exact hi)]at kR;obtain⟨jJ,T,h1,h2,h3⟩:=hr.bx i b cs hb kR;refine⟨jJ,T,?_,h2,λj p v hp hv=>⟨(h3 j p v hp hv).1.mono hE,(h3 j p v hp hv).2⟩⟩;rw[<-h1];exact h.yP b (slt b (aY hb));rw[a7 ab]at hb;rw[a7 (by rw[<-hr.len];omega),<-hr.len]at kR;rw[bj,bh]at hb kR;obtain⟨x,hx,rfl⟩:=hb;obtain⟨y,hy,rfl⟩:=kR;rw[hx]at hy;cases hy;obtain⟨_,_,jJ,T,h1,h2,h3⟩:=hn x (aY hx);exact⟨jJ,T,h1,h2,h3⟩
 ·intro t ht lv;rcases bC.1 ht with ht|ht
  obtain⟨cur,h1,h2⟩:=hr.tb t ht lv;exact⟨cur,by rw[<-h1];exact h.yP t.g (hr.Bd ht lv),h2⟩;exact(hm t ht lv).2.2
 refine gZ.2 ⟨hr.nd,hnd,λa ha b hb e=>?_⟩;obtain⟨x,hx,rfl⟩:=cH.1 hb;have:=slt a ha;have:=(hn x hx).1;omega;intro i j t t' hi hj lv kj e;replace hi:(c.τ++m)[i]?=some t:=hi;replace hj:(c.τ++m)[j]?=some t':=hj;by_cases h1:i<c.τ.length<;>by_cases h2:j<c.τ.length;rw[a8 h1]at hi;rw[a8 h2]at hj;exact hr.td i j t t' hi hj lv kj e;rw[a8 h1]at hi;rw[a7 ab]at hj;have:=hr.Bd (aY hi) lv;have:=(hm t' (aY hj) kj).1;omega;rw[a7 ab]at hi;rw[a8 h2]at hj;have:=hr.Bd (aY hj) kj;have:=(hm t (aY hi) lv).1;omega;rw[a7 ab]at hi hj;have:=hmd _ _ t t' hi hj lv kj e;omega
 ·intro t ht lv ki;simp only at ht ki;rcases bC.1 ht with ht|ht
  ·rcases bC.1 ki with ki|ki
   exact hr.st t ht lv ki;obtain⟨x,hx,e⟩:=cH.1 ki;have:=hr.Bd ht lv;have:=(hn x hx).1;omega
  ·rcases bC.1 ki with ki|ki
   have:=slt _ ki;have:=(hm t ht lv).1;omega;exact(hm t ht lv).2.1 ki
 exact λb p hb=>bX (hr.nu b p hb) h.size
 ·intro t ht lv p hp;rcases bC.1 ht with ht|ht
  exact hr.tG t ht lv p hp;have:=hr.nu _ _ hp;have:=(hm t ht lv).1;omega
 ·intro b hb;rcases bC.1 hb with hb|hb
  exact bX (slt b hb) h.size;obtain⟨x,hx,rfl⟩:=cH.1 hb;exact(hn x hx).2.1
 ·intro t ht lv;rcases bC.1 ht with ht|ht
  exact hr.dead t ht lv;exact hmz t ht lv
 intro i t o hi ho;simp only at hi ho;by_cases h1:i<c.μ.length;rw[a8 h1]at hi;rw[a8 (by rw[<-hr.nq];exact h1)]at ho;exact(hr.mu i t o hi ho).mono hE λlv=>h.yP _ (hr.mlt t (aY hi) lv);rw[a7 ab]at hi;rw[a7 (by rw[<-hr.nq];omega),<-hr.nq]at ho;rw[bj,bh]at hi ho;obtain⟨x,hx,rfl⟩:=hi;obtain⟨y,hy,rfl⟩:=ho;rw[hx]at hy;cases hy;exact hq x (aY hx)
 ·intro t ht lv;rcases bC.1 ht with ht|ht
  exact bX (hr.mlt t ht lv) h.size;obtain⟨x,hx,rfl⟩:=cH.1 ht;exact(vd x hx lv).2.1
 ·intro i j t t' hi hj lv kj e;replace hi:(c.μ++q.map (·.1))[i]?=some t:=hi;replace hj:(c.μ++q.map (·.1))[j]?=some t':=hj;have qlt:∀t∈q.map (·.1),t.live=true->c.w.heap.size<=t.g:=λt ht lv=>by obtain⟨x,hx,rfl⟩:=cH.1 ht;exact(vd x hx lv).1
  by_cases h1:i<c.μ.length<;>by_cases h2:j<c.μ.length;rw[a8 h1]at hi;rw[a8 h2]at hj;exact hr.md i j t t' hi hj lv kj e;rw[a8 h1]at hi;rw[a7 ab]at hj;have:=hr.mlt t (aY hi) lv;have:=qlt t' (aY hj) kj;omega;rw[a7 ab]at hi;rw[a8 h2]at hj;have:=hr.mlt t' (aY hj) kj;have:=qlt t (aY hi) lv;omega;rw[a7 ab]at hi hj;have:=hqd _ _ t t' hi hj lv kj e;omega
 ·intro t ht lv ki;simp only at ht ki;rcases bC.1 ht with ht|ht
  ·rcases bC.1 ki with ki|ki
   exact hr.ms t ht lv ki;obtain⟨x,hx,e⟩:=cH.1 ki;have:=hr.mlt t ht lv;have:=(hn x hx).1;omega
  ·obtain⟨y,hy,rfl⟩:=cH.1 ht;rcases bC.1 ki with ki|ki
   have:=slt _ ki;have:=(vd y hy lv).1;omega;exact(vd y hy lv).2.2.1 ki
 ·intro t ht lv t' kp kj e;simp only at ht kp;rcases bC.1 ht with ht|ht
  ·rcases bC.1 kp with kp|kp
   exact hr.mt t ht lv t' kp kj e;have:=hr.mlt t ht lv;have:=(hm t' kp kj).1;omega
  ·obtain⟨y,hy,rfl⟩:=cH.1 ht;rcases bC.1 kp with kp|kp
   have:=hr.Bd kp kj;have:=(vd y hy lv).1;omega;exact(vd y hy lv).2.2.2 t' kp kj e
 ·intro t ht lv p hp;rcases bC.1 ht with ht|ht
  exact hr.sW t ht lv p hp;obtain⟨y,hy,rfl⟩:=cH.1 ht;have:=hr.nu _ _ hp;have:=(vd y hy lv).1;omega
def Rel.grow(hr:Rel P c H)(h:Ext c.w w'):Rel P ⟨c.σ,c.τ,c.μ,c.hid,w'⟩ H∧kI c ⟨c.σ,c.τ,c.μ,c.hid,w'⟩:=by have h1:=hr.ext h [] [] [] aa aa aa aa aa aa aa aa;have h2:=yg h [] [] [] aa aa aa;simpa using And.intro h1 h2
variable{kh:Nat}
def Rel.Xy(hr:Rel P c H)(h:Ext c.w w')(h1:c.w.heap.size<=kh)(h2:kh<w'.heap.size){jJ:Array Value}{T:TypeId}
  (hb:w'.heap[kh]?=some (.cells jJ T (0,0))) (hl:jJ.size=cs.length)
  (hv:∀(j:Nat) (p:PV) (v:Value),cs[j]?=some p->jJ[j]?=some v->RV c p v∧v.oneCell'=true):
  Rel P ⟨c.σ++[kh],c.τ,c.μ,c.hid,w'⟩ ⟨H.bx++[cs],H.tk,H.mu⟩∧kI c ⟨c.σ++[kh],c.τ,c.μ,c.hid,w'⟩:=by
 have e2:=yg h [kh] [] [] (by simpa using h1) aa aa;simp only[cG]at e2;have e1:=hr.ext h [(kh,cs)] [] [] (by intro x hx;simp at hx;subst hx;refine⟨h1,h2,jJ,T,hb,hl,λj p v hp pr=>⟨?_,(hv j p v hp pr).2⟩⟩;simpa using(hv j p v hp pr).1.mono e2) aa aa aa aa aa aa aa;simp only[dx,fI,cG]at e1;exact⟨e1,e2⟩
def Rel.Xz(hr:Rel P c H)(h:Ext c.w w'){t:Tok}(lv:t.live=true)(h1:c.w.heap.size<=t.g){cur:Array Value}
  (hb:w'.heap[t.g]?=some (.cells cur t.e (0,0))) (hl:cur.size=t.cap*t.size) (hc:t.hw<=t.cap) (hm:t.cap<=maxLen) (hz:kZ P t.e=some t.size):
  Rel P ⟨c.σ,c.τ++[t],c.μ,c.hid,w'⟩ ⟨H.bx,H.tk++[(t.e,t.hw)],H.mu⟩∧kI c ⟨c.σ,c.τ++[t],c.μ,c.hid,w'⟩:=by
 have e2:=yg h [] [t] [] aa (by simp[h1]) aa;simp only[cG]at e2;have e1:=hr.ext h [] [t] [] aa aa (by
  intro i j t1 t2 h1 h2;have:=(aR.1 h1).1;have:=(aR.1 h2).1;simp at *
  omega) (by simp[lv]) (by
  intro t' kp _;simp at kp;subst kp;exact⟨h1,by simp,cur,hb,hl,hc,hm,hz⟩) aa aa aa
 simp only[dx,fI,cG]at e1;exact⟨e1,e2⟩
def Rel.Rb(hr:Rel P c H)(h:Ext c.w w'){t:oZ}{o:MO}(h1:t.live=true->c.w.heap.size<=t.g∧t.g<w'.heap.size)
  (ho:yO P ⟨c.σ,c.τ,c.μ++[t],c.hid,w'⟩ t o):
  Rel P ⟨c.σ,c.τ,c.μ++[t],c.hid,w'⟩ ⟨H.bx,H.tk,H.mu++[o]⟩∧kI c ⟨c.σ,c.τ,c.μ++[t],c.hid,w'⟩:=by
 have e2:=yg h [] [] [t] aa aa (by simpa using λlv=>(h1 lv).1);simp only[cG]at e2;have e1:=hr.ext h [] [] [(t,o)] aa aa aa aa aa (by
  intro x hx;simp at hx;subst hx;simpa using ho) (by
  intro x hx lv;simp at hx;subst hx;exact⟨(h1 lv).1,(h1 lv).2,by simp,by simp⟩) (by
  intro i j t1 t2 h1 h2;have:=(aR.1 h1).1;have:=(aR.1 h2).1;simp at *
  omega)
 simp only[dx,fI,cG]at e1;exact⟨e1,e2⟩
variable{b:Nat}{yP new:Array Value}
def Rel.afA(hr:Rel P c H){cs':List PV}(hb:c.σ[b]?=some kh)(hc:H.bx[b]?=some cs){T:TypeId}
  (ho:c.w.heap[kh]?=some (.cells yP T (0,0))) (hl:new.size=cs'.length)
  (hv:∀(j:Nat) (p:PV) (v:Value),cs'[j]?=some p->new[j]?=some v->RV c p v∧v.oneCell'=true):
  Rel P ⟨c.σ,c.τ,c.μ,c.hid,c.w.setRow kh new⟩ ⟨H.bx.set b cs',H.tk,H.mu⟩∧kI c ⟨c.σ,c.τ,c.μ,c.hid,c.w.setRow kh new⟩:=by
 have ki:kh∈c.σ:=aY hb;have oI:∀k,k≠kh->(c.w.setRow kh new).heap[k]?=c.w.heap[k]? :=λk hk=>setRow_other c.w kh k new hk;have hE:kI c ⟨c.σ,c.τ,c.μ,c.hid,c.w.setRow kh new⟩:=by refine⟨rfl,⟨rfl,λ_=>aZ _⟩,rfl,by simp,rfl,⟨[],by simp,by simp⟩,λid t ht=>⟨t,ht,rfl,rfl,.inl rfl⟩,λid t ht=>⟨t,ht,rfl,.inl rfl⟩,λt ht lv=>.inl ⟨t,ht,lv,rfl⟩,λt ht lv=>.inl ⟨t,ht,lv,rfl⟩,λa v ha hs oc=>⟨?_,hs⟩,λk _ hk _ _=>oI k (λe=>hk (e▸ki))⟩;rw[<-oc];exact World.cell?_of_block (oI a.block (λe=>hs.2.1 (e▸ki)))
 refine⟨⟨by simp[hr.len],?_,hr.tk,?_,hr.nd,hr.td,hr.st,λx p hx=>by simpa using hr.nu x p hx,hr.tG,λx hx=>by simpa using hr.pB x hx,hr.dead,hr.nq,?_,λt ht lv=>by simpa using hr.mlt t ht lv,hr.md,hr.ms,hr.mt,hr.sW,hr.gl.kF hE.kF⟩,hE⟩
 ·intro i b' ds Au pO;simp only at Au pO;by_cases hi:i=b;subst hi;rw[hb]at Au;cases Au;rw[bZ (aR.1 hc).1]at pO;cases pO;exact⟨new,T,setRow_heap c.w kh yP new T (0,0) ho,hl,λj p v hp pr=>⟨(hv j p v hp pr).1.mono hE,(hv j p v hp pr).2⟩⟩
  ·rw[bP (λe=>hi e.symm)]at pO;obtain⟨jJ,T',h1,h2,h3⟩:=hr.bx i b' ds Au pO;have js:b'≠kh:=by
    intro e;subst e;obtain⟨l1,e1⟩:=aR.1 hb;obtain⟨l2,e2⟩:=aR.1 Au;exact hi ((List.getElem_inj hr.nd).1 (e2.trans e1.symm))
   exact⟨jJ,T',by rw[<-h1];exact oI b' js,h2,λj p v hp pr=>⟨(h3 j p v hp pr).1.mono hE,(h3 j p v hp pr).2⟩⟩
 intro t ht lv;obtain⟨cur,h1,h2⟩:=hr.tb t ht lv;exact⟨cur,by rw[<-h1];exact oI t.g (λe=>hr.st t ht lv (e▸ki)),h2⟩;intro i t o hi ho;exact(hr.mu i t o hi ho).mono hE λlv=>oI t.g (λe=>hr.ms t (aY hi) lv (e▸ki))
end
section
variable{P:Program}{o:Oper}{ρ:Operand->PV}{H:PH}
variable{z:Value}
def YM{t:TypeId}(ho:o.op=.alloc t)(hz:my P t=some z)(h1:z.cells.toList.all (·.oneCell')=true):
  PO P o ρ H (.ptr H.bx.length 0) ⟨H.bx++[z.cells.toList.map tu],H.tk,H.mu⟩:=by
 intro c ρr hr hx;have kX:(execOp ρr o).run P c.w=.ok (.value (.pointer (some ⟨c.w.heap.size,0,none⟩))) (c.w.alloc (.cells z.cells t)):=by simp[execOp,ho,Instr.alloc,qL hz,newVar,newRow,newObj,Sem.run]
 unfold kU;rw[kX];have:=hr.Xy (Ext.alloc c.w (.cells z.cells t)) (aZ _) aa (cs:=z.cells.toList.map tu) (Go.heap_alloc_new c.w _) aa (by intro j p v hp hv;simp only[bj,bh]at hp;obtain⟨u,hu,rfl⟩:=hp;rw[fC,hv]at hu;cases hu;exact⟨Ar _ _,cY.1 h1 v (by rw[gK];exact fP hv)⟩);exact⟨_,rfl,this.1,this.2,.ptr _ _ _ (by simp[<-hr.len])⟩
def afB{t:TypeId}{x:Operand}(ho:o.op=.box t x)(hc:kc (ρ x)=some cs):
  PO P o ρ H (.ptr H.bx.length 0) ⟨H.bx++[cs],H.tk,H.mu⟩:=by
 intro c ρr hr hx;have hv:=hx x (by simp[ho,Op.operands]);have kX:(execOp ρr o).run P c.w=.ok (.value (.pointer (some ⟨c.w.heap.size,0,none⟩))) (c.w.alloc (.cells (ρr x).cells t)):=by simp[execOp,ho,Instr.box,newVar,newRow,newObj,Sem.run]
 unfold kU;rw[kX];obtain⟨e1,e2⟩:=pN hv hc;have:=hr.Xy (Ext.alloc c.w (.cells (ρr x).cells t)) (aZ _) aa (cs:=cs) (Go.heap_alloc_new c.w _) e1.symm e2;exact⟨_,rfl,this.1,this.2,.ptr _ _ _ (by simp[<-hr.len])⟩
def qF(ds:List PV)(off:Nat)(cs:List PV):List PV:=ds.take off++cs++ds.drop (off+cs.length)
variable{y:Operand}{b off n:Nat}
def YN{t:TypeId}{x:Operand}{ds:List PV}(ho:o.op=.store t x y)(hs:kZ P t=some n)(hp:ρ x=.ptr b off)(hc:kc (ρ y)=some cs)(hn:cs.length=n)
  (hb:H.bx[b]?=some ds) (hl:off+n<=ds.length):PO P o ρ H mW ⟨H.bx.set b (qF ds off cs),H.tk,H.mu⟩:=by
 intro c ρr hr hx;have kf:=hx x (by simp[ho,Op.operands]);have pD:=hx y (by simp[ho,Op.operands]);rw[hp]at kf;generalize El:ρr x=u at kf;cases kf with
 |ptr _ _ kh hblk=>
  obtain⟨jJ,T,e1,e2,e3⟩:=hr.bx b kh ds hblk hb;obtain⟨f1,f2⟩:=pN pD hc;have jE:∀v∈(ρr y).cells.toList,v.oneCell'=true:=by intro v hv;obtain⟨j,hj,rfl⟩:=List.mem_iff_getElem.1 hv;have wT:j<cs.length:=(by rw[f1];simpa using hj);exact(f2 j cs[j] _ (aS wT) aa).2
  have lT:=run_storeCells_at P kh off T (ρr y).cells.toList 0 jJ c.w e1 ae jE;have kX:(execOp ρr o).run P c.w=.ok .skip (c.w.setRow kh (jJ.toList.take off++(ρr y).cells.toList++jJ.toList.drop (off+(ρr y).cells.size)).toArray):=by simp only[b9]at lT;simp[execOp,ho,El,Instr.storeAt,Instr.sureAddr,storeVar,run_sizeOf hs,<-f1,hn,lT]
  unfold kU;rw[kX];have hlen:(jJ.toList.take off++(ρr y).cells.toList++jJ.toList.drop (off+(ρr y).cells.size)).toArray.size=(qF ds off cs).length:=by simp[qF,f1]<;>omega
  have:=hr.afA hblk hb e1 (cs':=qF ds off cs) hlen (by intro j p v kD hv;unfold qF at kD;simp only[dV]at hv;by_cases h1:j<off;rw[bV,a8 ad]at kD hv;simp only[bq,h1,gF]at kD hv;exact e3 j p v kD (by simpa using hv);by_cases h2:j<off+cs.length;rw[bV,a7 ad,a8 ad]at kD hv;have l1:(List.take off ds).length=off:=ad;have l2:(List.take off jJ.toList).length=off:=ad;rw[l1]at kD;rw[l2]at hv;exact f2 (j-off) p v kD (by simpa using hv);rw[a7 ad]at kD hv;have l1:(List.take off ds++cs).length=off+cs.length:=ad;have l2:(List.take off jJ.toList++(ρr y).cells.toList).length=off+cs.length:=(by simp[f1];omega);rw[l1,bD]at kD;rw[l2,bD]at hv;rw[<-f1]at hv;have e:off+cs.length+(j-(off+cs.length))=j:=ab;rw[e]at kD hv;exact e3 j p v kD (by simpa using hv));exact⟨_,rfl,this.1,this.2,.g _ _ (.raw _)⟩
def nI(P:Program)(f:FuncId):Bool:=match P.funcs[f]? with|some fn=> !(fn.name== "runtime.NumGoroutine")&&fn.body.isSome|none=>false
def qn(h:nI P f=true)(args:Array Value)(w:World):(callFunc f args).run P w=.ok (.enter f args) w:=by
 unfold nI at h;cases hf:P.funcs[f]? with
 |none=>rw[hf]at h;cases h
 |some fn=>
  rw[hf]at h;simp only[bI,c9]at h;obtain⟨h1,h2⟩:=h;have h3:fn.body.isNone=false:=by cases hb:fn.body<;>simp_all
  simp only[callFunc,program,Sem.run_bind,Sem.run,Result.andThen_ok,hf];simp[h1,h3]
def Ctx.close(c:Ctx):Ctx:=⟨[],[],[],⟨λb p=>c.hid b p∨b∈c.σ∨(∃t∈c.τ,t.live=true∧t.g=b∧¬p<t.hw*t.size)∨∃t∈c.μ,t.live=true∧t.g=b,c.hid.d⟩,c.w⟩
def RO(c:Ctx)(b p:Nat):c.close.jq b p↔c.jq b p:=by unfold Ctx.jq Ctx.close;constructor;rintro⟨h,_,_⟩;refine⟨λx=>h (.inl x),λx=>h (.inr (.inl x)),λt ht lv e=>?_,λt ht lv e=>h (.inr (.inr (.inr ⟨t,ht,lv,e⟩)))⟩;exact cj λhn=>h (.inr (.inr (.inl ⟨t,ht,lv,e,hn⟩)));rintro⟨h1,h2,h3,h4⟩;refine⟨?_,by simp,by simp,by simp⟩;rintro(h|h|⟨t,ht,lv,e,hn⟩|⟨t,ht,lv,e⟩);exact h1 h;exact h2 h;exact hn (h3 t ht lv e);exact h4 t ht lv e
def BE(c:Ctx):c.close.jq=c.jq:=funext λb=>funext λp=>propext (RO c b p)
def UK(hr:Rel P c H):Rel P c.close ⟨[],[],[]⟩:=by
 refine⟨rfl,by simp[Ctx.close],rfl,by simp[Ctx.close],by simp[Ctx.close],by simp[Ctx.close],by simp[Ctx.close],?_,by simp[Ctx.close],by simp[Ctx.close],by simp[Ctx.close],rfl,by simp[Ctx.close],by simp[Ctx.close],by simp[Ctx.close],by simp[Ctx.close],by simp[Ctx.close],by simp[Ctx.close],hr.gl.Cj rfl λb p h=>by rw[BE];exact h⟩;intro b p h;rcases h with h|h|⟨t,ht,lv,e,_⟩|⟨t,ht,lv,e⟩
 exact hr.nu b p h;exact hr.pB b h;exact e▸hr.Bd ht lv;exact e▸hr.mlt t ht lv
def Mh:PV->Prop
 |.g _=>True|.tuple cs=>∀p∈cs,∃x,p=.g x|_=>False
def RP(hr:Rel P c H)(kP:Rel P c' ⟨[],[],[]⟩)(hE:kI c.close c'):
  Rel P ⟨c.σ,c.τ,c.μ,c.hid,c'.w⟩ H∧kI c ⟨c.σ,c.τ,c.μ,c.hid,c'.w⟩∧∀p v,Mh p->RV c' p v->RV ⟨c.σ,c.τ,c.μ,c.hid,c'.w⟩ p v:=by
 have hX:Ext c.w c'.w:=⟨hE.os,hE.tape,hE.output,hE.size,λb hb=>hE.frame b hb (by simp[Ctx.close]) (by simp[Ctx.close]) (by simp[Ctx.close])⟩;obtain⟨h1,h2⟩:=hr.grow hX;refine⟨h1,h2,?_⟩;have hσ:c'.σ=[]:=df (by simpa using kP.len);have hτ:c'.τ=[]:=by have:=kP.tk;simpa using this
 have lT:∀b p,c'.jq b p->Ctx.jq ⟨c.σ,c.τ,c.μ,c.hid,c'.w⟩ b p:=by
  intro b p hs;have hh:¬c.close.hid b p:=by have:=hs.1;rwa[hE.hid]at this
  refine⟨λx=>hh (.inl x),λx=>hh (.inr (.inl x)),λt ht lv e=>?_,λt ht lv e=>hh (.inr (.inr (.inr ⟨t,ht,lv,e⟩)))⟩;exact cj λhn=>hh (.inr (.inr (.inl ⟨t,ht,lv,e,hn⟩)))
 have key:∀g v,RG c'.w c'.jq g v->RG c'.w (Ctx.jq ⟨c.σ,c.τ,c.μ,c.hid,c'.w⟩) g v:=λg v hg=>hg.mono λa u _ hs hc=>⟨hc,lT _ _ hs⟩;intro p v hp hv;cases hv with
 |g x v hg=>exact .g _ _ (key _ _ hg)
 |tuple cs vs hl hh=>
  refine .tuple cs vs hl λi q u hq hu=>?_;obtain⟨x,rfl⟩:=hp q (aY hq);have:=hh i _ u hq hu;cases this with|g _ _ hg=>exact .g _ _ (key _ _ hg)
 |_=>exact hp.elim
def HR(ρ:Operand->PV)(args:List Operand)(as:List GV):Prop:=args.map (λx=>pack (ρ x))=as.map .g
def MW{f:Operand}{args:Array Operand}{ts:Array TypeId}{id:FuncId}{as:List GV}{v:PV}(ho:o.op=.call {callee:=.value f,args:=args,argTypes:=ts})
  (hf:ρ f=.g (.raw (.func (.func id) #[] #[]))) (he:nI P id=true) (ha:HR ρ args.toList as) (hv:Mh v) (hp:PC P id (as.map .g) ⟨[],[],[]⟩ v ⟨[],[],[]⟩):PO P o ρ H v H:=by
 intro c ρr hr hx;have tI:∀x,x=f∨x∈args.toList->x∈o.op.operands.toList:=by
  intro x hx;simp[ho,Op.operands,Call.operands];rcases hx with rfl|hx
  exact .inl rfl;exact .inr (by simpa using hx)
 have xx:=hx f (tI f (.inl rfl));rw[hf]at xx;have S3:=Bc xx;have kX:(execOp ρr o).run P c.w=.ok (.enter id (args.map ρr)) c.w:=by simp[execOp,ho,resolve,S3,Deferred.ofValue,invoke,qn he]
 unfold kU;rw[kX];have I1:Xw c.close (as.map .g) (args.map ρr):=by
  have hlen:=aT List.length ha;simp at hlen;refine⟨by simp[hlen],λi p u kD hu=>?_⟩;simp only[ff,bh]at hu;obtain⟨x,kf,rfl⟩:=hu;have h1:(args.toList.map λx=>pack (ρ x))[i]?=some (pack (ρ x)):=by simp[kf]
  rw[ha,kD]at h1;have h2:=ye (hx x (tI x (.inr (by rw[gK];exact fP kf))));rw[<-Option.some_inj.1 h1]at h2;simp only[bj,bh]at kD;obtain⟨g,_,rfl⟩:=kD;cases h2 with|g _ _ hg=>exact .g _ _ (by rw[BE];exact hg)
 refine(hp c.close _ (UK hr) I1).mono ?_;rintro e w' ⟨rv,c',rfl,rfl,kP,hE,pr⟩;obtain⟨h1,h2,h3⟩:=RP hr kP hE;exact⟨rv,rfl,⟨c.σ,c.τ,c.μ,c.hid,c'.w⟩,rfl,h1,h2,h3 v rv hv pr⟩
end
inductive lu(nb nt nm:Nat):PV->Prop where
 |g (x:GV):lu nb nt nm (.g x)
 |own (es:List GV) (id:Nat) (h:id<nt):lu nb nt nm (.own es id)
 |ptr (b off:Nat) (h:b<nb):lu nb nt nm (.ptr b off)
 |jx:lu nb nt nm .jx
 |iM:lu nb nt nm .iM
 |pat (cs:List GV):lu nb nt nm (.pat cs)
 |mU (fn:Fn) (ps qs:List PV) (h1:∀p∈ps,lu nb nt nm p) (h2:∀p∈qs,lu nb nt nm p):lu nb nt nm (.mU fn ps qs)
 |agg (cs:List PV) (h:∀p∈cs,lu nb nt nm p):lu nb nt nm (.agg cs)
 |tuple (cs:List PV) (h:∀p∈cs,lu nb nt nm p):lu nb nt nm (.tuple cs)
 |lit (es:List GV):lu nb nt nm (.lit es)
 |lK (id n:Nat) (h:id<nm):lu nb nt nm (.lK id n)
 |kE (id n i off:Nat) (h:id<nm):lu nb nt nm (.kE id n i off)
 |mp (id:Nat) (h:id<nm):lu nb nt nm (.mp id)
 |vw (id n off len cap:Nat) (h:id<nm):lu nb nt nm (.vw id n off len cap)
 |qm (id n off len:Nat) (h:id<nm):lu nb nt nm (.qm id n off len)
 |mV (g off:Nat):lu nb nt nm (.mV g off)
 |kv (g off:Nat):lu nb nt nm (.kv g off)
 |rz (t:TypeId) (p:PV) (h:lu nb nt nm p):lu nb nt nm (.rz t p)
 |any:lu nb nt nm .any
def Ctx.cut(c:Ctx)(nb nt nm:Nat):Ctx:=⟨c.σ.take nb,c.τ.take nt,c.μ.take nm,c.hid,c.w⟩
variable{b:Nat}
def zF{nb nt nm p:Nat}(h:c.jq b p):(c.cut nb nt nm).jq b p:=
 ⟨h.1,λhm=>h.2.1 (cC hm),λt ht lv=>h.2.2.1 t (cC ht) lv,λt ht lv=>h.2.2.2 t (cC ht) lv⟩
def RG.cut{c:Ctx}{nb nt nm:Nat}{g:GV}{v:Value}(h:RG c.w c.jq g v):RG (c.cut nb nt nm).w (c.cut nb nt nm).jq g v:=
 h.mono λ_ _ _ hs hc=>⟨hc,zF hs⟩
def RV.cut{c:Ctx}{nb nt nm:Nat}{p:PV}{v:Value}(h:RV c p v)(hp:lu nb nt nm p):RV (c.cut nb nt nm) p v:=by
 induction h with
 |g x v h=>exact .g _ _ h.cut
 |own es id v t h ht hs hl hv=>
  cases hp with
  |own _ _ hid=>exact .own es id v t h.cut (by simp only[Ctx.cut];rw[bq,aW hid];exact ht) hs hl hv
 |ptr b off kh h=>
  cases hp with
  |ptr _ _ hb=>exact .ptr _ _ _ (by simp only[Ctx.cut];rw[bq,aW hb];exact h)
 |jx=>exact .jx|iM=>exact .iM|pat cs a f ha hf h=>exact .pat cs a f ha (λk hk=>⟨(hf k hk).1,zF (hf k hk).2.1,(hf k hk).2.2⟩) (λj g hj=>(h j g hj).cut)
 |mU fn ps qs us vs p8 hq _ _ h1 h2=>
  cases hp with
  |mU _ _ _ e1 e2=>exact .mU fn ps qs us vs p8 hq (λi p v kD hv=>h1 i p v kD hv (e1 p (aY kD))) (λi p v kD hv=>h2 i p v kD hv (e2 p (aY kD)))
 |agg cs vs hl h1 _ ih=>
  cases hp with
  |agg _ e=>exact .agg cs vs hl h1 λi p v kD hv=>ih i p v kD hv (e p (aY kD))
 |tuple cs vs hl _ ih=>
  cases hp with
  |tuple _ e=>exact .tuple cs vs hl λi p v kD hv=>ih i p v kD hv (e p (aY kD))
 |lit es a h=>exact .lit es a h.cut
 |lK id n v t ht hn h1 hv=>
  cases hp with
  |lK _ _ hb=>exact .lK id n v t (by simp only[Ctx.cut];rw[bq,aW hb];exact ht) hn h1 hv
 |kE id n i off v t ht hn h1 hv=>
  cases hp with
  |kE _ _ _ _ hb=>exact .kE id n i off v t (by simp only[Ctx.cut];rw[bq,aW hb];exact ht) hn h1 hv
 |mp id v t ht h1 hv=>
  cases hp with
  |mp _ hb=>exact .mp id v t (by simp only[Ctx.cut];rw[bq,aW hb];exact ht) h1 hv
 |vw id n off len cap g t ht hn h1 h2 hv=>
  cases hp with
  |vw _ _ _ _ _ hb=>exact .vw id n off len cap g t (by simp only[Ctx.cut];rw[bq,aW hb];exact ht) hn h1 h2 hv
 |qm id n off len g xw cap t ht hn h1 h2 hv=>
  cases hp with
  |qm _ _ _ _ hb=>exact .qm id n off len g xw cap t (by simp only[Ctx.cut];rw[bq,aW hb];exact ht) hn h1 h2 hv
 |mV g off=>exact .mV g off|kv g off v h hs h1=>exact .kv g off v h (zF hs) h1
 |rz t p v _ ih=>
  cases hp with
  |rz _ _ hb=>exact .rz t p v (ih hb)
 |any v=>exact .any v
section
variable{P:Program}
def Rel.cut{c:Ctx}{H H':PH}(hr:Rel P c H)(h1:∃x,H.bx=H'.bx++x)(h2:∃y,H.tk=H'.tk++y)(h3:∃z,H.mu=H'.mu++z)(hR:∀cs∈H'.bx,∀p∈cs,lu H'.bx.length H'.tk.length H'.mu.length p):
  Rel P (c.cut H'.bx.length H'.tk.length H'.mu.length) H':=by
 obtain⟨x,hx⟩:=h1;obtain⟨y,hy⟩:=h2;obtain⟨z,hz⟩:=h3;have hl:=hr.len;rw[hx]at hl;have ht:=hr.tk;rw[hy]at ht;refine⟨?_,?_,?_,λt ht lv=>hr.tb t (cC ht) lv,hr.nd.sublist (List.take_sublist _ _),?_,λt ht lv hm=>hr.st t (cC ht) lv (cC hm),hr.nu,λt ht lv=>hr.tG t (cC ht) lv,λb hb=>hr.pB b (cC hb),λt ht lv=>hr.dead t (cC ht) lv,?_,?_,λt ht lv=>hr.mlt t (cC ht) lv,?_,λt ht lv hm=>hr.ms t (cC ht) lv (cC hm),λt ht lv t' kp kj=>hr.mt t (cC ht) lv t' (cC kp) kj,λt ht lv=>hr.sW t (cC ht) lv,
  hr.gl.Cj rfl λ_ _ h=>zF h⟩
 simp[Ctx.cut,hl];intro i b cs hb kR;simp only[Ctx.cut,bq]at hb;split at hb;rename_i hi;obtain⟨jJ,T,e1,e2,e3⟩:=hr.bx i b cs hb (by rw[hx,a8 hi];exact kR);exact⟨jJ,T,e1,e2,λj p v hp hv=>⟨(e3 j p v hp hv).1.cut (hR cs (aY kR) p (aY hp)),(e3 j p v hp hv).2⟩⟩;cases hb;simp only[Ctx.cut,gf,ht];simp;intro i j t t' hi hj;simp only[Ctx.cut,bq]at hi hj;split at hi;split at hj;exact hr.td i j t t' hi hj;cases hj;cases hi;have:=hr.nq;rw[hz]at this;simp[Ctx.cut,this]
 ·intro i t o hi ho;simp only[Ctx.cut,bq]at hi;split at hi
  ·rename_i iI;have:=hr.mu i t o hi (by rw[hz,a8 iI];exact ho);cases o with
   |gone n=>exact this
   |arr n e es=>
    obtain⟨a1,a2,a3,a4⟩:=this;refine⟨a1,a2,a3,a4.imp id ?_⟩;rintro⟨lv,cur,b1,b2,b3,b4,b5,b6⟩;exact⟨lv,cur,b1,b2,b3,b4,b5,λi x j g v hx hg hv=>⟨(b6 i x j g v hx hg hv).1.cut,(b6 i x j g v hx hg hv).2⟩⟩
   |map es=>
    obtain⟨a1,lv,n5,o8,hp,b1,b2,b3⟩:=this;exact⟨a1,lv,n5,o8,hp,b1,b2,λi k v n hk hn=>⟨(b3 i k v n hk hn).1.cut,(b3 i k v n hk hn).2.1.cut,(b3 i k v n hk hn).2.2⟩⟩
   |iter n s pos=>exact this
  cases hi
 intro i j t t' hi hj;simp only[Ctx.cut,bq]at hi hj;split at hi;split at hj;exact hr.md i j t t' hi hj;cases hj;cases hi
def kI.cut{c0 c:Ctx}(hE:kI c0 c){nb nt nm:Nat}(hb:c0.σ.length<=nb)(ht:c0.τ.length<=nt)(hm:c0.μ.length<=nm):kI c0 (c.cut nb nt nm):=by obtain⟨n,hn,Je⟩:=hE.sig;refine⟨hE.os,hE.tape,hE.output,hE.size,hE.hid,⟨n.take (nb-c0.σ.length),?_,λb Au=>Je b (cC Au)⟩,λid t hid=>?_,λid t hid=>?_,λt kp lv=>hE.sA t (cC kp) lv,λt kp lv=>hE.pq t (cC kp) lv,λa v ha hs hc=>⟨(hE.kF a v ha hs hc).1,zF (hE.kF a v ha hs hc).2⟩,hE.frame⟩;simp only[Ctx.cut,hn,List.take_append];rw[bR hb];obtain⟨t',h1,h2⟩:=hE.tok id t hid;refine⟨t',?_,h2⟩;have:=(aR.1 hid).1;simp only[Ctx.cut];rw[bq,aW ab];exact h1;obtain⟨t',h1,h2⟩:=hE.mu id t hid;refine⟨t',?_,h2⟩;have:=(aR.1 hid).1;simp only[Ctx.cut];rw[bq,aW ab];exact h1
def Ctx.wd(c:Ctx)(d:List Deferred):Ctx:=⟨c.σ,c.τ,c.μ,⟨c.hid.f,d⟩,c.w⟩
def Mi(c:Ctx)(d:List Deferred):CV c (c.wd d):=
 ⟨⟨[],(cG c.σ).symm⟩,λ_ t ht=>⟨t,ht,rfl,rfl,.inl rfl⟩,λ_ t ht=>⟨t,ht,rfl,.inl rfl⟩,λ_ _ _ hs hc=>⟨hc,hs⟩⟩
def RV.wd{c:Ctx}{p:PV}{v:Value}(h:RV c p v)(d:List Deferred):RV (c.wd d) p v:=RV.kA (Mi c d) h
def Rel.wd{c:Ctx}{H:PH}(hr:Rel P c H)(d:List Deferred):Rel P (c.wd d) H:=
  { len:=hr.len,bx:=λi b cs hb kR=>by
      obtain⟨jJ,T,h1,h2,h3⟩:=hr.bx i b cs hb kR;exact⟨jJ,T,h1,h2,λj p v hp hv=>⟨(h3 j p v hp hv).1.wd d,(h3 j p v hp hv).2⟩⟩
    tk:=hr.tk,tb:=hr.tb,nd:=hr.nd,td:=hr.td,st:=hr.st,nu:=hr.nu,tG:=hr.tG,pB:=hr.pB,dead:=hr.dead,nq:=hr.nq,
    mu:=λi t o ht ho=>yO.kA (Mi c d) (λ_=>rfl) (hr.mu i t o ht ho),
    mlt:=hr.mlt,md:=hr.md,ms:=hr.ms,mt:=hr.mt,sW:=hr.sW,gl:=hr.gl.Cj rfl λ_ _ h=>h}
def kI.wd{c c':Ctx}{d:List Deferred}(hE:kI (c.wd d) c'):kI c (c'.wd c.hid.d):=
  { os:=hE.os,tape:=hE.tape,output:=hE.output,size:=hE.size,hid:=by
      have:=aT Hid.f hE.hid;show(⟨c'.hid.f,c.hid.d⟩:Hid)=c.hid;rw[this];rfl
    sig:=hE.sig,tok:=hE.tok,mu:=hE.mu,sA:=hE.sA,pq:=hE.pq,kF:=hE.kF,frame:=hE.frame}
def Gb (P:Program)(env:Env)(H:PH):ResultVar->Option PV
  |.tmp t=>some (env t)
  |.cell a t=>
    match env a with
    |.ptr b off=>
      match H.bx[b]? with
      |some cs=>
        match qY P t with
        |some true=>match kZ P t with
          |some n=>if off+n<=cs.length then some (.agg ((cs.drop off).take n))else none|none=>none
        |some false=>cs[off]?|none=>none
      |none=>none
    |_=>none
def Be(tmps:Array Value):ResultVar->Sem Value
 |.tmp t=>pure (tmps.getD t undef)|.cell x t=>do loadVar t (<-asAddr (tmps.getD x undef))
def S4(hr:Rel P c H)(he:ER c N env a){r:ResultVar}(h:Gb P env H r=some p):
  ∃v,(Be a.tmps r).run P c.w=.ok v c.w∧RV c p v:=by
 cases r with
 |tmp t=>
  simp only[Gb,cg]at h;subst h;exact⟨_,rfl,he.slot t⟩
 |cell x t=>
  simp only[Gb]at h;split at h
  ·rename_i b off hb;have hs:=he.slot x;rw[hb]at hs;generalize hv:a.tmps.getD x undef=u at hs;cases hs with
   |ptr _ _ kh hblk=>
    split at h
    ·rename_i cs kR;obtain⟨jJ,e1,e2,e3⟩:=tH hr hblk kR;split at h
     ·rename_i UL;split at h;rename_i n hn;split at h;rename_i hle;simp only[cg]at h;subst h;have hl:=pt (w:=c.w) UL hn ⟨kh,off,none⟩ (λj=>jJ.getD (off+j) undef) (λj hj=>by rw[add_eq _ _ rfl];exact e2 (off+j) ab);refine⟨_,by simp only[Be,hv,asAddr,Sem.run_bind,Sem.run_pure,Result.andThen_ok,hl];rfl,.agg _ _ ad ?_ ?_⟩;intro v hv;simp at hv;obtain⟨j,hj,rfl⟩:=hv;have:=(e3 (off+j) (cs[off+j]'(by omega)) aa).2;simpa[bF]using this;intro i p v hi hv;simp[bq]at hi hv;obtain⟨iI,hi⟩:=hi;obtain⟨i',h0,rfl⟩:=hv;obtain⟨h0,rfl⟩:=aR.1 h0;rw[eT];have:=(e3 (off+i) p hi).1;simpa[bF]using this;cases h;cases h
     rename_i UL;have:=e2 off (by rw[e1];exact(aR.1 h).1);exact⟨_,by simp only[Be,hv,asAddr,Sem.run_bind,Sem.run_pure,Result.andThen_ok,px UL _ _ this],(e3 off p h).1⟩;cases h
    cases h
  cases h
def IJ:List PV->PV
 |[p]=>p|ps=>.tuple ps
def tS(P:Program)(env:Env)(H:PH):List ResultVar->Option (List PV)
 |[]=>some []
 |r::rs=>match Gb P env H r,tS P env H rs with
  |some p,some ps=>some (pack p::ps)|_,_=>none
def Oj{c:Ctx}{H:PH}{N:Nat}{env:Env}{a:Act}(hr:Rel P c H)(he:ER c N env a):∀{rs:List ResultVar} {ps:List PV},tS P env H rs=some ps->
  ∃vs:List Value,(rs.mapM (Be a.tmps)).run P c.w=.ok vs c.w∧ps.length=vs.length∧
   ∀(i:Nat) (p:PV) (v:Value),ps[i]?=some p->vs[i]?=some v->RV c p v
 |[],ps,h=>by simp[tS]at h;subst h;exact⟨[],by simp,rfl,by simp⟩
 |r::rs,ps,h=>by
  simp only[tS]at h;split at h
  ·rename_i p ps' h1 h2;simp only[cg]at h;subst h;obtain⟨v,e1,e2⟩:=S4 hr he h1;obtain⟨vs,f1,f2,f3⟩:=Oj hr he h2;refine⟨v::vs,?_,by simp[f2],λi q u hq hu=>?_⟩;simp only[List.mapM_cons,Sem.run_bind,e1,f1,Result.andThen_ok,Sem.run_pure]
   ·cases i with
    |zero=>simp at hq hu;subst hq;subst hu;exact ye e2|succ i=>exact f3 i q u (by simpa using hq) (by simpa using hu)
  cases h
def zX(P:Program)(env:Env)(H:PH):List ResultVar->Option (List PV)
 |[]=>some []
 |r::rs=>match Gb P env H r,zX P env H rs with
  |some p,some ps=>some (p::ps)|_,_=>none
def Ol{c:Ctx}{H:PH}{N:Nat}{env:Env}{a:Act}(hr:Rel P c H)(he:ER c N env a):∀{rs:List ResultVar} {ps:List PV},zX P env H rs=some ps->
  ∃vs:List Value,(rs.mapM (Be a.tmps)).run P c.w=.ok vs c.w∧ps.length=vs.length∧
   ∀(i:Nat) (p:PV) (v:Value),ps[i]?=some p->vs[i]?=some v->RV c p v
 |[],ps,h=>by simp[zX]at h;subst h;exact⟨[],by simp,rfl,by simp⟩
 |r::rs,ps,h=>by
  simp only[zX]at h;split at h
  ·rename_i p ps' h1 h2;simp only[cg]at h;subst h;obtain⟨v,e1,e2⟩:=S4 hr he h1;obtain⟨vs,f1,f2,f3⟩:=Ol hr he h2;refine⟨v::vs,?_,by simp[f2],λi q u hq hu=>?_⟩;simp only[List.mapM_cons,Sem.run_bind,e1,f1,Result.andThen_ok,Sem.run_pure]
   ·cases i with
    |zero=>simp at hq hu;subst hq;subst hu;exact e2|succ i=>exact f3 i q u (by simpa using hq) (by simpa using hu)
  cases h
def JF(P:Program)(rs:List ResultVar)(H:PH)(v:PV)(H':PH)(e:Exit)(env:Env)(H2:PH):Prop:=
 (e=.normal∨e=.ret)∧∃ps,(tS P env H2 rs=some ps∨zX P env H2 rs=some ps)∧IJ ps=v∧(∃x,H2.bx=H'.bx++x)∧(∃y,H2.tk=H'.tk++y)∧(∃z,H2.mu=H'.mu++z)∧
  H.bx.length<=H'.bx.length∧H.tk.length<=H'.tk.length∧H.mu.length<=H'.mu.length∧lu H'.bx.length H'.tk.length H'.mu.length v∧∀cs∈H'.bx,∀p∈cs,lu H'.bx.length H'.tk.length H'.mu.length p
def JG(args:List PV):Env:=λt=>args.getD t mW
variable{fn:Func}{vs:Array Value}
def Hl(hn:fn.ntmps=N)(hl:args.length<=N)(ha:Xw c args vs):ER (c.wd []) N (JG args) {tmps:=vs++Array.replicate (fn.ntmps-vs.size) undef,defers:=[]}:=by
 have kl:vs.size<=N:=by rw[<-ha.1];exact hl
 refine⟨rfl,by simp[hn];omega,λt=>RV.wd ?_ []⟩;simp only[JG,List.getD,bF];by_cases ht:t<vs.size
 ·have kp:t<args.length:=by rw[ha.1];exact ht
  rw[fm ht];have:=ha.2 t args[t] vs[t] (aS kp) (dr ht);simpa[ht,kp]using this
 ·have kp:¬t<args.length:=by rw[ha.1];exact ht
  rw[dp ab,gB ab];simp only[Option.getD_none];have:((Array.replicate (fn.ntmps-vs.size) undef)[t-vs.size]?).getD undef=undef:=by by_cases h2:t-vs.size<fn.ntmps-vs.size;simp[h2];simp[h2]
  rw[this];exact .g _ _ (.raw _)
variable{rs:List ResultVar}{H2:PH}
def Em{v:PV}(hr:Rel P c H)(vF:fn.results=rs.toArray)(NX:JF P rs H v H' e env H2)(kP:Rel P c' H2)(hE:kI (c.wd []) c')
  (hN:a.tmps.size=N) (hs:∀t,RV c' (env t) (a.tmps.getD t undef)):
  ∃v',(results fn a.tmps).run P c'.w=.ok v' c'.w∧∃rv c'',Ending.returned v'=.returned rv∧c''.w=c'.w∧Rel P c'' H'∧kI c c''∧RV c'' v rv:=by
 obtain⟨he,ps,h1,h2,h3,h4,h4m,h5,h6,h6m,h7,h8⟩:=NX;have mw:ER (c'.wd a.defers) N env a:=⟨rfl,hN,λt=>(hs t).wd _⟩;have nh:Rel P (c'.wd a.defers) H2:=kP.wd _;obtain⟨us,e1,e2,e3⟩:=h1.elim (λh1=>Oj nh mw h1) (λh1=>Ol nh mw h1);have aeO:=kP.cut h3 h4 h4m h8;have ajv:=(hE.cut (nb:=H'.bx.length) (nt:=H'.tk.length) (by show c.σ.length<=_;rw[hr.len];exact h5) (by have:=aT List.length hr.tk;simp at this;show c.τ.length<=_;omega) (nm:=H'.mu.length) (by show c.μ.length<=_;rw[hr.nq];exact h6m)).wd;have key:∃rv,(results fn a.tmps).run P c'.w=.ok rv c'.w∧RV c' v rv:=by
  refine⟨if h:us.toArray.size=1 then us.toArray[0]else .tuple us.toArray,?_,?_⟩
  ·have:results fn a.tmps=(do let vs <-fn.results.mapM (Be a.tmps);pure (if h:vs.size=1 then vs[0]else .tuple vs)):=by
    unfold results;congr 1
   rw[this];have e1:(rs.mapM (Be a.tmps)).run P c'.w=.ok us c'.w:=e1;simp only[vF,Sem.run_bind,List.mapM_toArray,Sem.run_map,e1,Result.andThen_ok,Sem.run_pure]
  ·rw[<-h2];have e3:∀(i:Nat) (p:PV) (v:Value),ps[i]?=some p->us[i]?=some v->RV c' p v:=λi p v hp hv=>by
    have:=(e3 i p v hp hv).wd c'.hid.d;exact this
   match ps,us,e2,e3 with
   |[p],[u],_,e3=>simpa[IJ]using e3 0 p u rfl rfl|[],[],_,e3=>simpa[IJ]using RV.tuple (c:=c') [] #[] rfl aa
   |p::q::ps,u::u'::us,e2,e3=>
    have:¬(u::u'::us).toArray.size=1:=aa;rw[dif_neg this];exact .tuple _ _ (by simpa using e2) (λi p v hp hv=>e3 i p v hp (by simpa using hv))
 obtain⟨rv,g1,g2⟩:=key;exact⟨rv,g1,rv,(c'.cut H'.bx.length H'.tk.length H'.mu.length).wd c.hid.d,rfl,rfl,aeO.wd _,ajv,(g2.cut h7).wd _⟩
variable{code:Code}
def Om{v:PV}(hn:fn.ntmps=N)(vF:fn.results=rs.toArray)(hl:args.length<=N)(h:PW P N code (JF P rs H v H') (JG args) H) (hr:Rel P c H) (ha:Xw c args vs):
  code.wp P (bodyPost P fn λe w'=>∃rv c',e=.returned rv∧c'.w=w'∧Rel P c' H'∧kI c c'∧RV c' v rv) {tmps:=vs++Array.replicate (fn.ntmps-vs.size) undef,defers:=[]} c.w:=by
 refine wp_mono (h (c.wd []) _ (hr.wd []) (Hl hn hl ha)) ?_;rintro e a w' ⟨c',env',H2,NX,rfl,kP,hE,mw⟩;have GU:a.defers=[]:=mw.defers.trans (aT Hid.d hE.hid);have fin:=Em hr vF NX kP hE mw.size mw.slot;rcases NX.1 with rfl|rfl
 exact⟨GU,fin⟩;exact⟨GU,fin⟩
def YO{v:PV}(hf:P.funcs[f]?=some fn)(hb:fn.body=some code)(hn:fn.ntmps=N)
  (vF:fn.results=rs.toArray) (hl:args.length<=N) (h:PW P N code (JF P rs H v H') (JG args) H):PC P f args H v H':=
 λ_ _ hr ha=>calls_of_wp hf hb (Om hn vF hl h hr ha)
end
def Rc(op:BinOp)(k:IntKind)(a b:Int):Option GV:=
 match op with
 |.add=>some (.int k (k.wrap (a+b)))|.sub=>some (.int k (k.wrap (a-b)))|.mul=>some (.int k (k.wrap (a*b)))|.eql=>some (.bool (a==b))|.neq=>some (.bool (a !=b))|.lss=>some (.bool (decide (a<b)))|.leq=>some (.bool (decide (a<=b)))|.gtr=>some (.bool (decide (a>b)))|.geq=>some (.bool (decide (a≥b)))|.and=>some (.int k (k.wrap (BitVec.ofInt k.bits a &&& BitVec.ofInt k.bits b).toNat))|.or=>some (.int k (k.wrap (BitVec.ofInt k.bits a ||| BitVec.ofInt k.bits b).toNat))|.xor=>some (.int k (k.wrap (BitVec.ofInt k.bits a ^^^ BitVec.ofInt k.bits b).toNat))|.andNot=>some (.int k (k.wrap (BitVec.ofInt k.bits a &&& ~~~ (BitVec.ofInt k.bits b)).toNat))|_=>none
def GV.val:GV->Value
 |.int k n=>.int k n|.bool b=>.bool b|.str s=>.string s|_=>undef
def Re(op:BinOp)(a b:ByteArray):Option GV:=
 match op with
 |.eql=>some (.bool (a.toList==b.toList))|.neq=>some (.bool (!(a.toList==b.toList)))|.lss=>some (.bool (Op.bytesLess a.toList b.toList))|.leq=>some (.bool (Op.bytesLess a.toList b.toList||a.toList==b.toList))|.gtr=>some (.bool (!(Op.bytesLess a.toList b.toList||a.toList==b.toList)))|.geq=>some (.bool (!(Op.bytesLess a.toList b.toList)))|_=>none
section
variable{P:Program}{o:Oper}{ρ:Operand->PV}{H:PH}
variable{op:BinOp}{y:Operand}{k:IntKind}
def afC{t u:TypeId}{x:Operand}{a b:Int}{g:GV}(ho:o.op=.binOp op t x y u)(ha:ρ x=.g (.int k a))(hb:ρ y=.g (.int k b))(hg:Rc op k a b=some g):PO P o ρ H (.g g) H:=
 jr λc ρr hr hx=>by
  have h1:=hx x (by simp[ho,Op.operands]);have h2:=hx y (by simp[ho,Op.operands]);rw[ha]at h1;rw[hb]at h2;have e1:=k6 h1;have e2:=k6 h2;refine⟨g.val,?_,?_⟩
  ·simp only[execOp,ho,e1,e2];cases op<;>simp only[Rc]at hg<;>first|(cases hg;simp[eqGuard,binOp,Op.intArith,Op.intBits,Op.intCmp,GV.val];done)|(cases hg;simp only[eqGuard,binOp,Op.intBits,fV,not_true,en];rfl)|(cases hg;done)
  cases op<;>simp only[Rc]at hg<;>cases hg<;>exact .g _ _ (by constructor)
def xy{t u:TypeId}{x:Operand}{a b:Int}(ho:o.op=.binOp .quo t x y u)(ha:ρ x=.g (.int k a))(hb:ρ y=.g (.int k b))(h0:b≠0):PO P o ρ H (.g (.int k (k.wrap (a.tdiv b)))) H:=
 jr λc ρr hr hx=>by have h1:=hx x (by simp[ho,Op.operands]);have h2:=hx y (by simp[ho,Op.operands]);rw[ha]at h1;rw[hb]at h2;have e1:=k6 h1;have e2:=k6 h2;exact⟨_,by simp only[execOp,ho,e1,e2];simp[eqGuard,binOp,Op.intDiv,h0],.g _ _ (.int _ _)⟩
def Dt{t u:TypeId}{x:Operand}{a b:Int}(ho:o.op=.binOp .rem t x y u)(ha:ρ x=.g (.int k a))(hb:ρ y=.g (.int k b))(h0:b≠0):PO P o ρ H (.g (.int k (a.tmod b))) H:=
 jr λc ρr hr hx=>by have h1:=hx x (by simp[ho,Op.operands]);have h2:=hx y (by simp[ho,Op.operands]);rw[ha]at h1;rw[hb]at h2;have e1:=k6 h1;have e2:=k6 h2;exact⟨_,by simp only[execOp,ho,e1,e2];simp[eqGuard,binOp,Op.intDiv,h0],.g _ _ (.int _ _)⟩
variable{k':IntKind}
def nW{t u:TypeId}{x:Operand}{a b:Int}(ho:o.op=.binOp .shl t x y u)(ha:ρ x=.g (.int k a))(hb:ρ y=.g (.int k' b))(h0:0<=b):PO P o ρ H (.g (.int k (k.wrap (a*2^min b.toNat k.bits)))) H:=
 jr λc ρr hr hx=>by
  have h1:=hx x (by simp[ho,Op.operands]);have h2:=hx y (by simp[ho,Op.operands]);rw[ha]at h1;rw[hb]at h2;have e1:=k6 h1;have e2:=k6 h2;have h0':¬b<0:=ab
  exact⟨_,by simp only[execOp,ho,e1,e2];simp[eqGuard,binOp,Op.shift,h0'],.g _ _ (.int _ _)⟩
def pP{t u:TypeId}{x:Operand}{a b:Int}(ho:o.op=.binOp .shr t x y u)(ha:ρ x=.g (.int k a))(hb:ρ y=.g (.int k' b))(h0:0<=b):PO P o ρ H (.g (.int k (a.fdiv (2^min b.toNat k.bits)))) H:=
 jr λc ρr hr hx=>by
  have h1:=hx x (by simp[ho,Op.operands]);have h2:=hx y (by simp[ho,Op.operands]);rw[ha]at h1;rw[hb]at h2;have e1:=k6 h1;have e2:=k6 h2;have h0':¬b<0:=ab
  exact⟨_,by simp only[execOp,ho,e1,e2];simp[eqGuard,binOp,Op.shift,h0'],.g _ _ (.int _ _)⟩
def afD{t u:TypeId}{x:Operand}{a b:ByteArray}{g:GV}(ho:o.op=.binOp op t x y u)(ha:ρ x=.g (.str a))(hb:ρ y=.g (.str b))(hg:Re op a b=some g):PO P o ρ H (.g g) H:=
 jr λc ρr hr hx=>by
  have h1:=hx x (by simp[ho,Op.operands]);have h2:=hx y (by simp[ho,Op.operands]);rw[ha]at h1;rw[hb]at h2;have e1:=za h1;have e2:=za h2;refine⟨g.val,?_,?_⟩
  ·simp only[execOp,ho,e1,e2];cases op<;>simp only[Re]at hg<;>first|(cases hg;simp[eqGuard,binOp,Op.stringOp,GV.val];done)|(cases hg;done)
  cases op<;>simp only[Re]at hg<;>cases hg<;>exact .g _ _ (by constructor)
def JH{t u:TypeId}{x:Operand}{a b:ByteArray}(ho:o.op=.binOp .add t x y u)(ha:ρ x=.g (.str a))(hb:ρ y=.g (.str b))(hs:a.size+b.size<=9223372036854775807):PO P o ρ H (.g (.str (a++b))) H:=
 jr λc ρr hr hx=>by
  have h1:=hx x (by simp[ho,Op.operands]);have h2:=hx y (by simp[ho,Op.operands]);rw[ha]at h1;rw[hb]at h2;have e1:=za h1;have e2:=za h2;have h0':¬((a.size+b.size:Nat):Int)>i64.max:=by have:i64.max=9223372036854775807:=af;omega
  exact⟨_,by simp only[execOp,ho,e1,e2];simp only[eqGuard,binOp,Op.stringOp];simp<;>omega,.g _ _ (.str _)⟩
def run_equal_bool{t:TypeId}(ht:P.underlying t=some .bool)(a b:Bool)(w:World):(Op.equal t (.bool a) (.bool b)).run P w=.ok (a==b) w:=by
 have h:∀d,(Op.equalIn (d+1) t (.bool a) (.bool b)).run P w=.ok (a==b) w:=λd=>by simp[Op.equalIn,run_underlying ht]
 exact h 9999
def afE{t u:TypeId}{x:Operand}{a b:Bool}(ho:o.op=.binOp .eql t x y u)(ht:P.underlying t=some .bool)(ha:ρ x=.g (.bool a))(hb:ρ y=.g (.bool b)):PO P o ρ H (.g (.bool (a==b))) H:=
 jr λc ρr hr hx=>by have h1:=hx x (by simp[ho,Op.operands]);have h2:=hx y (by simp[ho,Op.operands]);rw[ha]at h1;rw[hb]at h2;have e1:=yf h1;have e2:=yf h2;exact⟨.bool (a==b),by simp only[execOp,ho,e1,e2];simp[eqGuard,binOp,run_equal_bool ht],.g _ _ (.bool _)⟩
def afF{t u:TypeId}{x:Operand}{a b:Bool}(ho:o.op=.binOp .neq t x y u)(ht:P.underlying t=some .bool)(ha:ρ x=.g (.bool a))(hb:ρ y=.g (.bool b)):PO P o ρ H (.g (.bool (a !=b))) H:=
 jr λc ρr hr hx=>by have h1:=hx x (by simp[ho,Op.operands]);have h2:=hx y (by simp[ho,Op.operands]);rw[ha]at h1;rw[hb]at h2;have e1:=yf h1;have e2:=yf h2;exact⟨.bool (a !=b),by simp only[execOp,ho,e1,e2];simp[eqGuard,binOp,run_equal_bool ht,bne],.g _ _ (.bool _)⟩
def afG{t:TypeId}{x:Operand}{b:Bool}(ho:o.op=.unOp .not t x)(ha:ρ x=.g (.bool b)):PO P o ρ H (.g (.bool (!b))) H:=
 jr λc ρr hr hx=>by have h1:=hx x (by simp[ho,Op.operands]);rw[ha]at h1;exact⟨.bool (!b),by simp[execOp,ho,yf h1,Op.unary],.g _ _ (.bool _)⟩
def afH{t:TypeId}{x:Operand}{n:Int}(ho:o.op=.unOp .neg t x)(ha:ρ x=.g (.int k n)):PO P o ρ H (.g (.int k (k.wrap (0-n)))) H:=
 jr λc ρr hr hx=>by have h1:=hx x (by simp[ho,Op.operands]);rw[ha]at h1;exact⟨_,by simp[execOp,ho,k6 h1,Op.unary,Op.intArith],.g _ _ (.int _ _)⟩
def elems:PV->Option (List GV)
 |.g (.sl es)=>some es|.own es _=>some es|.lit es=>some es|.iM=>some []|_=>none
variable{es:List GV}
def tv(h:RV c p v)(he:elems p=some es):RG c.w c.jq (.sl es) v:=by unfold elems at he;split at he;cases he;cases h;assumption;cases he;cases h;assumption;cases he;cases h;assumption;cases he;cases h;exact .nil;cases he
def Qv{S:Nat->Nat->Prop}(h:RG w S (.sl es) v):∃a cap,v=.slice a es.length cap∧es.length<=cap∧cap<=maxLen∧(a=none->es=[]∧cap=0):=by
 cases h with
 |nil=>exact⟨none,0,rfl,aZ _,by unfold maxLen;omega,λ_=>⟨rfl,rfl⟩⟩|sl _ a cap size f ha hc hm hs hf hh=>exact⟨some a,cap,rfl,hc,hm,by simp⟩
def afI{x:Operand}{t:TypeId}{e:TypeId}(ho:o.op=.call {callee:=.builtin .len,args:= #[x],argTypes:= #[t]})(ht:P.underlying t=some (.slice e))(he:elems (ρ x)=some es):PO P o ρ H (.g (.int .i64 es.length)) H:=
 jr λc ρr hr hx=>by obtain⟨a,cap,hv,_⟩:=Qv (tv (hx x (by simp[ho,Op.operands,Call.operands])) he);exact⟨.int .i64 es.length,by simp[execOp,ho,resolve,invoke,builtin,Builtin.len_,hv,run_underlying ht,goInt],.g _ _ (.int _ _)⟩
variable{s:ByteArray}
def abQ{x:Operand}{t:TypeId}(ho:o.op=.call {callee:=.builtin .len,args:= #[x],argTypes:= #[t]})(ht:P.underlying t=some .string)(he:ρ x=.g (.str s)):PO P o ρ H (.g (.int .i64 s.size)) H:=
 jr λc ρr hr hx=>by have h1:=hx x (by simp[ho,Op.operands,Call.operands]);rw[he]at h1;exact⟨.int .i64 s.size,by simp[execOp,ho,resolve,invoke,builtin,Builtin.len_,za h1,run_underlying ht,goInt],.g _ _ (.int _ _)⟩
def Du{x y:Operand}{t e:TypeId}{es:List GV}{k:IntKind}{i:Int}{n:Nat}{g:GV}(ho:o.op=.indexAddr t x y)(ht:P.underlying t=some (.slice e))(hn:kZ P e=some n)(he:elems (ρ x)=some es)(hi:ρ y=.g (.int k i))
  (h0:0<=i) (hg:es[i.toNat]?=some g) (hc:g.cells.length=n):PO P o ρ H (.pat g.cells) H:=
 jr λc ρr hr hx=>by
  have h1:=tv (hx x (by simp[ho,Op.operands])) he;have h2:=hx y (by simp[ho,Op.operands]);rw[hi]at h2;have e2:=k6 h2;have iI:=(aR.1 hg).1;generalize hv:ρr x=v at h1;cases h1 with
  |nil=>simp at hg
  |sl _ a cap size f ha hcc hm hs hf hh=>
   have kl:size=n:=(by rw[<-hs i.toNat g hg,hc]);subst kl;have IL:0<=i∧i<(es.length:Int):=⟨h0,by omega⟩;have ha:=ha (by rintro rfl;simp at hg);refine⟨.pointer (some (a.add (i.toNat*size))),?_,.pat _ _ (λj=>f (i.toNat*size+j)) (oT a _ ha) ?_ (λj g' sX=>hh i.toNat g j g' hg sX)⟩;simp only[execOp,ho,hv,e2];simp[Instr.indexAt,asIntOf,run_underlying ht,IL,run_sizeOf hn]
   ·intro j hj;rw[hc]at hj;have hle:i.toNat*size+j<es.length*size:=by
     calc i.toNat*size+j<i.toNat*size+size:=ab
      _=(i.toNat+1)*size:=by rw[bB,c8]
      _<=es.length*size:=bg _ iI
    have h3:=hf _ hle;rw[add_eq a _ ha]at h3;rw[add_eq _ _ (oT a _ ha),sV,yd,ep];exact h3
def nf{x:Operand}{t:TypeId}{i:Int}{b:UInt8}(ho:o.op=.index t x y)(ht:P.underlying t=some .string)(he:ρ x=.g (.str s))(hi:ρ y=.g (.int k i))
  (h0:0<=i) (hg:s[i.toNat]?=some b):PO P o ρ H (.g (.int .u8 b.toNat)) H:=
 jr λc ρr hr hx=>by have h1:=hx x (by simp[ho,Op.operands]);have h2:=hx y (by simp[ho,Op.operands]);rw[he]at h1;rw[hi]at h2;refine⟨.int .u8 b.toNat,?_,.g _ _ (.int _ _)⟩;simp only[execOp,ho,za h1,k6 h2];simp[Instr.index,asIntOf,run_underlying ht,h0,hg]
variable{i:Nat}{ps:List PV}
def RQ{x:Operand}(ho:o.op=.extract x i)(lY:ρ x=.tuple ps)(hp:ps[i]?=some p):PO P o ρ H p H:=
 jr λc ρr hr hx=>by
  have h1:=hx x (by simp[ho,Op.operands]);rw[lY]at h1;generalize hv:ρr x=v at h1;cases h1 with
  |tuple _ vs hl hh=>
   have iI:=(aR.1 hp).1;have vy:i<vs.size:=ab;refine⟨vs[i],by simp[execOp,ho,hv,Instr.extract,vy],hh i p _ hp (by simp[vy])⟩
variable{d:Nat}
def On{s:TypeId}{x:Operand}{k:Nat}{ft:TypeId}(ho:o.op=.field s x k)(hf:vE P s k=some (d,ft))(h1:qY P ft=some false)(hc:kc (ρ x)=some cs)(ha:∃u,ρ x=.g (.agg u)∨∃u,ρ x=.agg u)(hp:cs[d]?=some p):PO P o ρ H p H:=
 jr λc ρr hr hx=>by
  have kf:=hx x (by simp[ho,Op.operands]);obtain⟨e1,e2⟩:=pN kf hc;have UL:∃vs,ρr x=.agg vs:=by
   obtain⟨u,h|⟨u,h⟩⟩:=ha<;>rw[h]at kf;generalize ρr x=v at kf;cases kf with|g _ _ hg=>cases hg;exact⟨_,rfl⟩
   generalize ρr x=v at kf;cases kf;exact⟨_,rfl⟩
  obtain⟨vs,GW⟩:=UL;rw[GW]at e1 e2;simp only[Value.cells]at e1 e2;have iI:d<vs.size:=by rw[<-e1];exact(aR.1 hp).1
  refine⟨vs[d],?_,(e2 d p _ hp (by simp[iI])).1⟩;unfold vE at hf;split at hf;rename_i fs hu;split at hf;rename_i f hff;split at hf;simp only[cg,eL]at hf;obtain⟨rfl,rfl⟩:=hf;simp[execOp,ho,GW,Instr.field,run_underlying hu,hff,asAgg,part,As h1,iI];cases hf;cases hf;cases hf
end
def tf(N:Nat)(d:Option Tmp):Bool:=match d with|some t=>Nat.blt t N|none=>true
section
variable{P:Program}{N:Nat}{all:Array Oper}{K:Env->PH->Prop}{rest:List Oper}{env:Env}{H H':PH}{v:PV}{d:Option Tmp}{op:Op}{ty:TypeId}{pos:String}{qG:Array Edge}
def Dv(h:tf N d=true):∀t,d=some t->t<N:=by intro t e;unfold tf at h;rw[e]at h;simpa[fh]using h
def Oo{g:Option (Nat×Bool)}(hg:gd all ⟨d,op,ty,pos,qG,g⟩ env=some true)(hd:tf N d=true)(h:PO P ⟨d,op,ty,pos,qG,g⟩ env.eval H v H')(k:jQ P N all K rest (qE env d v) H'):
  jQ P N all K (⟨d,op,ty,pos,qG,g⟩::rest) env H:=by
 refine⟨Dv hd,?_⟩;rw[hg];exact⟨v,H',h,k⟩
def Oq(h:K env H):jQ P N all K [] env H:=h
def Ot{t:Tmp}:Gb P env H (.tmp t)=some (env t):=rfl
def Ou{a:Tmp}{t:TypeId}{n b off:Nat}{cs:List PV}(h1:qY P t=some true)(h2:kZ P t=some n)(ha:env a=.ptr b off)(hb:H.bx[b]?=some cs)(hl:off+n<=cs.length):
  Gb P env H (.cell a t)=some (.agg ((cs.drop off).take n)):=by simp[Gb,h1,h2,ha,hb,hl]
def JI:tS P env H []=some []:=rfl
def HS{r:ResultVar}{rs:List ResultVar}{p:PV}{ps:List PV}(h:Gb P env H r=some p)(hs:tS P env H rs=some ps):tS P env H (r::rs)=some (pack p::ps):=by simp[tS,h,hs]
def JJ:zX P env H []=some []:=rfl
def HT{r:ResultVar}{rs:List ResultVar}{p:PV}{ps:List PV}(h:Gb P env H r=some p)(hs:zX P env H rs=some ps):zX P env H (r::rs)=some (p::ps):=by simp[zX,h,hs]
variable{rs:List ResultVar}{ps:List PV}{H2:PH}
def CW(hs:tS P env H2 rs=some ps)(hv:IJ ps=v)(hc:lu 0 0 0 v)(he:e=.normal∨e=.ret:=by first|exact .inl rfl|exact .inr rfl):
  JF P rs ⟨[],[],[]⟩ v ⟨[],[],[]⟩ e env H2:=
 ⟨he,ps,.inl hs,hv,⟨_,rfl⟩,⟨_,rfl⟩,⟨_,rfl⟩,aZ _,aZ _,aZ _,hc,by simp⟩
end
section
variable{P:Program}{c:Ctx}{H:PH}
variable{o':MO}
def Rel.FZ(hr:Rel P c H){id:Nat}{t t':oZ}(ht:c.μ[id]?=some t)(kl:t'.size=t.size)(hd:t'=t∨t.gen<t'.gen)
  (hos:w'.os=c.w.os) (W6:w'.tape=c.w.tape∧(xv->c.w.drawn<=w'.drawn)) (aeP:w'.output=c.w.output) (wY:c.w.heap.size<=w'.heap.size)
  (hblk:∀b,b<c.w.heap.size->(t.live=true->b≠t.g)->w'.heap[b]?=c.w.heap[b]?)
  (hg:t'.live=true->(t.live=true∧t'.g=t.g)∨(c.w.heap.size<=t'.g∧t'.g<w'.heap.size))
  (hmo:kI c ⟨c.σ,c.τ,c.μ.set id t',c.hid,w'⟩->yO P ⟨c.σ,c.τ,c.μ.set id t',c.hid,w'⟩ t' o'):
  Rel P ⟨c.σ,c.τ,c.μ.set id t',c.hid,w'⟩ ⟨H.bx,H.tk,H.mu.set id o'⟩∧kI c ⟨c.σ,c.τ,c.μ.set id t',c.hid,w'⟩:=by
 have hid:=(aR.1 ht).1;have su:=aY ht;have qz:∀t2∈c.μ.set id t',t2=t'∨∃k,k≠id∧c.μ[k]?=some t2:=by intro t2 h2;obtain⟨k,hk⟩:=bt h2;by_cases e:k=id;subst e;rw[bZ hid]at hk;cases hk;exact .inl rfl;rw[bP (λe'=>e e'.symm)]at hk;exact .inr ⟨k,e,hk⟩
 have hE:kI c ⟨c.σ,c.τ,c.μ.set id t',c.hid,w'⟩:=by
  refine⟨hos,W6,aeP,wY,rfl,⟨[],by simp,by simp⟩,λid t ht=>⟨t,ht,rfl,rfl,.inl rfl⟩,?_,?_,λt ht lv=>.inl ⟨t,ht,lv,rfl⟩,?_,?_⟩;intro k t2 h2;by_cases e:k=id;subst e;rw[ht]at h2;cases h2;exact⟨t',by simp[hid],kl,hd⟩;exact⟨t2,by show(c.μ.set id t')[k]?=_;rw[bP (λe'=>e e'.symm)];exact h2,rfl,.inl rfl⟩
  ·intro t2 h2 lv;rcases qz t2 h2 with rfl|⟨k,hk,n9⟩
   ·rcases hg lv with⟨l1,g1⟩|g1
    exact .inl ⟨t,su,l1,g1.symm⟩;exact .inr g1.1
   exact .inl ⟨t2,aY n9,lv,rfl⟩
  ·intro a v Bt hs oc;have lr:=World.block_lt_of_cell? c.w a oc;refine⟨?_,hs.1,hs.2.1,hs.2.2.1,λt2 h2 lv e=>?_⟩;rw[<-oc];exact World.cell?_of_block (hblk a.block lr λl e'=>hs.2.2.2 t su l e'.symm)
   ·rcases qz t2 h2 with rfl|⟨k,hk,n9⟩
    ·rcases hg lv with⟨l1,g1⟩|g1
     exact hs.2.2.2 t su l1 (g1.symm.trans e);omega
    exact hs.2.2.2 t2 (aY n9) lv e
  intro b hb _ _ h4;exact hblk b hb λl e=>h4 t su l e.symm
 have hσ:∀b∈c.σ,w'.heap[b]?=c.w.heap[b]? :=λb hb=>hblk b (hr.pB b hb) λl e=>hr.ms t su l (e▸hb);have hτ:∀t2∈c.τ,t2.live=true->w'.heap[t2.g]?=c.w.heap[t2.g]? :=λt2 h2 lv=>hblk t2.g (hr.Bd h2 lv) λl e=>hr.mt t su l t2 h2 lv e.symm;have oI:∀k t2,k≠id->c.μ[k]?=some t2->t2.live=true->w'.heap[t2.g]?=c.w.heap[t2.g]? :=λk t2 hk n9 lv=>
  hblk t2.g (hr.mlt t2 (aY n9) lv) λl e=>hk (hr.md k id t2 t n9 ht lv l e)
 refine⟨⟨hr.len,?_,hr.tk,?_,hr.nd,hr.td,hr.st,λb p h=>bX (hr.nu b p h) wY,hr.tG,λb hb=>bX (hr.pB b hb) wY,hr.dead,?_,?_,?_,?_,?_,?_,?_,hr.gl.kF hE.kF⟩,hE⟩;intro i b cs hb kR;obtain⟨jJ,T,e1,e2,e3⟩:=hr.bx i b cs hb kR;exact⟨jJ,T,(hσ b (aY hb)).trans e1,e2,λj p v hp hv=>⟨(e3 j p v hp hv).1.mono hE,(e3 j p v hp hv).2⟩⟩;intro t2 h2 lv;obtain⟨cur,e1,e2⟩:=hr.tb t2 h2 lv;exact⟨cur,(hτ t2 h2 lv).trans e1,e2⟩;show(c.μ.set id t').length=(H.mu.set id o').length;simp[hr.nq];intro i t2 o h2 ho;replace h2:(c.μ.set id t')[i]?=some t2:=h2;replace ho:(H.mu.set id o')[i]?=some o:=ho;by_cases e:i=id;subst e;rw[bZ hid]at h2;rw[bZ (by rw[<-hr.nq];exact hid)]at ho;cases h2;cases ho;exact hmo hE;rw[bP (λe'=>e e'.symm)]at h2 ho;exact(hr.mu i t2 o h2 ho).mono hE λlv=>oI i t2 e h2 lv
 ·intro t2 h2 lv;rcases qz t2 h2 with rfl|⟨k,hk,n9⟩
  ·rcases hg lv with⟨l1,g1⟩|g1
   rw[g1];exact bX (hr.mlt t su l1) wY;exact g1.2
  exact bX (hr.mlt t2 (aY n9) lv) wY
 ·intro i j t1 t2 hi hj l1 l2 e;replace hi:(c.μ.set id t')[i]?=some t1:=hi;replace hj:(c.μ.set id t')[j]?=some t2:=hj;by_cases ei:i=id<;>by_cases ej:j=id;omega
  ·subst ei;rw[bZ hid]at hi;rw[bP (λe'=>ej e'.symm)]at hj;cases hi;rcases hg l1 with⟨lv,g1⟩|g1
   exact hr.md _ j t t2 ht hj lv l2 (g1.symm.trans e);have:=hr.mlt t2 (aY hj) l2;omega
  ·subst ej;rw[bZ hid]at hj;rw[bP (λe'=>ei e'.symm)]at hi;cases hj;rcases hg l2 with⟨lv,g1⟩|g1
   exact hr.md i _ t1 t hi ht l1 lv (e.trans g1);have:=hr.mlt t1 (aY hi) l1;omega
  rw[bP (λe'=>ei e'.symm)]at hi;rw[bP (λe'=>ej e'.symm)]at hj;exact hr.md i j t1 t2 hi hj l1 l2 e
 ·intro t2 h2 lv hm;rcases qz t2 h2 with rfl|⟨k,hk,n9⟩
  ·rcases hg lv with⟨l1,g1⟩|g1
   exact hr.ms t su l1 (g1▸hm);have:=hr.pB _ hm;omega
  exact hr.ms t2 (aY n9) lv hm
 ·intro t2 h2 lv t3 h3 S5 e;rcases qz t2 h2 with rfl|⟨k,hk,n9⟩
  ·rcases hg lv with⟨l1,g1⟩|g1
   exact hr.mt t su l1 t3 h3 S5 (g1.symm.trans e);have:=hr.Bd h3 S5;omega
  exact hr.mt t2 (aY n9) lv t3 h3 S5 e
 ·intro t2 h2 lv p hp;rcases qz t2 h2 with rfl|⟨k,hk,n9⟩
  ·rcases hg lv with⟨l1,g1⟩|g1
   exact hr.sW t su l1 p (g1▸hp);have:=hr.nu _ _ hp;omega
  exact hr.sW t2 (aY n9) lv p hp
end
def v8:GV->GV->Option Bool
 |.int k a,.int k' b=>if k=k' then some (a==b)else none|.str s,.str s'=>some (s==s')|.bool a,.bool b=>some (a==b)|_,_=>none
def xz:TypeDesc->GV->Bool
 |.int _,.int _ _=>true|.string,.str _=>true|.bool,.bool _=>true|_,_=>false
def RR{a b:GV}{x:Bool}(h:v8 a b=some x):v8 b a=some x:=by
 cases a<;>cases b<;>simp only[v8]at h⊢ <;>first|cases h|skip
 rename_i k a k' b;split at h;rename_i e;subst e;rw[aW rfl,Bool.beq_comm];exact h;cases h;rw[Bool.beq_comm]
 ·rename_i s s';have e:(s'==s)=(s==s'):=by
   show(s'.data==s.data)=(s.data==s'.data);rw[gG,bQ,bQ,eq_comm]
  rw[e]
def RS{d:TypeDesc}{g g':GV}{S:Nat->Nat->Prop}{v':Value}{b:Bool}(hf:xz d g=true)(h:v8 g g'=some b)(hv:RG w S g v)(pr:RG w S' g' v'):Instr.sameNow d v v'=some b:=by
 cases g<;>cases g'<;>simp only[v8]at h<;>first|cases h|skip
 all_goals(cases hv;cases pr;cases d<;>simp only[xz]at hf<;>first|cases hf|skip)
 simpa[Instr.sameNow]using h;rfl;rfl
def mj(k:GV):List (GV×GV)->Option (Option GV)
 |[]=>some none
 |e::r=>match v8 k e.1,mj k r with
  |some true,some none=>some (some e.2)|some false,x=>x|_,_=>none
def Dw{k:GV}{es o8:List (GV×GV)}(h:es.Perm o8):mj k es=mj k o8:=by
 induction h with
 |nil=>rfl|cons x _ ih=>simp only[mj,ih]
 |swap x y l=>
  simp only[mj];cases v8 k x.1 with
  |none=>cases v8 k y.1 with
   |none=>rfl|some b=>cases b<;>rfl
  |some a=>cases v8 k y.1 with
   |none=>cases a<;>rfl
   |some b=>cases a<;>cases b<;>(try rfl)<;>cases mj k l with
    |none=>rfl|some z=>cases z<;>rfl
 |trans _ _ h1 h2=>exact h1.trans h2
def uH{k:GV}:∀{es:List (GV×GV)},mj k es=some none↔ ∀e∈es,v8 k e.1=some false
 |[]=>by simp[mj]
 |e::r=>by
  simp only[mj,bN,forall_eq_or_imp];cases v8 k e.1 with
  |none=>simp
  |some b=>cases b with
   |false=>simp[uH (es:=r)]
   |true=>
    simp only[cg,Bool.true_eq_false,false_and,iff_false];cases mj k r with
    |none=>simp|some z=>cases z<;>simp
def B0{d:TypeDesc}{k:GV}{kv:Value}{w:World}{S:Nat->Nat->Prop}(hf:xz d k=true)(hk:RG w S k kv):∀(es:List (GV×GV)) (n5:List MapEntry) (i:Nat),es.length=n5.length->
  (∀(j:Nat) (e:GV×GV) (n:MapEntry),es[j]?=some e->n5[j]?=some n->RG w S e.1 n.key∧RG w S e.2 n.val)->
  (mj k es=some none->Instr.findNow d kv n5 i=some none)∧∀g,mj k es=some (some g)->∃j val,Instr.findNow d kv n5 i=some (some (j,val))∧RG w S g val
 |[],[],i,_,_=>⟨λ_=>rfl,λg h=>by simp[mj]at h⟩|[],n::r,i,hl,_=>by simp at hl|e::es,[],i,hl,_=>by simp at hl
 |e::es,n::n5,i,hl,h=>by
  obtain⟨h1,h2⟩:=h 0 e n rfl rfl;obtain⟨i1,i2⟩:=B0 hf hk es n5 (i+1) (by simpa using hl) λj e n he hn=>h (j+1) e n (by simpa using he) (by simpa using hn);simp only[mj,Instr.findNow];cases hq:v8 k e.1 with
  |none=>simp
  |some b=>
   rw[RS hf hq hk h1];cases b with
   |false=>exact⟨λq=>i1 q,λg q=>i2 g q⟩
   |true=>
    constructor
    ·cases mj k es with
     |none=>simp|some z=>cases z<;>simp
    ·intro g q;cases hr:mj k es with
     |none=>rw[hr]at q;cases q
     |some z=>
      rw[hr]at q;cases z with
      |none=>cases q;exact⟨i,n.val,rfl,h2⟩|some _=>cases q
def ahC:MO->MO->Prop
 |.map es,.map o8=>es.Perm o8|a,b=>a=b
variable{o':MO}
def yO.perm{t:oZ}{o:MO}(h:yO P c t o)(he:ahC o o'):yO P c t o':=by
 cases o with
 |gone n=>have:MO.gone n=o':=he;exact this▸h|arr n e es=>have:MO.arr n e es=o':=he;exact this▸h|iter n s pos=>have:MO.iter n s pos=o':=he;exact this▸h
 |map es=>
  cases o' with
  |gone n=>have:MO.map es=MO.gone n:=he;cases this|arr n e o8=>have:MO.map es=MO.arr n e o8:=he;cases this|iter n s pos=>have:MO.map es=MO.iter n s pos:=he;cases this
  |map o8=>
   have hp:es.Perm o8:=he;obtain⟨h1,lv,n5,HU,UM,a1,a2,a3⟩:=h;exact⟨h1,lv,n5,HU,hp.symm.trans UM,a1,a2,a3⟩
structure ahD(H H':PH):Prop where
 bx:H.bx=H'.bx
 tk:H.tk=H'.tk
 len:H.mu.length=H'.mu.length
 mu:∀(i:Nat) (o o':MO),H.mu[i]?=some o->H'.mu[i]?=some o'->ahC o o'
def Rel.perm{P:Program}{c:Ctx}{H H':PH}(hr:Rel P c H)(h:ahD H H'):Rel P c H':=by
 obtain⟨bx,tk,mu⟩:=H;obtain⟨bx',tk',mu'⟩:=H';obtain⟨h1,h2,h3,h4⟩:=h;subst h1;subst h2;refine⟨hr.len,hr.bx,hr.tk,hr.tb,hr.nd,hr.td,hr.st,hr.nu,hr.tG,hr.pB,hr.dead,hr.nq.trans h3,λi t o' hi zG=>?_,hr.mlt,hr.md,hr.ms,hr.mt,hr.sW,hr.gl⟩;have iI:i<mu.length:=by have:=(aR.1 zG).1;simp only at h3 this;omega
 exact(hr.mu i t mu[i] hi (aS iI)).perm (h4 i _ o' (aS iI) zG)
structure Ins where
 id:Nat
 k:GV
 v:GV
def Ins.ap(x:Ins)(H:PH):PH:=match H.mu[x.id]? with
 |some (.map es)=>⟨H.bx,H.tk,H.mu.set x.id (.map (es++[(x.k,x.v)]))⟩|_=>H
def W7(P:Program)(o:Oper)(ρ:Operand->PV)(x:Ins):Prop:=
 ∃(t:TypeId) (m key val:Operand) (kt et:TypeId) (d:TypeDesc),o.op=.insert t m key val∧P.underlying t=some (.map kt et)∧P.underlying kt=some d∧xz d x.k=true∧ρ m=.mp x.id∧ρ key=.g x.k∧ρ val=.g x.v
def oG{kt:TypeId}{d:TypeDesc}{k:GV}{S:Nat->Nat->Prop}(hu:P.underlying kt=some d)(hf:xz d k=true)(hk:RG w S k v)(b:Bool)(n:Nat)(w':World):(Instr.checkKey b (n+1) kt v).run P w'=.ok () w':=by
 cases d<;>simp only[xz]at hf<;>first|cases hf|skip
 all_goals(cases k<;>simp only[xz]at hf<;>first|cases hf|skip)
 all_goals(cases hk;simp[Instr.checkKey,Sem.run_bind,run_underlying hu])
def p9{kt:TypeId}{d:TypeDesc}{es:List MapEntry}{r:Option (Nat×Value)}(hu:P.underlying kt=some d)(h:Instr.findNow d v es 0=some r)(w:World):(Instr.findKey kt v es).run P w=.ok r w:=by simp[Instr.findKey,Sem.run_bind,run_underlying hu,h]
def XA{ρ:Operand->PV}{x:Ins}{es:List (GV×GV)}(ho:W7 P o ρ x)(hm:H.mu[x.id]?=some (.map es))(hfr:mj x.k es=some none):PO P o ρ H mW (x.ap H):=by
 obtain⟨t,m,key,val,kt,et,d,pQ,ht,MX,hf,e1,e2,e3⟩:=ho;intro c ρr hr oH;have x1:=oH m (by simp[pQ,Op.operands]);have x2:=oH key (by simp[pQ,Op.operands]);have x3:=oH val (by simp[pQ,Op.operands]);rw[e1]at x1;rw[e2]at x2;rw[e3]at x3;have hid:x.id<c.μ.length:=by rw[hr.nq];exact(aR.1 hm).1
 have lR:=aS hid;generalize c.μ[x.id]=tk at lR;obtain⟨g0,lv,n5,o8,hp,a1,a2,a3⟩:=hr.mu x.id tk _ lR hm;cases x1 with
 |mp _ mv t' kp h1 hv=>
 rw[lR]at kp;cases kp;have hmv:=hv g0;cases x2 with
 |g _ kv S6=>
 cases x3 with
 |g _ vv MY=>
 have Dx:=(B0 hf S6 o8 n5.toList 0 (by simp[a2]) (λj e n he hn=>by obtain⟨k1,k2,_⟩:=a3 j e.1 e.2 n he (by simpa using hn);exact⟨k1,k2⟩)).1 ((Dw hp).symm.trans hfr);generalize hkr:ρr key=kr at S6 Dx;generalize hvr:ρr val=vr at MY;have hblk:c.w.heap.size>tk.g:=hr.mlt tk (aY lR) lv;have kX:(execOp ρr o).run P c.w=.ok .skip {c.w with heap:=c.w.heap.setIfInBounds tk.g (.map (n5.push {key:=kr,val:=vr,born:=n5.size}) (n5.size+1))}:=by simp[execOp,pQ,hmv,hkr,hvr,Instr.mapUpdate,Sem.run_bind,run_underlying ht,MapKept.run_getObj_map a1,oG MX hf S6,p9 MX Dx,MapKept.run_setObj_map _ a1]
 unfold kU;rw[kX];have hap:x.ap H=⟨H.bx,H.tk,H.mu.set x.id (.map (es++[(x.k,x.v)]))⟩:=by unfold Ins.ap;rw[hm]
 have lG:c.μ.set x.id tk=c.μ:=by rw[aR]at lR;obtain⟨_,rfl⟩:=lR;simp
 have hh:=hr.FZ (o':=.map (es++[(x.k,x.v)])) lR rfl (.inl rfl) (w':={c.w with heap:=c.w.heap.setIfInBounds tk.g (.map (n5.push {key:=kr,val:=vr,born:=n5.size}) (n5.size+1))}) rfl ⟨rfl,λ_=>by first|exact aZ _|exact fc _⟩ rfl aa
  (λb hb js=>by simp[fE,(js lv).symm]) (λlv=>.inl ⟨lv,rfl⟩) (λhE=>?_)
 rw[lG]at hh;exact⟨_,rfl,hap▸hh.1,hh.2,.g _ _ (.raw _)⟩
 ·refine⟨g0,lv,n5.push {key:=kr,val:=vr,born:=n5.size},o8++[(x.k,x.v)],List.Perm.append hp (List.Perm.refl _),?_,by simp[a2],λi k v n hk hn=>?_⟩;simp[fE,hblk]
  ·by_cases hi:i<o8.length;rw[a8 hi]at hk;rw[Array.getElem?_push,aV ab]at hn;obtain⟨k1,k2,k3⟩:=a3 i k v n hk hn;exact⟨k1.mono hE.kF,k2.mono hE.kF,k3⟩
   ·rw[a7 ab]at hk;have BF:i-o8.length=0:=by
     have:=(aR.1 hk).1;simp at this;omega
    rw[BF]at hk;simp only[gi,cg,eL]at hk;obtain⟨rfl,rfl⟩:=hk;have hie:i=n5.size:=ab;rw[Array.getElem?_push,aW hie]at hn;cases hn;exact⟨S6.mono hE.kF,MY.mono hE.kF,hie.symm⟩
def Rf(P:Program)(t:TypeId):Option IntKind:=match P.underlying t with|some (.int k)=>some k|_=>none
def oV(P:Program):Op->Nat
 |.move _|.assign _|.pick .. |.fieldAddr .. |.field .. |.unOp .. |.binOp .. |.extract .. |.indexAddr .. |.index .. |.slice .. |.nilCheck _|.makeFunc .. |.build .. |.buildSlice .. =>0
 |.load .. =>1
 |.call {callee:=.builtin .len,.. }|.call {callee:=.builtin .cap,.. }|.call {callee:=.builtin .min,.. }|.call {callee:=.builtin .max,.. }=>0
 |.convert _ dst _=>match P.underlying dst with|some (.slice _)|none=>2|_=>0
 |.store .. =>3|.insert .. =>4|_=>2
def frD(K:List Nat):Option Tmp->Bool
 |some d=>K.any λk=>Nat.beq k (30000+d)
 |none=>false
def zH(K:List Nat)(o:Oper):Bool:=match o.op with|.load .. =>frD K o.dst|.call .. =>frD K o.dst|_=>false
def XB(K:List Nat)(d:Tmp):Bool:=K.any λk=>Nat.beq k (40000+d)
def ve(K:List Nat)(o:Oper):Option Tmp:=match o.op with|.alloc _=>(match o.dst with|some d=>bif XB K d then some d else none|none=>none)|_=>none
def sB(K:List Nat)(o:Oper):Option Tmp:=match o.op with|.store _ (.tmp x) _=>bif XB K x then some x else none|_=>none
def l7(K:List Nat)(o:Oper):Option Tmp:=match sB K o with|some x=>some x|none=>o.dst
def JK(K:List Nat)(o:Oper):Bool:=match o.op with|.call {callee:=.value _,.. }=>(match o.dst with|some d=>K.any λk=>Nat.beq k (35000+d)|none=>false)|_=>false
def jc(P:Program)(K:List Nat)(o:Oper):Nat:=match ve K o with|some _=>0|none=>match sB K o with|some _=>2|none=>bif zH K o then 0 else bif JK K o then 3 else oV P o.op
def yQ(x:Option Tmp):Bool:=match x with|none=>true|some _=>false
def Av{x:Option Tmp}(h:yQ x=true):x=none:=by cases x with|none=>rfl|some _=>cases h
def JL(K:List Nat)(o:Oper):Bool:=yQ (ve K o)&&(yQ (sB K o)&&(!zH K o&& !JK K o))
variable{K:List Nat}
def wZ(h:JL K o=true):ve K o=none∧sB K o=none∧zH K o=false:=by simp only[JL,bI,c9]at h;exact⟨Av h.1,Av h.2.1,h.2.2.1⟩
def afM(h:JL K o=true):JK K o=false:=by simp only[JL,bI,c9]at h;exact h.2.2.2
def Ov(h:oV P o.op≠2):JK K o=false:=by unfold JK;split;rename_i ho;rw[ho]at h;exact absurd rfl h;rfl
def Qw(h:JK K o=true):ve K o=none∧sB K o=none:=by unfold JK at h;unfold ve sB;split at h;rename_i ho;rw[ho];exact⟨rfl,rfl⟩;cases h
def YP(h:JK K o=true)(hf:zH K o=false):jc P K o=3:=by obtain⟨h1,h2⟩:=Qw h;simp[jc,h,h1,h2,hf]
variable{n:Nat}
def Hm(h:JL K o=true)(hk:oV P o.op=n):jc P K o=n:=by obtain⟨h1,h2,h3⟩:=wZ h;unfold jc;rw[h1,h2,h3,afM h];exact hk
def zI(h:oV P o.op≠2):ve K o=none:=by unfold ve;split;rename_i ho;rw[ho]at h;exact absurd rfl h;rfl
def w6(h:oV P o.op≠3):sB K o=none:=by unfold sB;split;rename_i ho;rw[ho]at h;exact absurd rfl h;rfl
def Bf(h:zH K o=true):ve K o=none∧sB K o=none:=by unfold zH at h;unfold ve sB;split at h;rename_i ho;rw[ho];exact⟨rfl,rfl⟩;rename_i ho;rw[ho];exact⟨rfl,rfl⟩;cases h
def B3(h:zH K o=true):jc P K o=0:=by obtain⟨h1,h2⟩:=Bf h;simp[jc,h,h1,h2]
def HV(h:oV P o.op=0):jc P K o=0:=by unfold jc;rw[zI (P:=P) ab,w6 (P:=P) ab,Ov (P:=P) ab];cases zH K o<;>simp[h]
def UN(h:oV P o.op=1)(hf:zH K o=false):JL K o=true:=by unfold JL;rw[zI (P:=P) ab,w6 (P:=P) ab,hf,Ov (P:=P) ab];rfl
def tmpsOf(o:Oper):List Tmp:=o.op.operands.toList.filterMap fun|.tmp t=>some t|_=>none
def looks(all:List Oper)(o:Oper):List Tmp:=tmpsOf o++(match o.guard with|some (g,_)=>((all[g]?).bind (·.dst)).toList|none=>[])
def nv:List Tmp->Tmp->Bool
 |[],_=>false|a::r,t=>bif Nat.beq t a then true else nv r t
def nQ:∀{l:List Tmp} {t:Tmp},nv l t=true↔t∈l
 |[],t=>by simp[nv]
 |a::r,t=>by
  unfold nv;cases e:Nat.beq t a with
  |true=>simp[bl e]
  |false=>
   have:t≠a:=λh=>(by rw[h,fk]at e;cases e);simp[this,nQ (l:=r)]
def GY(l:List Tmp):Option Tmp->Bool|some t=>nv l t|none=>false
def W8:Option Tmp->Option Tmp->Bool|some s,some t=>Nat.beq s t|_,_=>false
def xA(P:Program)(K:List Nat)(all:List Oper)(x y:Oper):Bool:=
 GY (looks all y) (l7 K x)||GY (looks all x) (l7 K y)||W8 (l7 K x) (l7 K y)||
 (Nat.ble 2 (jc P K x)&&Nat.ble 2 (jc P K y)&& !(Nat.beq (jc P K x) 4&&Nat.beq (jc P K y) 4))||(Nat.beq 1 (jc P K x)&&Nat.beq 3 (jc P K y))||(Nat.beq 3 (jc P K x)&&Nat.beq 1 (jc P K y))
def chunk(W n t:Nat):Nat:=(n>>>(t*W))%2^W
def mask(W bf:Nat):List Edge->Nat->Nat
 |[],s=>s|e::r,s=>bif Region.binds .any e then mask W bf r (s ||| (2^e.on ||| chunk W bf e.on))else mask W bf r s
def F0(W n:Nat):List Tmp->Nat->Nat
 |[],s=>s|t::r,s=>F0 W n r (s ||| chunk W n t)
def Dy(W j:Nat):List Tmp->Nat->Nat
 |[],s=>s|t::r,s=>Dy W j r (s ||| 2^(t*W+j))
def UO(W wr rd c ld st c2:Nat)(ls:List Tmp)(d:List Tmp)(k:Nat):Nat:=
 F0 W wr ls 0 ||| (F0 W rd d 0 ||| (F0 W wr d 0 ||| ((bif Nat.ble 2 k then(bif Nat.beq k 4 then c2 else c)else 0) ||| ((bif Nat.beq k 3 then ld else 0) ||| (bif Nat.beq k 1 then st else 0)))))
def JM(P:Program)(K:List Nat)(W:Nat)(all:List Oper):List Oper->Nat->(wr rd bf c ld st c2:Nat)->Bool
 |[],_,_,_,_,_,_,_,_=>true
 |y::r,j,wr,rd,bf,c,ld,st,c2=>
  Nat.blt j W&&(y.after.toList.all (λe=> !Region.binds .any e||Nat.blt e.on j)&&
  (Nat.beq (Nat.land (UO W wr rd c ld st c2 (looks all y) (l7 K y).toList (jc P K y)) (mask W bf y.after.toList 0)) (UO W wr rd c ld st c2 (looks all y) (l7 K y).toList (jc P K y))&&
  JM P K W all r (j+1) (Dy W j (l7 K y).toList wr) (Dy W j (looks all y) rd) (bf ||| (mask W bf y.after.toList 0%2^W)<<<(j*W))
   (bif Nat.ble 2 (jc P K y)then c ||| 2^j else c) (bif Nat.beq (jc P K y) 1 then ld ||| 2^j else ld) (bif Nat.beq (jc P K y) 3 then st ||| 2^j else st)
   (bif Nat.ble 2 (jc P K y)&& !Nat.beq (jc P K y) 4 then c2 ||| 2^j else c2)))
def isDst(K:List Nat)(x:Tmp)(o:Oper):Bool:=match l7 K o with|some d=>Nat.beq d x|none=>false
def Rh(x:Tmp):List Oper->Bool
 |[a,b]=>match a.op,b.op with
  |.alloc t,.store t' (.tmp x') _=>Nat.beq t t'&&(Nat.beq x' x&&(W9 a.guard&&(W9 b.guard&&yQ b.dst)))|_,_=>false
 |_=>false
where W9:Option (Nat×Bool)->Bool|none=>true|some _=>false
def XC(K:List Nat)(all:List Oper):Bool:=K.all λk=> !Nat.ble 40000 k||Rh (k-40000) (all.filter (isDst K (k-40000)))
def uI(P:Program)(K:List Nat)(all:List Oper):Bool:=JM P K all.length all all 0 0 0 0 0 0 0 0&&XC K all
section
def lf(all:List Oper)(S:Nat->Prop):Prop:= ∀j o,all[j]?=some o->S j->∀e∈o.after,Region.binds .any e=true->S e.on
def JN(W n t i:Nat):(chunk W n t).testBit i=(decide (i<W)&&n.testBit (t*W+i)):=by simp[chunk,Nat.testBit_mod_two_pow,Nat.testBit_shiftRight]
def abR(k i:Nat):(2^k).testBit i=decide (k=i):=Nat.testBit_two_pow
def En{W bf:Nat}{S:Nat->Prop}:∀(l:List Edge) (s:Nat),(∀e∈l,Region.binds .any e=true->S e.on∧∀i,i<W->bf.testBit (e.on*W+i)=true->S i)->(∀i,s.testBit i=true->S i)->∀i,(mask W bf l s).testBit i=true->S i
 |[],s,_,hs,i,h=>hs i h
 |e::r,s,hl,hs,i,h=>by
  unfold mask at h;cases hb:Region.binds .any e with
  |false=>rw[hb,de]at h;exact En r s (λe he=>hl e (by simp[he])) hs i h
  |true=>
   rw[hb,cr]at h;refine En r _ (λe he=>hl e (by simp[he])) (λi hi=>?_) i h;obtain⟨h1,h2⟩:=hl e aa hb;simp only[eC,abR,JN,gT,bI,cX]at hi;rcases hi with hi|rfl|⟨hi,hj⟩
   exact hs i hi;exact h1;exact h2 i hi hj
def HW{W n i:Nat}:∀(l:List Tmp) (s:Nat),s.testBit i=true->(F0 W n l s).testBit i=true
 |[],_,h=>h|t::r,s,h=>HW r _ (by simp[eC,h])
def yA{W n i t:Nat}(hi:i<W)(hn:n.testBit (t*W+i)=true):∀(l:List Tmp) (s:Nat),t∈l->(F0 W n l s).testBit i=true
 |[],_,h=>by simp at h
 |u::r,s,h=>by
  unfold F0;rcases bN.1 h with rfl|h
  exact HW r _ (by simp[eC,JN,hi,hn]);exact yA hi hn r _ h
def wF{W j i:Nat}:∀(l:List Tmp) (s:Nat),s.testBit i=true->(Dy W j l s).testBit i=true
 |[],_,h=>h|t::r,s,h=>wF r _ (by simp[eC,h])
def Al{W j t:Nat}:∀(l:List Tmp) (s:Nat),t∈l->(Dy W j l s).testBit (t*W+j)=true
 |[],_,h=>by simp at h
 |u::r,s,h=>by
  unfold Dy;rcases bN.1 h with rfl|h
  exact wF r _ (by simp[eC]);exact Al r _ h
def Fs{l:List Tmp}{d:Option Tmp}(h:GY l d=true):∃t,d=some t∧t∈l:=by
 cases d with
 |none=>cases h|some t=>exact⟨t,rfl,nQ.1 h⟩
structure alC(P:Program)(K:List Nat)(W:Nat)(all:List Oper)(j wr rd bf c ld st c2:Nat):Prop where
 hwr:∀i x t,i<j->all[i]?=some x->l7 K x=some t->wr.testBit (t*W+i)=true
 hrd:∀i x t,i<j->all[i]?=some x->t∈looks all x->rd.testBit (t*W+i)=true
 hbf:∀S,lf all S->∀k,k<j->S k->∀i,i<W->bf.testBit (k*W+i)=true->S i
 hbz:∀p,j*W<=p->bf.testBit p=false
 hc:∀i x,i<j->all[i]?=some x->2<=jc P K x->c.testBit i=true
 hld:∀i x,i<j->all[i]?=some x->jc P K x=1->ld.testBit i=true
 lT:∀i x,i<j->all[i]?=some x->jc P K x=3->st.testBit i=true
 rh:∀i x,i<j->all[i]?=some x->2<=jc P K x->jc P K x≠4->c2.testBit i=true
def Ft{P:Program}{K:List Nat}{W:Nat}{all:List Oper}:∀(l:List Oper) (j wr rd bf c ld st c2:Nat),(∀k,l[k]?=all[j+k]?)->alC P K W all j wr rd bf c ld st c2->JM P K W all l j wr rd bf c ld st c2=true->
  ∀k y,j<=k->all[k]?=some y->(∀e∈y.after,Region.binds .any e=true->e.on<k)∧∀S,lf all S->∀i x,i<k->all[i]?=some x->xA P K all x y=true->S k->S i
 |[],j,_,_,_,_,_,_,_,hl,_,_,k,y,hk,hy=>by have:=hl (k-j);rw[show j+(k-j)=k by omega,hy]at this;simp at this
 |y0::r,j,wr,rd,bf,c,ld,st,c2,hl,hI,h,k,y,hk,hy=>by
  simp only[JM,bI]at h;obtain⟨hjW,nw,ajw,I0⟩:=h;have aqV:j<W:=by simpa[fh]using hjW
  have Dz:all[j]?=some y0:=by simpa using(hl 0).symm
  have hon:∀e∈y0.after,Region.binds .any e=true->e.on<j:=λe he hb=>by have:=cY.1 nw e (by simpa using he);rw[hb]at this;simpa[fh]using this
  have adx:∀S,lf all S->S j->∀i,(mask W bf y0.after.toList 0).testBit i=true->S i:=λS hS hSj=>
   En _ 0 (λe he hb=>by have h1:=hS j y0 Dz hSj e (by simpa using he) hb;exact⟨h1,λi hi qc=>hI.hbf S hS e.on (hon e (by simpa using he) hb) h1 i hi qc⟩) aa
  by_cases e:k=j
  ·subst e;rw[Dz]at hy;cases hy;refine⟨hon,λS hS i x hi hx hc hk=>adx S hS hk i ?_⟩;have hiW:i<W:=ab;have hm:(UO W wr rd c ld st c2 (looks all y0) (l7 K y0).toList (jc P K y0)).testBit i=true:=by
    simp only[xA,gT,bI,Nat.ble_eq,Nat.beq_eq]at hc;unfold UO;simp only[eC,gT];rcases hc with((((hc|hc)|hc)|hc)|hc)|hc
    obtain⟨t,h1,h2⟩:=Fs hc;exact .inl (yA hiW (hI.hwr i x t hi hx h1) _ _ h2);obtain⟨t,h1,h2⟩:=Fs hc;exact .inr (.inl (yA hiW (hI.hrd i x t hi hx h2) _ _ (by simp[h1])));unfold W8 at hc;split at hc;rename_i s t h1 h2;have e:=bl hc;subst e;exact .inr (.inr (.inl (yA hiW (hI.hwr i x _ hi hx h1) _ _ (by simp[h2]))));cases hc
    ·refine .inr (.inr (.inr (.inl ?_)));obtain⟨⟨mM,rh⟩,UP⟩:=hc;rw[eu rh,cr];cases h4:Nat.beq (jc P K y0) 4 with
     |false=>rw[de];exact hI.hc i x hi hx mM
     |true=>
      rw[h4,Bool.and_true,c9]at UP;rw[cr];exact hI.rh i x hi hx mM λe=>by rw[e]at UP;cases UP
    refine .inr (.inr (.inr (.inr (.inl ?_))));rw[<-hc.2];exact hI.hld i x hi hx hc.1.symm;refine .inr (.inr (.inr (.inr (.inr ?_))));rw[<-hc.2];exact hI.lT i x hi hx hc.1.symm
   have he:=bl ajw;rw[<-he]at hm;have Oh:((UO W wr rd c ld st c2 (looks all y0) (l7 K y0).toList (jc P K y0)) &&& (mask W bf y0.after.toList 0)).testBit i=true:=hm;rw[Nat.testBit_and,bI]at Oh;exact Oh.2
  ·refine Ft r (j+1) _ _ _ _ _ _ _ (λq=>by have:=hl (q+1);simpa[ep,eK 1 q]using this) ?_ I0 k y ab hy;have I2:∀i x,i<j+1->all[i]?=some x->i<j∨(i=j∧x=y0):=λi x hi hx=>by
    by_cases e:i=j;subst e;rw[Dz]at hx;cases hx;exact .inr ⟨rfl,rfl⟩;exact .inl ab
   refine⟨?_,?_,?_,?_,?_,?_,?_,?_⟩
   ·intro i x t hi hx hd;rcases I2 i x hi hx with h1|⟨rfl,rfl⟩
    exact wF _ _ (hI.hwr i x t h1 hx hd);exact Al _ _ (by simp[hd])
   ·intro i x t hi hx hd;rcases I2 i x hi hx with h1|⟨rfl,rfl⟩
    exact wF _ _ (hI.hrd i x t h1 hx hd);exact Al _ _ hd
   ·intro S hS q hq hSq i hi qc;simp only[eC,Nat.testBit_shiftLeft,Nat.testBit_mod_two_pow,gT,bI,cX]at qc;by_cases e:q=j
    ·subst e;rcases qc with qc|⟨_,_,qc⟩
     rw[hI.hbz _ (gp _ _)]at qc;cases qc;rw[show q*W+i-q*W=i by omega]at qc;exact adx S hS hSq i qc
    ·have hqj:q<j:=ab;rcases qc with qc|⟨sC,_⟩
     exact hI.hbf S hS q hqj hSq i hi qc;exfalso;have:(q+1)*W<=j*W:=bg _ hqj;rw[bB,c8]at this;omega
   intro p hp;rw[bB,c8]at hp;simp only[eC,Nat.testBit_shiftLeft,Nat.testBit_mod_two_pow,hI.hbz p ab,Bool.false_or];rw[bA (show ¬p-j*W<W by omega)];simp
   ·intro i x hi hx n9;rcases I2 i x hi hx with h1|⟨rfl,rfl⟩
    have:=hI.hc i x h1 hx n9;cases Nat.ble 2 (jc P K y0)<;>simp[eC,this];rw[eu n9];simp[eC]
   ·intro i x hi hx n9;rcases I2 i x hi hx with h1|⟨rfl,rfl⟩
    have:=hI.hld i x h1 hx n9;cases Nat.beq (jc P K y0) 1<;>simp[eC,this];rw[n9];simp[eC]
   ·intro i x hi hx n9;rcases I2 i x hi hx with h1|⟨rfl,rfl⟩
    have:=hI.lT i x h1 hx n9;cases Nat.beq (jc P K y0) 3<;>simp[eC,this];rw[n9];simp[eC]
   ·intro i x hi hx n9 DA;rcases I2 i x hi hx with h1|⟨rfl,rfl⟩
    have:=hI.rh i x h1 hx n9 DA;cases(Nat.ble 2 (jc P K y0)&& !Nat.beq (jc P K y0) 4)<;>simp[eC,this];have e4:Nat.beq (jc P K x) 4=false:=eD.2 λh=>DA (bl h);rw[eu n9,e4];simp[eC]
def HX{α:Type}{p:α->Bool}{a b:α}:∀{l:List α},l.filter p=[a,b]->∃i u,i<u∧l[i]?=some a∧l[u]?=some b∧p a=true∧p b=true∧∀(j:Nat) (o:α),l[j]?=some o->p o=true->j=i∨j=u
 |[],h=>by simp at h
 |x::l,h=>by
  by_cases hx:p x=true
  ·rw[List.filter_cons_of_pos hx]at h;simp only[iw]at h;obtain⟨rfl,h⟩:=h;have one:∀{l:List α},l.filter p=[b]->∃u,l[u]?=some b∧p b=true∧∀(j:Nat) (o:α),l[j]?=some o->p o=true->j=u:=by
    intro l;induction l with
    |nil=>intro h;simp at h
    |cons y l ih=>
     intro h;by_cases hy:p y=true
     ·rw[List.filter_cons_of_pos hy]at h;simp only[iw]at h;obtain⟨rfl,IM⟩:=h;refine⟨0,rfl,hy,λj o hj ho=>?_⟩;cases j with
      |zero=>rfl
      |succ j=>
       have hm:o∈l.filter p:=dK.2 ⟨aY (by simpa using hj),ho⟩;rw[IM]at hm;cases hm
     ·rw[List.filter_cons_of_neg hy]at h;obtain⟨u,h1,h2,h3⟩:=ih h;refine⟨u+1,by simpa using h1,h2,λj o hj ho=>?_⟩;cases j with
      |zero=>simp at hj;subst hj;exact absurd ho hy|succ j=>rw[h3 j o (by simpa using hj) ho]
   obtain⟨u,h1,h2,h3⟩:=one h;refine⟨0,u+1,by omega,rfl,by simpa using h1,hx,h2,λj o hj ho=>?_⟩;cases j with
   |zero=>exact .inl rfl|succ j=>right;rw[h3 j o (by simpa using hj) ho]
  ·rw[List.filter_cons_of_neg hx]at h;obtain⟨i,u,h1,h2,h3,h4,h5,h6⟩:=HX h;refine⟨i+1,u+1,by omega,by simpa using h2,by simpa using h3,h4,h5,λj o hj ho=>?_⟩;cases j with
   |zero=>simp at hj;subst hj;exact absurd ho hx
   |succ j=>rcases h6 j o (by simpa using hj) ho with rfl|rfl<;>simp
def JO{x:Tmp}:isDst K x o=true↔l7 K o=some x:=by
 unfold isDst;cases h:l7 K o with
 |none=>simp|some d=>simp[Nat.beq_eq]
def vG{d:Tmp}:XB K d=true↔40000+d∈K:=by unfold XB;rw[List.any_eq_true];constructor;rintro⟨k,hk,h⟩;rw[<-bl h];exact hk;intro h;exact⟨_,h,fk _⟩
structure XD(K:List Nat)(all:List Oper)(x:Tmp):Prop where
 ex:∃(i u:Nat) (a b:Oper) (t:TypeId) (y:Operand),i<u∧all[i]?=some a∧all[u]?=some b∧a.op=.alloc t∧b.op=.store t (.tmp x) y∧a.guard=none∧b.guard=none∧b.dst=none∧ve K a=some x∧sB K b=some x∧
  ∀(j:Nat) (o:Oper),all[j]?=some o->l7 K o=some x->j=i∨j=u
variable{all:List Oper}
def UQ(h:XC K all=true){x:Tmp}(hx:40000+x∈K):XD K all x:=by
 have h1:=cY.1 h _ hx;rw[eu ab,Bool.not_true,Bool.false_or,ew]at h1;unfold Rh at h1;split at h1
 ·rename_i a b hf;obtain⟨i,u,e1,e2,e3,e4,e5,e6⟩:=HX hf;split at h1
  ·rename_i t t' x' y ha hb;simp only[bI]at h1;obtain⟨g1,g2,g3,g4,g5⟩:=h1;have g1:=bl g1;have g2:=bl g2;subst g1 g2;have ng:∀{g:Option (Nat×Bool)},Rh.W9 g=true->g=none:=(by intro g h;cases g with|none=>rfl|some _=>cases h);have hda:a.dst=some x':=by
    have:=JO.1 e4;unfold l7 sB at this;rw[ha]at this;exact this
   refine⟨i,u,a,b,t,y,e1,e2,e3,ha,hb,ng g3,ng g4,Av g5,?_,?_,λj o hj ho=>e6 j o hj (JO.2 ho)⟩;unfold ve;rw[ha,hda];simp only;rw[vG.2 hx,cr];unfold sB;rw[hb];simp only;rw[vG.2 hx,cr]
  cases h1
 cases h1
structure Ordered(P:Program)(K:List Nat)(all:List Oper):Prop where
 back:∀(k:Nat) (y:Oper),all[k]?=some y->∀e∈y.after,Region.binds .any e=true->e.on<k
 pair:∀(S:Nat->Prop),lf all S->∀(k:Nat) (y:Oper) (i:Nat) (x:Oper),all[k]?=some y->i<k->all[i]?=some x->xA P K all x y=true->S k->S i
 float:∀x,40000+x∈K->XD K all x
def yB(h:uI P K all=true):Ordered P K all:=by unfold uI at h;rw[bI]at h;obtain⟨h,MZ⟩:=h;have h1:=Ft all 0 0 0 0 0 0 0 0 aa ⟨by simp,by simp,by simp,by simp,by simp,by simp,by simp,by simp⟩ h;refine⟨?_,?_,λx hx=>UQ MZ hx⟩;exact λk y hy=>(h1 k y (bm _) hy).1;exact λS hS k y i x hy hi hx hc hk=>(h1 k y (bm _) hy).2 S hS i x hi hx hc hk
end
def Ck(b:Nat)(H H':PH):Prop:=cond (Nat.ble 30000 b) True (cond (Nat.ble 20000 b) (H.bx[b-20000]?=H'.bx[b-20000]?) (cond (Nat.ble 10000 b) (H.mu[b-10000]?=H'.mu[b-10000]?) (H.bx[b]?=H'.bx[b]?)))
def Ck.refl(b:Nat)(H:PH):Ck b H H:=by unfold Ck;cases Nat.ble 30000 b<;>cases Nat.ble 20000 b<;>cases Nat.ble 10000 b<;>simp
def Ck.symm{b:Nat}{H H':PH}(h:Ck b H H'):Ck b H' H:=by
 unfold Ck at *
 revert h;cases Nat.ble 30000 b<;>cases Nat.ble 20000 b<;>cases Nat.ble 10000 b<;>simp only[cr,de]<;>intro h<;>first|exact h.symm|exact trivial
def Ck.trans{b:Nat}{H H' JP:PH}(h:Ck b H H')(k:Ck b H' JP):Ck b H JP:=by
 unfold Ck at *
 revert h k;cases Nat.ble 30000 b<;>cases Nat.ble 20000 b<;>cases Nat.ble 10000 b<;>simp only[cr,de]<;>intro h k<;>first|exact h.trans k|exact trivial
def pR:List Nat->PH->PH->Prop
 |[],_,_=>True|b::K,H,H'=>Ck b H H'∧pR K H H'
def pR.refl:∀(K:List Nat) (H:PH),pR K H H
 |[],_=>trivial|_::K,H=>⟨.refl _ _,pR.refl K H⟩
def pR.symm:∀{K:List Nat} {H H':PH},pR K H H'->pR K H' H
 |[],_,_,_=>trivial|_::_,_,_,h=>⟨h.1.symm,pR.symm h.2⟩
def pR.trans:∀{K:List Nat} {H H' JP:PH},pR K H H'->pR K H' JP->pR K H JP
 |[],_,_,_,_,_=>trivial|_::_,_,_,_,h,k=>⟨h.1.trans k.1,pR.trans h.2 k.2⟩
def pR.get:∀{K:List Nat} {H H':PH},pR K H H'->∀b∈K,Ck b H H'
 |[],_,_,_,b,hb=>by simp at hb
 |k::K,_,_,h,b,hb=>by
  rcases bN.1 hb with rfl|hb
  exact h.1;exact pR.get h.2 b hb
def Bg{a:Nat}(h:b<a):Nat.ble a b=false:=eD.2 λh'=>by have:=bz h';omega
def JQ{a:Nat}(h:Nat.ble a b=false):b<a:=im λh'=>by rw[eu h']at h;cases h
def pR.at{K:List Nat}{H H':PH}(h:pR K H H')(b:Nat)(hb:b∈K)(hl:Nat.ble 10000 b=false):H.bx[b]?=H'.bx[b]? :=by have:=h.get b hb;have h1:=JQ hl;unfold Ck at this;rw[hl,Bg ab,Bg ab]at this;exact this
def pR.mu{K:List Nat}{H H':PH}(h:pR K H H')(j:Nat)(hj:10000+j∈K)(hl:Nat.ble 10000 j=false):H.mu[j]?=H'.mu[j]? :=by have:=h.get _ hj;have XE:=JQ hl;have e:Nat.ble 10000 (10000+j)=true:=eu ab;unfold Ck at this;rw[e,Bg ab,Bg ab]at this;simpa using this
def M0:Option MO->Option (Nat×Nat×Nat×Nat)
 |none=>none|some (.gone n)=>some (0,n,0,0)|some (.arr n e es)=>some (1,n,e,es.length)|some (.map es)=>some (2,0,0,es.length)|some (.iter n _ pos)=>some (3,n,0,pos)
def GZ(b:Nat)(H H':PH):Prop:=cond (Nat.ble 30000 b) True (cond (Nat.ble 20000 b) (H.bx[b-20000]?=H'.bx[b-20000]?) (cond (Nat.ble 10000 b) (M0 H.mu[b-10000]?=M0 H'.mu[b-10000]?) True))
def Ck.so(h:Ck b H H'):GZ b H H':=by unfold Ck at h;unfold GZ;revert h;cases Nat.ble 30000 b<;>cases Nat.ble 20000 b<;>cases Nat.ble 10000 b<;>simp only[cr,de]<;>intro h<;>first|exact trivial|exact h|rw[h]
def rA:List Nat->PH->PH->Prop
 |[],_,_=>True|b::K,H,H'=>GZ b H H'∧rA K H H'
def pR.sh:∀{K:List Nat} {H H':PH},pR K H H'->rA K H H'
 |[],_,_,_=>trivial|_::_,_,_,h=>⟨h.1.so,pR.sh h.2⟩
def rA.refl(K:List Nat)(H:PH):rA K H H:=(pR.refl K H).sh
def GZ.symm{b:Nat}{H H':PH}(h:GZ b H H'):GZ b H' H:=by
 unfold GZ at *
 revert h;cases Nat.ble 30000 b<;>cases Nat.ble 20000 b<;>cases Nat.ble 10000 b<;>simp only[cr,de]<;>intro h<;>first|exact h.symm|exact trivial
def GZ.trans{b:Nat}{H H' JP:PH}(h:GZ b H H')(k:GZ b H' JP):GZ b H JP:=by
 unfold GZ at *
 revert h k;cases Nat.ble 30000 b<;>cases Nat.ble 20000 b<;>cases Nat.ble 10000 b<;>simp only[cr,de]<;>intro h k<;>first|exact h.trans k|exact trivial
def rA.symm:∀{K:List Nat} {H H':PH},rA K H H'->rA K H' H
 |[],_,_,_=>trivial|_::_,_,_,h=>⟨h.1.symm,rA.symm h.2⟩
def rA.trans:∀{K:List Nat} {H H' JP:PH},rA K H H'->rA K H' JP->rA K H JP
 |[],_,_,_,_,_=>trivial|_::_,_,_,_,h,k=>⟨h.1.trans k.1,rA.trans h.2 k.2⟩
def rA.get:∀{K:List Nat} {H H':PH},rA K H H'->∀b∈K,GZ b H H'
 |[],_,_,_,b,hb=>by simp at hb
 |k::K,_,_,h,b,hb=>by
  rcases bN.1 hb with rfl|hb
  exact h.1;exact rA.get h.2 b hb
def rA.at{K:List Nat}{H H':PH}(h:rA K H H')(j:Nat)(hj:10000+j∈K)(hl:Nat.ble 10000 j=false):M0 H.mu[j]?=M0 H'.mu[j]? :=by have:=h.get _ hj;have XE:=JQ hl;have e:Nat.ble 10000 (10000+j)=true:=eu ab;unfold GZ at this;rw[e,Bg ab,Bg ab]at this;simpa using this
def rA.fix(h:rA K H H')(j:Nat)(hj:nv K (20000+j)=true)(hl:Nat.ble 10000 j=false):H.bx[j]?=H'.bx[j]? :=by have:=h.get _ (nQ.1 hj);have XE:=JQ hl;have e:Nat.ble 20000 (20000+j)=true:=eu ab;unfold GZ at this;rw[e,Bg ab]at this;simpa using this
def rA.ady{b:Nat}{H H':PH}(hm:H.mu=H'.mu)(hb:∀j,j≠b->H.bx[j]?=H'.bx[j]?):∀{K:List Nat},nv K (20000+b)=false->rA K H H'
 |[],_=>trivial
 |k::K,hk=>by
  unfold nv at hk;refine⟨?_,rA.ady hm hb ?_⟩
  ·unfold GZ;cases h3:Nat.ble 30000 k with
   |true=>exact trivial
   |false=>
    cases h2:Nat.ble 20000 k with
    |true=>
     simp only[cr,de];by_cases e:k-20000=b;have:=bz h2;have e':20000+b=k:=ab;rw[e',fk,cr]at hk;cases hk;exact hb _ e
    |false=>
     cases Nat.ble 10000 k;exact trivial;simp only[cr,de];rw[hm]
  revert hk;cases Nat.beq (20000+b) k<;>simp
def pR.adz{H H':PH}(hb:H.bx=H'.bx):∀{K:List Nat},(∀i,nv K (10000+i)=true->H.mu[i]?=H'.mu[i]?)->pR K H H'
 |[],_=>trivial
 |k::K,h=>by
  refine⟨?_,pR.adz hb λi hi=>h i ?_⟩
  ·unfold Ck;cases h3:Nat.ble 30000 k with
   |true=>exact trivial
   |false=>cases h2:Nat.ble 20000 k with
    |true=>simp only[cr,de];rw[hb]
    |false=>cases h1:Nat.ble 10000 k with
     |true=>
      simp only[cr,de];refine h _ (nQ.2 ?_);have:=bz h1;rw[show 10000+(k-10000)=k by omega];exact bE ..
     |false=>simp only[de];rw[hb]
  exact nQ.2 (bw _ (nQ.1 hi))
def CX(D:List Ins)(i:Nat):MO->MO
 |.map es=>.map (es++(D.filter λx=>Nat.beq x.id i).map λx=>(x.k,x.v))|o=>o
def mn(D:List Ins)(H:PH):PH:=⟨H.bx,H.tk,H.mu.mapIdx (CX D)⟩
def YQ(i:Nat):∀o:MO,CX [] i o=o
 |.gone _=>rfl|.arr _ _ _=>rfl|.iter _ _ _=>rfl|.map es=>by simp[CX]
def sY(D:List Ins)(H:PH)(i:Nat):(mn D H).mu[i]?=(H.mu[i]?).map (CX D i):=by simp[mn]
def nZ(H:PH):mn [] H=H:=by
 obtain⟨bx,tk,mu⟩:=H;have:mu.mapIdx (CX [])=mu:=eE λi=>by
  rw[List.getElem?_mapIdx];cases mu[i]? with
  |none=>rfl|some o=>simp[YQ]
 simp only[mn,this]
def UR(D:List Ins)(x:Ins)(i:Nat)(o:MO):CX (D++[x]) i o=bif Nat.beq x.id i then(match CX D i o with|.map es=>.map (es++[(x.k,x.v)])|o=>o)else CX D i o:=by
 cases o with
 |gone n=>cases Nat.beq x.id i<;>rfl|arr n e es=>cases Nat.beq x.id i<;>rfl|iter n s pos=>cases Nat.beq x.id i<;>rfl
 |map es=>
  simp only[CX,List.filter_append,eU];cases h:Nat.beq x.id i<;>simp[h]
def Ins.ajx(x:Ins)(H:PH):(x.ap H).bx=H.bx:=by unfold Ins.ap;split<;>rfl
def Ins.ajy(x:Ins)(H:PH):(x.ap H).tk=H.tk:=by unfold Ins.ap;split<;>rfl
def Ins.adA(x:Ins)(H:PH)(i:Nat):(x.ap H).mu[i]?=bif Nat.beq x.id i then(H.mu[i]?).map (λo=>match o with|.map es=>.map (es++[(x.k,x.v)])|o=>o)else H.mu[i]? :=by
 unfold Ins.ap;cases h:Nat.beq x.id i with
 |true=>
  have e:=bl h;subst e;simp only[cr];split;rename_i es he;have iI:=(aR.1 he).1;rw[he];simp[List.getElem?_set,iI]
  ·rename_i hn;cases he:H.mu[x.id]? with
   |none=>rfl
   |some o=>
    cases o with
    |gone n=>rfl|arr n e es=>rfl|iter n s pos=>rfl|map es=>exact absurd he (hn es)
 |false=>
  have e:x.id≠i:=λe=>by rw[e,fk]at h;cases h
  simp only[de];split;simp[List.getElem?_set,e];rfl
def Eo(x:Ins)(D:List Ins)(H:PH):x.ap (mn D H)=mn (D++[x]) H:=by
 have h1:=Ins.ajx x (mn D H);have h2:=Ins.ajy x (mn D H);have h3:(x.ap (mn D H)).mu=(mn (D++[x]) H).mu:=eE λi=>by
  rw[Ins.adA,sY,sY];cases H.mu[i]? with
  |none=>cases Nat.beq x.id i<;>rfl
  |some o=>
   simp only[eS,UR];cases Nat.beq x.id i<;>rfl
 generalize x.ap (mn D H)=A at h1 h2 h3;obtain⟨a,b,c⟩:=A;simp only at h1 h2 h3;subst h1;subst h2;subst h3;rfl
def adB(x:Ins)(H:PH):x.ap H=mn [x] H:=by have:=Eo x [] H;rw[nZ]at this;exact this
variable{D:List Ins}
def Fu{E:List Ins}(h:D.Perm E)(H:PH):ahD (mn D H) (mn E H):=by
 refine⟨rfl,rfl,by simp[mn],λi o o' ho zG=>?_⟩;rw[sY]at ho zG;cases hm:H.mu[i]? with
 |none=>rw[hm]at ho;cases ho
 |some x=>
  rw[hm]at ho zG;simp only[eS,cg]at ho zG;subst ho;subst zG;cases x with
  |gone n=>rfl|arr n e es=>rfl|iter n s pos=>rfl|map es=>exact List.Perm.append (List.Perm.refl _) ((h.filter _).map _)
def B4(h:∀x∈D,nv K (10000+x.id)=false)(H:PH):pR K H (mn D H):=by
 refine pR.adz (H:=H) (H':=mn D H) (show H.bx=(mn D H).bx from rfl) λi hi=>?_;rw[sY];have hf:(D.filter λx=>Nat.beq x.id i)=[]:=List.filter_eq_nil_iff.2 λx hx hb=>by have e:=bl hb;have:=h x hx;rw[e,hi]at this;cases this
 cases H.mu[i]? with
 |none=>rfl|some o=>cases o<;>simp[CX,hf]
def lS(P:Program)(K:List Nat)(o:Oper)(env:Env)(H:PH)(v:PV)(H':PH):Prop:=
 (ve K o=none∧sB K o=none∧((jc P K o=0∧H'=H∧∀H1,rA K H H1->PO P o env.eval H1 v H1)∨
  (jc P K o=1∧H'=H∧∀H1,pR K H H1->PO P o env.eval H1 v H1)∨
  (jc P K o=2∧PO P o env.eval H v H'∧pR K H H')∨
  (jc P K o=3∧PO P o env.eval H v H'∧rA K H H')∨
  (jc P K o=4∧o.dst=none∧v=mW∧∃(x:Ins) (es:List (GV×GV)),W7 P o env.eval x∧H.mu[x.id]?=some (.map es)∧mj x.k es=some none∧H'=x.ap H∧nv K (10000+x.id)=false)))∨
 (∃(d:Tmp) (t:TypeId) (z:Value),ve K o=some d∧o.op=.alloc t∧my P t=some z∧kZ P t=some z.cells.size∧v=.any∧H'=H)∨
 (∃(x:Tmp) (t:TypeId) (y:Operand) (cs:List PV),sB K o=some x∧o.op=.store t (.tmp x) y∧kZ P t=some cs.length∧kc (env.eval y)=some cs∧v=.ptr H.bx.length 0∧H'=⟨H.bx++[cs],H.tk,H.mu⟩∧pR K H H')
def ju(P:Program)(N:Nat)(all:Array Oper)(K:List Nat)(Z:Env->PH->Prop):List Oper->Env->PH->Prop
 |[],env,H=>Z env H
 |o::rest,env,H=>(∀t,o.dst=some t->t<N)∧
  match gd all o env with
  |some true=>∃v H',lS P K o env H v H'∧ju P N all K Z rest (qE env (l7 K o) v) H'|some false=>ju P N all K Z rest (qE env (l7 K o) mW) H|none=>False
structure Tr where
 E:Nat->Env
 H:Nat->PH
 V:Nat->PV
structure qZ(P:Program)(N:Nat)(all:List Oper)(K:List Nat)(T:Tr):Prop where
 dst:∀(i:Nat) (o:Oper),all[i]?=some o->∀t,o.dst=some t->t<N
 env:∀(i:Nat) (o:Oper),all[i]?=some o->T.E (i+1)=qE (T.E i) (l7 K o) (T.V i)
 step:∀(i:Nat) (o:Oper),all[i]?=some o->(gd all.toArray o (T.E i)=some true∧lS P K o (T.E i) (T.H i) (T.V i) (T.H (i+1)))∨(gd all.toArray o (T.E i)=some false∧T.V i=mW∧T.H (i+1)=T.H i)
def S7(P:Program)(N:Nat)(all:List Oper)(K:List Nat)(Z:Env->PH->Prop)(j n:Nat)(env:Env)(H:PH)(T:Tr):Prop:=
 T.E j=env∧T.H j=H∧Z (T.E (j+n)) (T.H (j+n))∧
  ∀(i:Nat) (o:Oper),j<=i->all[i]?=some o->(∀t,o.dst=some t->t<N)∧T.E (i+1)=qE (T.E i) (l7 K o) (T.V i)∧
   ((gd all.toArray o (T.E i)=some true∧lS P K o (T.E i) (T.H i) (T.V i) (T.H (i+1)))∨(gd all.toArray o (T.E i)=some false∧T.V i=mW∧T.H (i+1)=T.H i))
def G0{P:Program}{N:Nat}{all:List Oper}{K:List Nat}{Z:Env->PH->Prop}:∀(l:List Oper) (j:Nat) (env:Env) (H:PH),(∀k,l[k]?=all[j+k]?)->ju P N all.toArray K Z l env H->
  ∃T:Tr,S7 P N all K Z j l.length env H T
 |[],j,env,H,hl,h=>⟨⟨λ_=>env,λ_=>H,λ_=>mW⟩,rfl,rfl,h,λi o hi ho=>by have:=hl (i-j);rw[show j+(i-j)=i by omega,ho]at this;simp at this⟩
 |o::r,j,env,H,hl,h=>by
  obtain⟨hd,h⟩:=h;have h0:all[j]?=some o:=by simpa using(hl 0).symm
  have XE:∀k,r[k]?=all[j+1+k]? :=λq=>by have:=hl (q+1);simpa[ep,eK 1 q]using this
  have key:∀(v:PV) (H':PH),ju P N all.toArray K Z r (qE env (l7 K o) v) H'->((gd all.toArray o env=some true∧lS P K o env H v H')∨(gd all.toArray o env=some false∧v=mW∧H'=H))->∃T:Tr,S7 P N all K Z j (o::r).length env H T:=by intro v H' hr hc;obtain⟨T,e1,e2,e3,e4⟩:=G0 r (j+1) _ _ XE hr;refine⟨⟨λi=>if i=j then env else T.E i,λi=>if i=j then H else T.H i,λi=>if i=j then v else T.V i⟩,by simp,by simp,?_,?_⟩;have js:¬j+(o::r).length=j:=aa;simp only[js,en];rw[show j+(o::r).length=j+1+r.length by simp;omega];exact e3;intro i o' hi zG;by_cases e:i=j;subst e;rw[h0]at zG;cases zG;have js:¬i+1=i:=ab;simp only[js,en,gF];refine⟨hd,e1,?_⟩;rw[e2];exact hc;have js:¬i+1=j:=ab;simp only[e,js,en];exact e4 i o' ab zG
  split at h;rename_i hg;obtain⟨v,H',hc,hr⟩:=h;exact key v H' hr (.inl ⟨hg,hc⟩);rename_i hg;exact key mW H h (.inr ⟨hg,rfl,rfl⟩);exact h.elim
section
variable{P:Program}{N:Nat}{all:List Oper}{K:List Nat}{T:Tr}
def Hn{x:Tmp}(h:sB K o=some x):jc P K o=2:=by
 have:ve K o=none:=by unfold sB at h;unfold ve;split at h;rename_i ho;rw[ho];cases h
 unfold jc;rw[this,h]
def Ow{d:Tmp}(h:ve K o=some d):jc P K o=0:=by unfold jc;rw[h]
def DB{x:Tmp}(h:sB K o=some x):(∃t y,o.op=.store t (.tmp x) y)∧40000+x∈K∧l7 K o=some x:=by
 have hd:l7 K o=some x:=by unfold l7;rw[h]
 unfold sB at h;split at h
 ·rename_i t x' y ho;cases hf:XB K x' with
  |false=>rw[hf]at h;cases h|true=>rw[hf]at h;cases h;exact⟨⟨t,y,ho⟩,vG.1 hf,hd⟩
 cases h
def w7{d:Tmp}(h:ve K o=some d):(∃t,o.op=.alloc t)∧40000+d∈K∧o.dst=some d∧l7 K o=some d∧sB K o=none:=by
 unfold ve at h;split at h
 ·rename_i t ho;split at h
  ·rename_i d' hd;cases hf:XB K d' with
   |false=>rw[hf]at h;cases h
   |true=>
    rw[hf]at h;cases h;have lr:sB K o=none:=(by unfold sB;rw[ho]);exact⟨⟨t,ho⟩,vG.1 hf,hd,by unfold l7;rw[lr];exact hd,lr⟩
  cases h
 cases h
variable{t i:Nat}
def Ox(hT:qZ P N all K T)(ho:all[i]?=some o)(hd:l7 K o=some t):∀k,i<k->k<=all.length->(∀(j:Nat) (o':Oper),i<j->j<k->all[j]?=some o'->l7 K o'≠some t)->T.E k t=T.V i:=by
 intro k;induction k with
 |zero=>intro h;omega
 |succ k ih=>
  intro hik hk Aw;by_cases e:i=k;subst e;rw[hT.env i o ho,hd];simp[qE]
  ·have yt:k<all.length:=ab
   have zG:all[k]?=some all[k]:=aS yt;rw[hT.env k _ zG];have js:=Aw k _ ab ab zG;have:qE (T.E k) (l7 K all[k]) (T.V k) t=T.E k t:=by
    cases Fv:l7 K all[k]with
    |none=>rfl
    |some d=>
     have:Nat.beq t d=false:=eD.2 λh=>js (by rw[Fv,bl h]);simp[qE,this]
   rw[this];exact ih ab ab λj o' h1 h2=>Aw j o' h1 ab
def JR(hT:qZ P N all K T):∀k,k<=all.length->(∀(j:Nat) (o':Oper),j<k->all[j]?=some o'->l7 K o'≠some t)->T.E k t=T.E 0 t:=by
 intro k;induction k with
 |zero=>intros;rfl
 |succ k ih=>
  intro hk Aw;have yt:k<all.length:=ab
  have zG:all[k]?=some all[k]:=aS yt;rw[hT.env k _ zG];have js:=Aw k _ ab zG;have:qE (T.E k) (l7 K all[k]) (T.V k) t=T.E k t:=by
   cases Fv:l7 K all[k]with
   |none=>rfl
   |some d=>
    have:Nat.beq t d=false:=eD.2 λh=>js (by rw[Fv,bl h]);simp[qE,this]
  rw[this];exact ih ab λj o' h1=>Aw j o' ab
variable{m:Nat}
def amU(hT:qZ P N all K T)(S8:i<=m)(hm:m<=all.length)(h:∀(j:Nat) (o:Oper),i<=j->j<m->all[j]?=some o->jc P K o<2):T.H m=T.H i:=by
 induction m with
 |zero=>
  have:i=0:=ab
  rw[this]
 |succ m ih=>
  by_cases e:i=m+1;rw[e]
  ·have ho:all[m]?=some all[m]:=aS ab;have hk:=h m _ ab ab ho;have:T.H (m+1)=T.H m:=by
    rcases hT.step m _ ho with⟨_,hc⟩|⟨_,_,hc⟩
    ·rcases hc with⟨_,_,hc⟩|⟨_,_,_,_,_,_,_,_,hH⟩|⟨_,_,_,_,ha,_⟩
     ·rcases hc with⟨_,h1,_⟩|⟨_,h1,_⟩|⟨h1,_⟩|⟨h1,_⟩|⟨h1,_⟩
      exact h1;exact h1;omega;omega;omega
     exact hH;rw[Hn ha]at hk;omega
    exact hc
   rw[this];exact ih ab ab λj o h1 h2=>h j o h1 ab
def adC(hT:qZ P N all K T)(S8:i<=m)(hm:m<=all.length)(h:∀(j:Nat) (o:Oper),i<=j->j<m->all[j]?=some o->jc P K o≠3):pR K (T.H i) (T.H m):=by
 induction m with
 |zero=>
  have:i=0:=ab
  rw[this];exact pR.refl _ _
 |succ m ih=>
  by_cases e:i=m+1;rw[e];exact pR.refl _ _
  ·have ho:all[m]?=some all[m]:=aS ab;have hk:=h m _ ab ab ho;refine(ih ab ab λj o h1 h2=>h j o h1 ab).trans ?_;rcases hT.step m _ ho with⟨_,hc⟩|⟨_,_,hc⟩
   ·rcases hc with⟨_,_,hc⟩|⟨_,_,_,_,_,_,_,_,hH⟩|⟨_,_,_,_,_,_,_,_,_,_,hq⟩
    ·rcases hc with⟨_,h1,_⟩|⟨_,h1,_⟩|⟨_,_,h1⟩|⟨h1,_⟩|⟨_,_,_,x,es,_,_,_,h1,h2⟩
     rw[h1];exact pR.refl _ _;rw[h1];exact pR.refl _ _;exact h1;exact absurd h1 hk;rw[h1,adB];exact B4 (by simpa using h2) _
    rw[hH];exact pR.refl _ _;exact hq
   rw[hc];exact pR.refl _ _
def adD(hT:qZ P N all K T)(S8:i<=m)(hm:m<=all.length):rA K (T.H i) (T.H m):=by
 induction m with
 |zero=>
  have:i=0:=ab
  rw[this];exact rA.refl _ _
 |succ m ih=>
  by_cases e:i=m+1;rw[e];exact rA.refl _ _
  ·have ho:all[m]?=some all[m]:=aS ab;refine(ih ab ab).trans ?_;rcases hT.step m _ ho with⟨_,hc⟩|⟨_,_,hc⟩
   ·rcases hc with⟨_,_,hc⟩|⟨_,_,_,_,_,_,_,_,hH⟩|⟨_,_,_,_,_,_,_,_,_,_,hq⟩
    ·rcases hc with⟨_,h1,_⟩|⟨_,h1,_⟩|⟨_,_,h1⟩|⟨_,_,h1⟩|⟨_,_,_,x,es,_,_,_,h1,h2⟩
     rw[h1];exact rA.refl _ _;rw[h1];exact rA.refl _ _;exact h1.sh;exact h1;rw[h1,adB];exact(B4 (by simpa using h2) _).sh
    rw[hH];exact rA.refl _ _;exact hq.sh
   rw[hc];exact rA.refl _ _
def rC(K:List Nat)(all:List Oper)(T:Tr)(S:Nat->Prop)(c:Ctx)(t:Nat)(v:Value):Prop:=
 (∃(i:Nat) (o:Oper),all[i]?=some o∧S i∧l7 K o=some t∧(∀(j:Nat) (o':Oper),i<j->all[j]?=some o'->S j->l7 K o'≠some t)∧RV c (T.V i) v)∨
 ((∀(i:Nat) (o:Oper),all[i]?=some o->S i->l7 K o≠some t)∧RV c (T.E 0 t) v)
def rC.mono{S:Nat->Prop}{c c':Ctx}(hE:kI c c'){t:Nat}{v:Value}(h:rC K all T S c t v):rC K all T S c' t v:=by
 rcases h with⟨i,o,h1,h2,h3,h4,h5⟩|⟨h1,h2⟩
 exact .inl ⟨i,o,h1,h2,h3,h4,h5.mono hE⟩;exact .inr ⟨h1,h2.mono hE⟩
def DC{x y:Oper}(hx:l7 K x=some t)(hy:t∈looks all y):xA P K all x y=true:=by simp[xA,hx,GY,nQ.2 hy]
def Jx{x y:Oper}(hx:t∈looks all x)(hy:l7 K y=some t):xA P K all x y=true:=by simp[xA,hy,GY,nQ.2 hx]
def Am{x y:Oper}(hx:l7 K x=some t)(hy:l7 K y=some t):xA P K all x y=true:=by simp[xA,hx,hy,W8]
def tg{x y:Oper}(hx:2<=jc P K x)(hy:2<=jc P K y)(G1:jc P K x≠4∨jc P K y≠4):xA P K all x y=true:=by
 have:(Nat.beq (jc P K x) 4&&Nat.beq (jc P K y) 4)=false:=by rw[Bool.and_eq_false_iff];exact G1.imp (λh=>eD.2 λh'=>h (bl h')) (λh=>eD.2 λh'=>h (bl h'))
 simp only[xA,this,eu hx,eu hy];simp
def abS{x y:Oper}(hx:jc P K x=1)(hy:jc P K y=3):xA P K all x y=true:=by simp[xA,hx,hy]
def abU{x y:Oper}(hx:jc P K x=3)(hy:jc P K y=1):xA P K all x y=true:=by simp[xA,hx,hy]
structure Comes(all:List Oper)(S:Nat->Prop)(i:Nat)(o:Oper):Prop where
 at_:all[i]?=some o
 out:¬S i
 pre:∀e∈o.after,Region.binds .any e=true->S e.on
variable{S:Nat->Prop}{j:Nat}
def Comes.before(hO:Ordered P K all)(hS:lf all S)(h:Comes all S i o){x:Oper}(hj:j<i)(hx:all[j]?=some x)(hc:xA P K all x o=true):S j:=by
 have hS':lf all (λk=>S k∨k=i):=by
  intro k y hy hk e he hb;rcases hk with hk|rfl
  exact .inl (hS k y hy hk e he hb);rw[h.at_]at hy;cases hy;exact .inl (h.pre e he hb)
 rcases hO.pair _ hS' i o j x h.at_ hj hx hc (.inr rfl)with h1|h1
 exact h1;omega
def Comes.behind(hO:Ordered P K all)(hS:lf all S)(h:Comes all S i o){y:Oper}(hj:i<j)(hy:all[j]?=some y)(hc:xA P K all o y=true):¬S j:=
 λhs=>h.out (hO.pair S hS j y i o hy hj h.at_ hc hs)
def Comes.slot(hT:qZ P N all K T)(hO:Ordered P K all)(hS:lf all S)(h:Comes all S i o)(ht:t∈looks all o)(hs:rC K all T S c t v):RV c (T.E i t) v:=by
 have hi:i<=all.length:=iB (aR.1 h.at_).1;rcases hs with⟨i',o',h1,h2,h3,h4,h5⟩|⟨h1,h2⟩
 ·have iI:i'<i:=by
   rcases fF i' i with iI|rfl|oJ
   exact iI;exact absurd h2 h.out;exact absurd h2 (h.behind hO hS oJ h1 (Jx ht h3))
  rw[Ox hT h1 h3 i iI hi λj o'' pS sO Oy hj4=>h4 j o'' pS Oy (h.before hO hS sO Oy (DC hj4 ht)) hj4];exact h5
 rw[JR hT i hi λj o'' pS sO Oy=>h1 j o'' sO (h.before hO hS pS sO (DC Oy ht)) Oy];exact h2
variable{a':Act}
def rC.put(hO:Ordered P K all)(hS:lf all S)(h:Comes all S i o)
  (hv:∀t,l7 K o=some t->RV c (T.V i) (a'.tmps.getD t undef)) (wx:∀t,l7 K o≠some t->a'.tmps.getD t undef=a.tmps.getD t undef)
  (hs:∀t,rC K all T S c t (a.tmps.getD t undef)):∀t,rC K all T (λk=>S k∨k=i) c t (a'.tmps.getD t undef):=by
 intro t;by_cases e:l7 K o=some t
 ·refine .inl ⟨i,o,h.at_,.inr rfl,e,λj o' hj zG xC he=>?_,hv t e⟩;rcases xC with xC|rfl
  exact h.behind hO hS hj zG (Am e he) xC;omega
 ·rw[wx t e];rcases hs t with⟨i',o',h1,h2,h3,h4,h5⟩|⟨h1,h2⟩
  ·refine .inl ⟨i',o',h1,.inl h2,h3,λj o'' hj NY xC he=>?_,h5⟩;rcases xC with xC|rfl
   exact h4 j o'' hj NY xC he;rw[h.at_]at NY;cases NY;exact e he
  ·refine .inr ⟨λj o'' NY xC he=>?_,h2⟩;rcases xC with xC|rfl
   exact h1 j o'' NY xC he;rw[h.at_]at NY;cases NY;exact e he
def S9(hN:a.tmps.size=N){d:Option Tmp}(hd:∀t,d=some t->t<N)(rv:Value):(∀t,d=some t->(a.put d rv).tmps.getD t undef=rv)∧∀t,d≠some t->(a.put d rv).tmps.getD t undef=a.tmps.getD t undef:=by
 refine⟨λt e=>?_,λt e=>?_⟩
 ·have iI:t<a.tmps.size:=by rw[hN];exact hd t e
  rw[e];simp[Act.put,bF,iI]
 ·cases Oz:d with
  |none=>rfl
  |some d'=>
   have js:d'≠t:=λh=>e (by rw[Oz,h]);simp[Act.put,bF,js]
def OA{tmps:Array Value}(h:∀t∈looks all o,RV c (env t) (tmps.getD t undef)){b:Bool}(hg:gd all.toArray o env=some b):Region.wanted o (yielded all.toArray tmps)=b:=by
 unfold gd at hg;unfold Region.wanted;split at hg;rename_i e;rw[e];simpa using hg
 ·rename_i j want e;rw[e];simp only[yielded];split at hg
  ·rename_i d hd;have Ep:(all[j]?).bind (·.dst)=some d:=(by simpa using hd);have hs:=h d (by simp[looks,e,Ep]);have M1:((all.toArray)[j]?).bind (·.dst)=some d:=(by simpa using Ep);rw[M1];simp only[Option.bind_some];split at hg
   ·rename_i b' he;rw[he]at hs;cases hs with
    |g x v hr=>
     generalize hv:tmps.getD d undef=v at hr;cases hr;rw[bF]at hv;cases hx:tmps[d]? with
     |none=>rw[hx]at hv;simp[undef]at hv|some u=>rw[hx]at hv;simp at hv;subst hv;simpa using hg
   ·rename_i vs he;rw[he]at hs;cases hs with
    |g x v hr=>
     generalize hv:tmps.getD d undef=v at hr;cases hr;rw[bF]at hv;cases hx:tmps[d]? with
     |none=>simpa using hg|some u=>rw[hx]at hv;simp at hv;subst hv;simpa using hg
   cases hg
  cases hg
structure JS(P:Program)(K:List Nat)(all:List Oper)(S:Nat->Prop)(c0 c:Ctx)(a:Act)(x:Tmp×Nat):Prop where
 slot:a.tmps.getD x.1 undef=.pointer (some ⟨x.2,0,none⟩)
 mem:40000+x.1∈K
 row:∃(jJ:Array Value) (t:TypeId),c.w.heap[x.2]?=some (.cells jJ t (0,0))∧kZ P t=some jJ.size∧(∀z,my P t=some z->jJ=z.cells)∧∀(i:Nat) (o:Oper),all[i]?=some o->ve K o=some x.1->o.op=.alloc t
 sig:x.2∉c.σ
 tok:∀t∈c.τ,t.live=true->t.g≠x.2
 mu:∀t∈c.μ,t.live=true->t.g≠x.2
 new:c0.w.heap.size<=x.2
 open_:∀(u:Nat) (o:Oper),all[u]?=some o->sB K o=some x.1->¬S u
 made:∃(j:Nat) (o:Oper),all[j]?=some o∧ve K o=some x.1∧S j
variable{c0:Ctx}
def JS.lt{x:Tmp×Nat}(h:JS P K all S c0 c a x):x.2<c.w.heap.size:=by obtain⟨jJ,t,h1,_⟩:=h.row;exact(dw.1 h1).1
def Er(h:Hid)(L:List (Tmp×Nat)):Hid:=⟨λb p=>h b p∨∃x∈L,x.2=b,h.d⟩
def zJ(h:Hid):Er h []=h:=by cases h;simp[Er]
def Ctx.bare(c:Ctx)(h:Hid):Ctx:=⟨c.σ,c.τ,c.μ,h,c.w⟩
def JT{x:Tmp×Nat}(hE:kI c c')(h:JS P K all S c0 c a x):x.2∉c'.σ∧(∀t∈c'.τ,t.live=true->t.g≠x.2)∧(∀t∈c'.μ,t.live=true->t.g≠x.2)∧c'.w.heap[x.2]?=c.w.heap[x.2]? :=by
 obtain⟨n,hn,Je⟩:=hE.sig;refine⟨?_,?_,?_,hE.frame _ h.lt h.sig h.tok h.mu⟩
 ·rw[hn];intro hm;rcases bC.1 hm with hm|hm
  exact h.sig hm;have:=Je _ hm;have:=h.lt;omega
 ·intro t ht lv e;rcases hE.pq t ht lv with⟨t0,MT,Qu,e0⟩|hl
  exact h.tok t0 MT Qu (e0.trans e);have:=h.lt;omega
 ·intro t ht lv e;rcases hE.sA t ht lv with⟨t0,MT,Qu,e0⟩|hl
  exact h.mu t0 MT Qu (e0.trans e);have:=h.lt;omega
def JS.step{S':Nat->Prop}{x:Tmp×Nat}(hE:kI c c')(h:JS P K all S c0 c a x)(hs:a'.tmps.getD x.1 undef=a.tmps.getD x.1 undef)
  (ho:∀(u:Nat) (o:Oper),all[u]?=some o->sB K o=some x.1->¬S' u) (hS:∀k,S k->S' k):JS P K all S' c0 c' a' x:=by
 obtain⟨k1,k2,k3,k4⟩:=JT hE h;obtain⟨jJ,t,h1,h2⟩:=h.row;exact⟨hs.trans h.slot,h.mem,⟨jJ,t,k4.trans h1,h2⟩,k1,k2,k3,h.new,ho,h.made.imp λj ⟨o,a1,a2,a3⟩=>⟨o,a1,a2,hS j a3⟩⟩
def YR{L:List (Tmp×Nat)}{h:Hid}(hE:kI c c')(hh:c.hid=Er h L)(hp:∀x∈L,JS P K all S c0 c a x):kI (c.bare h) (c'.bare h):=by refine⟨hE.os,hE.tape,hE.output,hE.size,rfl,hE.sig,hE.tok,hE.mu,hE.sA,hE.pq,?_,hE.frame⟩;intro b v hb hs hc;by_cases hx:∃x∈L,x.2=b.block;obtain⟨x,hx,e⟩:=hx;obtain⟨k1,k2,k3,k4⟩:=JT hE (hp x hx);rw[e]at k1 k2 k3 k4;refine⟨?_,hs.1,k1,λt ht lv e=>absurd e (k2 t ht lv),k3⟩;show c'.w.cell? b=some v;rw[World.cell?_of_block k4];exact hc;have lT:c.jq b.block b.off:=⟨λhq=>by rw[hh]at hq;exact hq.elim hs.1 hx,hs.2⟩;obtain⟨k1,k2⟩:=hE.kF b v hb lT hc;exact⟨k1,hs.1,k2.2⟩
def Xa(P:Program)(all:List Oper)(K:List Nat)(T:Tr)(j:Nat)(x:Ins):Prop:=
 ∃(o:Oper) (es:List (GV×GV)),all[j]?=some o∧jc P K o=4∧W7 P o (T.E j).eval x∧(T.H j).mu[x.id]?=some (.map es)∧mj x.k es=some none∧T.H (j+1)=x.ap (T.H j)∧nv K (10000+x.id)=false
structure rO(P:Program)(all:List Oper)(K:List Nat)(T:Tr)(F:Nat->Option Ins):Prop where
 at_:∀(j:Nat) (x:Ins),F j=some x->Xa P all K T j x
 of:∀(j:Nat) (x:Ins),Xa P all K T j x->∃y,F j=some y
open Classical in
def CY(P:Program)(all:List Oper)(K:List Nat)(T:Tr):∃F,rO P all K T F:=by refine⟨λj=>if h:∃x,Xa P all K T j x then some h.choose else none,λj x h=>?_,λj x h=>?_⟩;split at h;rename_i h';cases h;exact h'.choose_spec;cases h;exact⟨_,dif_pos ⟨x,h⟩⟩
variable{F:Nat->Option Ins}
def rO.kind(hF:rO P all K T F)(ho:all[j]?=some o)(hk:jc P K o≠4):F j=none:=by
 cases h:F j with
 |none=>rfl
 |some x=>
  obtain⟨o',_,h1,h2,_⟩:=hF.at_ j x h
  rw[ho]at h1;cases h1;exact absurd h2 hk
def rO.still(hF:rO P all K T F)(h:T.H (j+1)=T.H j):F j=none:=by
 cases hq:F j with
 |none=>rfl
 |some x=>
  obtain⟨o',es,_,_,_,h3,_,h4,_⟩:=hF.at_ j x hq
  have h5:=Ins.adA x (T.H j) x.id;rw[<-h4,h,fk,cr,h3]at h5;simp at h5
def Ri(hT:qZ P N all K T)(hF:rO P all K T F){m:Nat}:∀(n:Nat),m+n<=all.length->(∀(j:Nat) (o:Oper),m<=j->j<m+n->all[j]?=some o->jc P K o<2∨jc P K o=4)->T.H (m+n)=mn ((List.range' m n).filterMap F) (T.H m)
 |0,_,_=>by simp[nZ]
 |n+1,hn,h=>by
  have ih:=Ri hT hF n ab λj o h1 h2=>h j o h1 ab;have ho:all[m+n]?=some all[m+n]:=aS ab;rw[List.range'_concat,List.filterMap_append,<-ep,c8];have hk:=h (m+n) _ ab ab ho;cases hf:F (m+n)with
  |some x=>
   obtain⟨_,_,_,_,_,_,_,h4,_⟩:=hF.at_ _ x hf
   simp only[fH,hf,eV];rw[<-Eo,<-ih,h4]
  |none=>
   simp only[fH,hf,eV,cG];rw[<-ih];rcases hT.step _ _ ho with⟨_,hc⟩|⟨_,_,hc⟩
   ·rcases hc with⟨_,_,hc⟩|⟨_,_,_,_,_,_,_,_,hH⟩|⟨_,_,_,_,ha,_⟩
    ·rcases hc with⟨_,h1,_⟩|⟨_,h1,_⟩|⟨h1,_⟩|⟨h1,_⟩|⟨h1,_,_,x,es,h2,h3,h4,h5,h6⟩
     exact h1;exact h1;omega;omega;obtain⟨y,hy⟩:=hF.of _ x ⟨_,es,ho,h1,h2,h3,h4,h5,h6⟩;rw[hf]at hy;cases hy
    exact hH;rw[Hn ha]at hk;omega
   exact hc
def is4(P:Program)(K:List Nat)(all:List Oper)(j:Nat):Bool:=match all[j]? with|some o=>Nat.beq (jc P K o) 4|none=>false
def Mj:is4 P K all j=true↔ ∃o,all[j]?=some o∧jc P K o=4:=by
 unfold is4;cases all[j]? with
 |none=>simp|some o=>simp
def rO.filter(hF:rO P all K T F):∀l:List Nat,(l.filter (is4 P K all)).filterMap F=l.filterMap F
 |[]=>rfl
 |j::l=>by
  rw[List.filter_cons];cases h:is4 P K all j with
  |true=>rw[aW rfl,fH,fH,hF.filter l]
  |false=>
   rw[aV aa,hF.filter l,fH];have:F j=none:=by
    cases hq:F j with
    |none=>rfl
    |some x=>
     obtain⟨o',_,h1,h2,_⟩:=hF.at_ j x hq
     rw[Mj.2 ⟨o',h1,h2⟩]at h;cases h
   rw[this]
structure DOk(P:Program)(K:List Nat)(all:List Oper)(S:Nat->Prop)(m:Nat)(D:List Nat):Prop where
 nd:D.Nodup
 mem:∀j,j∈D↔(m<=j∧S j∧∃o,all[j]?=some o∧jc P K o=4)
def rO.keq(hF:rO P all K T F)(D:List Nat)(H:PH):pR K H (mn (D.filterMap F) H):=
 B4 (λx hx=>by
  obtain⟨j,_,hj⟩:=fQ.1 hx;obtain⟨_,_,_,_,_,_,_,_,h⟩:=hF.at_ j x hj
  exact h) H
def Inv(P:Program)(N:Nat)(all:List Oper)(K:List Nat)(T:Tr)(F:Nat->Option Ins)(c0:Ctx)(S:Nat->Prop)(a:Act)(w:World):Prop:=
 ∃(c:Ctx) (m:Nat) (L:List (Tmp×Nat)) (D:List Nat),m<=all.length∧(∀(j:Nat) (o:Oper),all[j]?=some o->2<=jc P K o->jc P K o≠4->(S j↔j<m))∧
  ((∀(j:Nat) (o:Oper),all[j]?=some o->jc P K o=4->j<m->S j)∧DOk P K all S m D)∧c.w=w∧Rel P c (mn (D.filterMap F) (T.H m))∧c.hid=Er c0.hid L∧kI c0 (c.bare c0.hid)∧
  (∀x∈L,JS P K all S c0 c a x)∧(∀x∈L,∀y∈L,x.2=y.2->x=y)∧
  (∀(j:Nat) (o:Oper) (d:Tmp),all[j]?=some o->ve K o=some d->S j->(∃b,(d,b)∈L)∨∃(u:Nat) (o':Oper),all[u]?=some o'∧sB K o'=some d∧S u)∧
  a.defers=c0.hid.d∧a.tmps.size=N∧∀t,rC K all T S c t (a.tmps.getD t undef)
def rC.kA{S:Nat->Prop}{c c':Ctx}(hE:CV c c'){t:Nat}{v:Value}(h:rC K all T S c t v):rC K all T S c' t v:=by
 rcases h with⟨i,o,h1,h2,h3,h4,h5⟩|⟨h1,h2⟩
 exact .inl ⟨i,o,h1,h2,h3,h4,h5.kA hE⟩;exact .inr ⟨h1,h2.kA hE⟩
variable{hid':Hid}
def Rel.abV(hr:Rel P c H)(h:Ext c.w w')(h1:c.w.heap.size<=b)(h2:b<w'.heap.size)(hh:∀x p,hid' x p↔(c.hid x p∨x=b)):
  CV c ⟨c.σ,c.τ,c.μ,hid',w'⟩∧Rel P ⟨c.σ,c.τ,c.μ,hid',w'⟩ H:=by
 have hE:CV c ⟨c.σ,c.τ,c.μ,hid',w'⟩:=by
  refine⟨⟨[],by simp⟩,λid t ht=>⟨t,ht,rfl,rfl,.inl rfl⟩,λid t ht=>⟨t,ht,rfl,.inl rfl⟩,λa v ha hs hc=>⟨h.cell hc,?_,hs.2⟩⟩;have iI:=World.block_lt_of_cell? c.w a hc;intro hx;rcases(hh _ _).1 hx with hx|hx
  exact hs.1 hx;omega
 refine⟨hE,⟨hr.len,?_,hr.tk,?_,hr.nd,hr.td,hr.st,?_,?_,?_,hr.dead,hr.nq,?_,?_,hr.md,hr.ms,hr.mt,?_,hr.gl.kF hE.kF⟩⟩;intro i k cs hk kR;obtain⟨jJ,U,e1,e2,e3⟩:=hr.bx i k cs hk kR;exact⟨jJ,U,(h.yP k (hr.pB k (aY hk))).trans e1,e2,λj p v hp hv=>⟨(e3 j p v hp hv).1.kA hE,(e3 j p v hp hv).2⟩⟩;intro t ht lv;obtain⟨cur,e1,e2⟩:=hr.tb t ht lv;exact⟨cur,(h.yP _ (hr.Bd ht lv)).trans e1,e2⟩
 ·intro x p hx;rcases(hh _ _).1 hx with hx|hx
  exact bX (hr.nu x p hx) h.size;subst hx;exact h2
 ·intro t ht lv p hx;rcases(hh _ _).1 hx with hx|hx
  exact hr.tG t ht lv p hx;have:=hr.Bd ht lv;omega
 exact λx hx=>bX (hr.pB x hx) h.size;intro i t o hi ho;exact(hr.mu i t o hi ho).kA hE λlv=>h.yP _ (hr.mlt t (aY hi) lv);exact λt ht lv=>bX (hr.mlt t ht lv) h.size
 ·intro t ht lv p hx;rcases(hh _ _).1 hx with hx|hx
  exact hr.sW t ht lv p hx;have:=hr.mlt t ht lv;omega
variable{yP new:Array Value}
def Rel.afP(hr:Rel P c H){U:TypeId}(ho:c.w.heap[b]?=some (.cells yP U (0,0)))(hs:b∉c.σ)(ht:∀t∈c.τ,t.live=true->t.g≠b)(hm:∀t∈c.μ,t.live=true->t.g≠b)
  (hb:∀p,c.hid b p) (hh:∀x p,hid' x p->c.hid x p) (hl:new.size=cs.length) (hv:∀(j:Nat) (p:PV) (v:Value),cs[j]?=some p->new[j]?=some v->RV c p v∧v.oneCell'=true):
  CV c ⟨c.σ++[b],c.τ,c.μ,hid',c.w.setRow b new⟩∧Rel P ⟨c.σ++[b],c.τ,c.μ,hid',c.w.setRow b new⟩ ⟨H.bx++[cs],H.tk,H.mu⟩:=by
 have oI:∀k,k≠b->(c.w.setRow b new).heap[k]?=c.w.heap[k]? :=λk hk=>setRow_other c.w b k new hk;have alD:b<c.w.heap.size:=(dw.1 ho).1;have hE:CV c ⟨c.σ++[b],c.τ,c.μ,hid',c.w.setRow b new⟩:=by
  refine⟨⟨[b],rfl⟩,λid t ht=>⟨t,ht,rfl,rfl,.inl rfl⟩,λid t ht=>⟨t,ht,rfl,.inl rfl⟩,λa v ha HY hc=>?_⟩;have js:a.block≠b:=λe=>HY.1 (e▸hb _);refine⟨?_,λhx=>HY.1 (hh _ _ hx),?_,HY.2.2⟩;rw[<-hc];exact World.cell?_of_block (oI a.block js)
  ·intro hx;rcases bC.1 hx with hx|hx
   exact HY.2.1 hx;simp at hx;exact js hx
 refine⟨hE,⟨by simp[hr.len],?_,hr.tk,?_,?_,hr.td,?_,?_,?_,?_,hr.dead,hr.nq,?_,?_,hr.md,?_,hr.mt,?_,hr.gl.kF hE.kF⟩⟩
 ·intro i k ds hk pO;simp only at hk pO;by_cases hi:i<c.σ.length;rw[a8 hi]at hk;rw[a8 (by rw[<-hr.len];exact hi)]at pO;obtain⟨jJ,V,e1,e2,e3⟩:=hr.bx i k ds hk pO;have js:k≠b:=λe=>hs (e▸aY hk);exact⟨jJ,V,(oI k js).trans e1,e2,λj p v hp hv=>⟨(e3 j p v hp hv).1.kA hE,(e3 j p v hp hv).2⟩⟩
  ·rw[a7 ab]at hk;rw[a7 (by rw[<-hr.len];omega),<-hr.len]at pO;have BF:i-c.σ.length=0:=by
    have:=(aR.1 hk).1;simp at this;omega
   rw[BF]at hk pO;simp at hk pO;subst hk pO;exact⟨new,U,setRow_heap c.w b yP new U (0,0) ho,hl,λj p v hp pr=>⟨(hv j p v hp pr).1.kA hE,(hv j p v hp pr).2⟩⟩
 intro t kp lv;obtain⟨cur,e1,e2⟩:=hr.tb t kp lv;exact⟨cur,(oI _ (ht t kp lv)).trans e1,e2⟩;refine gZ.2 ⟨hr.nd,by simp,λx hx y hy e=>?_⟩;simp at hy;subst hy;exact hs (e▸hx)
 ·intro t kp lv hx;rcases bC.1 hx with hx|hx
  exact hr.st t kp lv hx;simp at hx;exact ht t kp lv hx
 intro x p hx;simpa using hr.nu x p (hh _ _ hx);exact λt kp lv p hx=>hr.tG t kp lv p (hh _ _ hx)
 ·intro x hx;rcases bC.1 hx with hx|hx
  simpa using hr.pB x hx;simp at hx;subst hx;simpa using alD
 intro i t o hi zG;exact(hr.mu i t o hi zG).kA hE λlv=>oI _ (hm t (aY hi) lv);intro t kp lv;simpa using hr.mlt t kp lv
 ·intro t kp lv hx;rcases bC.1 hx with hx|hx
  exact hr.ms t kp lv hx;simp at hx;exact hm t kp lv hx
 exact λt kp lv p hx=>hr.sW t kp lv p (hh _ _ hx)
def zK (hT:qZ P N all K T)(hF:rO P all K T F)(hO:Ordered P K all)(hS:lf all S)(hI:Inv P N all K T F c0 S a w)(h:Comes all S i o){Z:Act->World->Prop}{Q:Exit->Act->World->Prop}
    (hZ:∀a' w',Inv P N all K T F c0 (λk=>S k∨k=i) a' w'->Z a' w'):
    if Region.wanted o (yielded all.toArray a.tmps)then o.wp P a w Z Q∨(o.asks P a w∧LetsOut Q)else Z (a.put o.dst undef) w:=by
  obtain⟨c,m,L,D,hm,Qx,⟨hi4,hD⟩,rfl,hr,zw,hE,Bh,aaM,XF,GU,hN,hs⟩:=hI;have Qy:∀t∈looks all o,RV c (T.E i t) (a.tmps.getD t undef):=λt ht=>h.slot hT hO hS ht (hs t);have Rj:i<all.length:=(aR.1 h.at_).1;have tI:∀x∈o.op.operands.toList,RV c ((T.E i).eval x) (a.eval x):=by
    intro x hx;cases x with
    |tmp t=>exact Qy t (by simp only[looks,bC];exact .inl (fQ.2 ⟨.tmp t,hx,rfl⟩))|const v=>exact HQ c v|global g=>exact .mV g 0|func f=>exact .g _ _ (.raw _)
  have hle:2<=jc P K o->m<=i:=λhk=>Nat.le_of_not_lt λiI=>by
    by_cases e:jc P K o=4
    · exact h.out (hi4 i o h.at_ e iI)
    · exact h.out ((Qx i o h.at_ hk e).2 iI)
  have OB:2<=jc P K o->∀(j:Nat) (x:Oper),m<=j->j<i->all[j]?=some x->jc P K x<2∨jc P K x=4:=by intro hk j x pS sO hx;refine cj λhn=>?_;have zc:2<=jc P K x:=ab;have DA:jc P K x≠4:=ab;have:=(Qx j x hx zc DA).1 (h.before hO hS sO hx (tg zc hk (.inl DA)));omega
  have hHi:2<=jc P K o->T.H i=mn ((List.range' m (i-m)).filterMap F) (T.H m):=λhk=>by have h1:=hle hk;have:=Ri hT hF (m:=m) (i-m) ab λj x pS sO hx=>OB hk j x pS ab hx;rwa[show m+(i-m)=i by omega]at this
  have hDi:2<=jc P K o->jc P K o≠4->D.Perm ((List.range' m (i-m)).filter (is4 P K all)):=λhk DA=>by
    refine(List.perm_ext_iff_of_nodup hD.nd (List.Pairwise.filter _ List.nodup_range')).2 λj=>?_;rw[hD.mem,dK,Mj,List.mem_range'_1];have h1:=hle hk;constructor
    · rintro⟨q1,q2,x,q3,q4⟩
      refine⟨⟨q1,?_⟩,x,q3,q4⟩
      rcases fF j i with iI|rfl|oJ
      · omega
      · exact absurd q2 h.out
      · exact absurd q2 (h.behind hO hS oJ q3 (tg hk ab (.inl DA)))
    · rintro⟨⟨q1,q2⟩,x,q3,q4⟩
      exact⟨q1,h.before hO hS ab q3 (tg ab hk (.inr DA)),x,q3,q4⟩
  have hRi:2<=jc P K o->jc P K o≠4->Rel P c (T.H i):=λhk DA=>by rw[hHi hk,<-hF.filter];exact hr.perm (Fu ((hDi hk DA).filterMap F) _)
  have JU:2<=jc P K o->jc P K o≠4->∀(j:Nat) (x:Oper),all[j]?=some x->2<=jc P K x->jc P K x≠4->((S j∨j=i)↔j<i+1):=by
    intro hk DA j x hx zc US;constructor
    · rintro(xC|rfl)
      · have:=(Qx j x hx zc US).1 xC
        have:=hle hk
        omega
      · omega
    · intro iI
      by_cases e:j=i
      · exact .inr e
      · refine .inl ((Qx j x hx zc US).2 ?_)
        refine im λhmj=>?_
        have:=OB hk j x hmj ab hx
        omega
  have JV:2<=jc P K o->jc P K o≠4->(∀(j:Nat) (x:Oper),all[j]?=some x->jc P K x=4->j<i+1->(S j∨j=i))∧DOk P K all (λk=>S k∨k=i) (i+1) []:=by
    intro hk DA;refine⟨λj x hx zc iI=>?_,gL,λj=>?_⟩
    · by_cases e:j=i
      · exact .inr e
      · exact .inl (h.before hO hS ab hx (tg ab hk (.inr DA)))
    · constructor
      · intro hj;cases hj
      · rintro⟨q1,q2,x,q3,q4⟩
        rcases q2 with q2|rfl
        · exact absurd q2 (h.behind hO hS ab q3 (tg hk ab (.inl DA)))
        · omega
  have DD:(jc P K o<2∨jc P K o=4)->∀(j:Nat) (x:Oper),all[j]?=some x->2<=jc P K x->jc P K x≠4->((S j∨j=i)↔j<m):=by
    intro hk j x hx zc US;constructor
    · rintro(xC|rfl)
      · exact(Qx j x hx zc US).1 xC
      · rw[h.at_]at hx
        cases hx
        omega
    · intro iI
      exact .inl ((Qx j x hx zc US).2 iI)
  have JW:jc P K o≠4->(∀(j:Nat) (x:Oper),all[j]?=some x->jc P K x=4->j<m->(S j∨j=i))∧DOk P K all (λk=>S k∨k=i) m D:=by
    intro hk;refine⟨λj x hx zc iI=>.inl (hi4 j x hx zc iI),hD.nd,λj=>?_⟩;rw[hD.mem];constructor
    · rintro⟨q1,q2,q3⟩
      exact⟨q1,.inl q2,q3⟩
    · rintro⟨q1,q2,x,q3,q4⟩
      rcases q2 with q2|rfl
      · exact⟨q1,q2,x,q3,q4⟩
      · rw[h.at_]at q3;cases q3;exact absurd q4 hk
  have ahI:jc P K o=4->(∀(j:Nat) (x:Oper),all[j]?=some x->jc P K x=4->j<m->(S j∨j=i))∧DOk P K all (λk=>S k∨k=i) m (D++[i]):=by
    intro hk;refine⟨λj x hx zc iI=>.inl (hi4 j x hx zc iI),gZ.2 ⟨hD.nd,by simp,λa ha b hb e=>?_⟩,λj=>?_⟩
    · simp only[db]at hb
      subst hb;subst e
      exact h.out ((hD.mem _).1 ha).2.1
    · rw[bC,hD.mem,db]
      constructor
      · rintro(⟨q1,q2,q3⟩|rfl)
        · exact⟨q1,.inl q2,q3⟩
        · exact⟨hle ab,.inr rfl,o,h.at_,hk⟩
      · rintro⟨q1,q2|q2,q3⟩
        · exact .inl ⟨q1,q2,q3⟩
        · exact .inr q2
  have done:ve K o=none->sB K o=none->∀(c':Ctx) (m':Nat) (D':List Nat) (rv:Value),m'<=all.length->(∀(j:Nat) (x:Oper),all[j]?=some x->2<=jc P K x->jc P K x≠4->((S j∨j=i)↔j<m'))->
      ((∀(j:Nat) (x:Oper),all[j]?=some x->jc P K x=4->j<m'->(S j∨j=i))∧DOk P K all (λk=>S k∨k=i) m' D')->Rel P c' (mn (D'.filterMap F) (T.H m'))->kI c c'->RV c' (T.V i) rv->Z (a.put o.dst rv) c'.w:=by
    intro oK lr c' m' D' rv Oh aeQ Ep kP rX hv;have Fv:l7 K o=o.dst:=(by unfold l7;rw[lr]);have hpg:=S9 hN (hT.dst i o h.at_) rv;refine hZ _ _ ⟨c',m',L,D',Oh,aeQ,Ep,rfl,kP,rX.hid.trans zw,hE.trans (YR rX zw Bh),λx hx=>?_,aaM,?_,by cases o.dst<;>exact GU,by cases o.dst<;>simpa[Act.put]using hN,?_⟩
    · have js:o.dst≠some x.1:=λe=>by
        obtain⟨i1,u,a1,b1,t,y,_,e1,e2,_,_,_,_,_,e5,e6,e7⟩:=(hO.float _ (Bh x hx).mem).ex;rcases e7 i o h.at_ (Fv.trans e)with rfl|rfl
        · rw[h.at_]at e1;cases e1;rw[oK]at e5;cases e5
        · rw[h.at_]at e2;cases e2;rw[lr]at e6;cases e6
      refine(Bh x hx).step rX (hpg.2 _ js) (λu o' hu qd Cl=>?_) (λk hk=>.inl hk)
      rcases Cl with Cl|rfl
      · exact(Bh x hx).open_ u o' hu qd Cl
      · rw[h.at_]at hu;cases hu;rw[lr]at qd;cases qd
    · intro j a' d hj hd xC
      rcases xC with xC|rfl
      · rcases XF j a' d hj hd xC with h1|⟨u,b,h1,h2,h3⟩
        · exact .inl h1
        · exact .inr ⟨u,b,h1,h2,.inl h3⟩
      · rw[h.at_]at hj;cases hj;rw[oK]at hd;cases hd
    · exact rC.put hO hS h (λt e=>by rw[hpg.1 t (Fv▸e)];exact hv) (λt e=>hpg.2 t (Fv▸e)) λt=>(hs t).mono rX
  have run:ve K o=none->sB K o=none->∀(H1 H':PH) (m':Nat) (D':List Nat),m'<=all.length->(∀(j:Nat) (x:Oper),all[j]?=some x->2<=jc P K x->jc P K x≠4->((S j∨j=i)↔j<m'))->
      ((∀(j:Nat) (x:Oper),all[j]?=some x->jc P K x=4->j<m'->(S j∨j=i))∧DOk P K all (λk=>S k∨k=i) m' D')->Rel P c H1->H'=mn (D'.filterMap F) (T.H m')->PO P o (T.E i).eval H1 (T.V i) H'->o.wp P a c.w Z Q:=by
    intro oK lr H1 H' m' D' Oh aeQ Ep nV hH' Ek;refine(Ek c a.eval nV tI).wp ?_;rintro rv w' ⟨c',rfl,kP,rX,hv⟩;exact done oK lr c' m' D' rv Oh aeQ Ep (hH'▸kP) rX hv
  rcases hT.step i o h.at_ with⟨hg,hc⟩|⟨hg,hv,hH⟩
  · rw[OA Qy hg,aW rfl]
    left
    rcases hc with⟨oK,lr,hc⟩|⟨d,t,z,oK,pQ,hz,kl,hv,hH⟩|⟨x,t,y,cs,lr,pQ,kl,kR,hv,hH,hq⟩
    · rcases hc with⟨hk,_,Ek⟩|⟨hk,_,Ek⟩|⟨hk,Ek,_⟩|⟨hk,Ek,_⟩|⟨hk,hdn,UT,x0,es0,q1,q2,q3,q4,q5⟩
      · refine run oK lr _ _ m D hm (DD ab) (JW ab) hr rfl (Ek _ ?_)
        refine rA.trans ?_ (hF.keq D _).sh
        rcases Nat.le_total i m with S8|S8
        · exact adD hT S8 hm
        · exact(adD hT S8 ab).symm
      · refine run oK lr _ _ m D hm (DD ab) (JW ab) hr rfl (Ek _ ?_)
        refine pR.trans ?_ (hF.keq D _)
        rcases Nat.le_total i m with S8|S8
        · refine adC hT S8 hm λj x pS sO hx zc=>?_
          have js:i≠j:=λe=>by subst e;rw[h.at_]at hx;cases hx;omega
          exact h.behind hO hS ab hx (abS hk zc) ((Qx j x hx ab ab).2 sO)
        · refine(adC hT S8 ab λj x pS sO hx zc=>?_).symm
          have:=(Qx j x hx ab ab).1 (h.before hO hS sO hx (abU zc hk))
          omega
      · exact run oK lr (T.H i) (T.H (i+1)) (i+1) [] Rj (JU ab ab) (JV ab ab) (hRi ab ab) (nZ _).symm Ek
      · exact run oK lr (T.H i) (T.H (i+1)) (i+1) [] Rj (JU ab ab) (JV ab ab) (hRi ab ab) (nZ _).symm Ek
      · -- something is put into a map
        obtain⟨x,hx⟩:=hF.of i x0 ⟨o,es0,h.at_,hk,q1,q2,q3,q4,q5⟩
        obtain⟨o',es,p1,_,p2,p3,p4,p5,p6⟩:=hF.at_ i x hx
        have:o'=o:=cE (p1.symm.trans h.at_)
        subst this
        have hmi:=hle ab
        have alE:=hHi ab
        rw[alE,sY]at p3
        cases XG:(T.H m).mu[x.id]? with
        |none=>rw[XG]at p3;cases p3
        |some o0=>
          rw[XG]at p3;simp only[eS,cg]at p3;cases o0 with
          |gone n=>cases p3|arr n e es=>cases p3|iter n s pos=>cases p3
          |map es1=>
            simp only[CX,MO.map.injEq]at p3;have hmu:(mn (D.filterMap F) (T.H m)).mu[x.id]?=some (.map (es1++((D.filterMap F).filter λy=>Nat.beq y.id x.id).map λy=>(y.k,y.v))):=(by rw[sY,XG];rfl);have hold:∀e∈es,v8 x.k e.1=some false:=uH.1 p4;have hfr:mj x.k (es1++((D.filterMap F).filter λy=>Nat.beq y.id x.id).map λy=>(y.k,y.v))=some none:=by
              refine uH.2 λe he=>?_;rcases bC.1 he with he|he
              · exact hold e (by rw[<-p3];exact fi _ he)
              · obtain⟨y,hy,rfl⟩:=cH.1 he
                obtain⟨pD,OC⟩:=dK.1 hy
                obtain⟨j,pS,sO⟩:=fQ.1 pD
                obtain⟨r1,r2,oj,r3,r4⟩:=(hD.mem j).1 pS
                have hji:j≠i:=λe=>h.out (e▸r2)
                rcases Nat.lt_or_gt_of_ne hji with iI|oJ
                · refine hold (y.k,y.v) ?_
                  rw[<-p3]
                  refine ed _ (cH.2 ⟨y,dK.2 ⟨fQ.2 ⟨j,?_,sO⟩,OC⟩,rfl⟩)
                  rw[List.mem_range'_1];omega
                · obtain⟨oj',HU,s1,_,_,s3,s4,_,_⟩:=hF.at_ j y sO
                  have aor:=(aR.1 r3).1
                  have hHj:=Ri hT hF (m:=m) (j-m) ab λq z hq1 XH hz=>by refine cj λhn=>?_;have:=(Qx q z hz ab ab).1 (hO.pair S hS j oj q z r3 ab hz (tg ab ab (.inl ab)) r2);omega
                  rw[show m+(j-m)=j by omega]at hHj
                  have hid:=bl OC
                  rw[hHj,sY,hid,XG]at s3
                  simp only[eS,cg,CX,MO.map.injEq]at s3
                  have h9:=uH.1 s4 (x.k,x.v) (by rw[<-s3];refine ed _ (cH.2 ⟨x,dK.2 ⟨fQ.2 ⟨i,?_,hx⟩,fk _⟩,rfl⟩);rw[List.mem_range'_1];omega)
                  exact RR h9
            refine run oK lr _ _ m (D++[i]) hm (DD (.inr hk)) (ahI hk) hr ?_ (UT▸XA p2 hmu hfr);rw[List.filterMap_append,fH,hx,eV,<-Eo]
    · -- a new variable is made
      obtain⟨_,hdK,JX,Fv,lr⟩:=w7 oK
      obtain⟨i1,u1,a1,b1,t1,y1,iI,e1,e2,e3,e4,_,_,_,e5,e6,e7⟩:=(hO.float _ hdK).ex
      have BG:i=i1:=by
        rcases e7 i o h.at_ Fv with hh|hh
        · exact hh
        · subst hh;rw[h.at_]at e2;cases e2;rw[lr]at e6;cases e6
      subst BG
      have adG:∀(j:Nat) (o':Oper),all[j]?=some o'->ve K o'=some d->j=i:=by
        intro j o' hj hd;rcases e7 j o' hj (w7 hd).2.2.2.1 with hh|hh
        · exact hh
        · subst hh;rw[hj]at e2;cases e2;rw[(w7 hd).2.2.2.2]at e6;cases e6
      have ajz:∀(u:Nat) (o':Oper),all[u]?=some o'->sB K o'=some d->¬(S u∨u=i):=by
        intro u o' hu qd Cl;rcases Cl with Cl|rfl
        · obtain⟨⟨t',y',zG⟩,_,ahL⟩:=DB qd
          rcases e7 u o' hu ahL with rfl|rfl
          · rw[h.at_]at hu;cases hu;rw[lr]at qd;cases qd
          · exact h.out (hO.pair S hS u o' i o hu iI h.at_ (Am Fv ahL) Cl)
        · rw[h.at_]at hu;cases hu;rw[lr]at qd;cases qd
      have kX:(execOp a.eval o).run P c.w=.ok (.value (.pointer (some ⟨c.w.heap.size,0,none⟩))) (c.w.alloc (.cells z.cells t)):=by simp[execOp,pQ,Instr.alloc,qL hz,newVar,newRow,newObj,Sem.run]
      have kS:kU P a.eval o c.w (λrv w'=>rv=.pointer (some ⟨c.w.heap.size,0,none⟩)∧w'=c.w.alloc (.cells z.cells t)):=by unfold kU;rw[kX];exact⟨rfl,rfl⟩
      refine kS.wp ?_
      rintro rv w' ⟨rfl,rfl⟩
      have hpg:=S9 hN (hT.dst i o h.at_) (.pointer (some ⟨c.w.heap.size,0,none⟩))
      have hX:=Ext.alloc c.w (.cells z.cells t)
      obtain⟨hEL,hR⟩:=hr.abV hX (b:=c.w.heap.size) (aZ _) aa (hid':=Er c0.hid ((d,c.w.heap.size)::L)) (λx p=>by
        rw[zw];simp only[Er,bN,exists_eq_or_imp];constructor
        · rintro(hx|hx|hx)
          · exact .inl (.inl hx)
          · exact .inr hx.symm
          · exact .inl (.inr hx)
        · rintro((hx|hx)|hx)
          · exact .inl hx
          · exact .inr (.inr hx)
          · exact .inr (.inl hx.symm))
      have hEb:kI (c.bare c0.hid) (Ctx.bare ⟨c.σ,c.τ,c.μ,Er c0.hid ((d,c.w.heap.size)::L),c.w.alloc (.cells z.cells t)⟩ c0.hid):=by have:=yg (c:=c.bare c0.hid) hX [] [] [] aa aa aa;simpa[Ctx.bare]using this
      refine hZ _ _ ⟨⟨c.σ,c.τ,c.μ,Er c0.hid ((d,c.w.heap.size)::L),c.w.alloc (.cells z.cells t)⟩,m,(d,c.w.heap.size)::L,D,hm,DD (by rw[Ow oK];omega),JW (by rw[Ow oK];omega),rfl,hR,rfl,hE.trans hEb,?_,?_,?_,by cases o.dst<;>exact GU,by cases o.dst<;>simpa[Act.put]using hN,?_⟩
      · intro x hx
        rcases bN.1 hx with rfl|hx
        · refine⟨hpg.1 d JX,hdK,⟨z.cells,t,Go.heap_alloc_new c.w _,kl,λz' hz'=>by rw[hz]at hz';cases hz';rfl,λj o' hj hd=>?_⟩,λhm=>?_,λt ht lv=>?_,λt ht lv=>?_,hE.size,ajz,⟨i,o,h.at_,oK,.inr rfl⟩⟩
          · have:=adG j o' hj hd
            subst this
            rw[h.at_]at hj;cases hj;exact pQ
          · exact Nat.lt_irrefl _ (hr.pB _ hm)
          · exact Nat.ne_of_lt (hr.Bd ht lv)
          · exact Nat.ne_of_lt (hr.mlt t ht lv)
        · have hp:=Bh x hx
          have js:o.dst≠some x.1:=λe=>by rw[JX]at e;cases e;obtain⟨j,o',hj,hd,xC⟩:=hp.made;have:=adG j o' hj hd;subst this;exact h.out xC
          obtain⟨jJ,t',r1,r2⟩:=hp.row
          refine⟨(hpg.2 _ js).trans hp.slot,hp.mem,⟨jJ,t',(hX.yP _ hp.lt).trans r1,r2⟩,hp.sig,hp.tok,hp.mu,hp.new,λu o' hu qd Cl=>?_,hp.made.imp λj ⟨o',q1,q2,q3⟩=>⟨o',q1,q2,.inl q3⟩⟩
          rcases Cl with Cl|rfl
          · exact hp.open_ u o' hu qd Cl
          · rw[h.at_]at hu;cases hu;rw[lr]at qd;cases qd
      · intro x hx y hy e
        rcases bN.1 hx with rfl|hx<;>rcases bN.1 hy with rfl|hy
        · rfl
        · have:=(Bh y hy).lt;simp only at e;omega
        · have:=(Bh x hx).lt;simp only at e;omega
        · exact aaM x hx y hy e
      · intro j o' d' hj hd xC
        rcases xC with xC|rfl
        · rcases XF j o' d' hj hd xC with⟨b,h1⟩|⟨u,b,h1,h2,h3⟩
          · exact .inl ⟨b,bw _ h1⟩
          · exact .inr ⟨u,b,h1,h2,.inl h3⟩
        · rw[h.at_]at hj;cases hj
          rw[oK]at hd;cases hd
          exact .inl ⟨_,bE ..⟩
      · exact rC.put hO hS h (λt e=>by rw[hv];exact .any _) (λt e=>hpg.2 t (λe'=>e (by unfold l7;rw[lr];exact e'))) λt=>(hs t).kA hEL
    · -- a new variable's first store
      obtain⟨_,hxK,Fv⟩:=DB lr
      obtain⟨i1,u1,a1,b1,t1,y1,iI,e1,e2,e3,e4,_,_,hbd,e5,e6,e7⟩:=(hO.float _ hxK).ex
      have BG:i=u1:=by
        rcases e7 i o h.at_ Fv with hh|hh
        · subst hh;rw[h.at_]at e1;cases e1;rw[(w7 e5).2.2.2.2]at lr;cases lr
        · exact hh
      subst BG
      have hob:o=b1:=cE (h.at_.symm.trans e2)
      subst hob
      have hS1:S i1:=h.before hO hS iI e1 (Am (w7 e5).2.2.2.1 Fv)
      obtain⟨kh,ki⟩:∃b,(x,b)∈L:=by
        rcases XF i1 a1 x e1 e5 hS1 with hh|⟨u,o',hu,qd,Cl⟩
        · exact hh
        · exfalso
          rcases e7 u o' hu (DB qd).2.2 with rfl|rfl
          · rw[e1]at hu;cases hu;rw[(w7 e5).2.2.2.2]at qd;cases qd
          · exact h.out Cl
      have hp:=Bh _ ki
      obtain⟨jJ,t',r1,r2,_,r3⟩:=hp.row
      have kp:t'=t:=by have q1:=r3 i1 a1 e1 e5;rw[e3]at q1;rw[e4]at pQ;cases q1;cases pQ;rfl
      subst kp
      simp only at r1
      have n9:jc P K o=2:=Hn lr
      have hr:=hRi ab ab
      have Jf:a.eval (.tmp x)=.pointer (some ⟨kh,0,none⟩):=hp.slot
      obtain⟨f1,f2⟩:=pN (tI y (by simp[pQ,Op.operands])) kR
      have GW:jJ.size=cs.length:=by rw[kl]at r2;exact(cE r2).symm
      have jE:∀v∈(a.eval y).cells.toList,v.oneCell'=true:=by intro v hv;obtain⟨j,hj,rfl⟩:=List.mem_iff_getElem.1 hv;have wT:j<cs.length:=(by rw[f1];simpa using hj);exact(f2 j cs[j] _ (aS wT) aa).2
      have lT:=run_storeCells_at P kh 0 t' (a.eval y).cells.toList 0 jJ c.w r1 ad jE
      have q7:(jJ.toList.take 0++(a.eval y).cells.toList++jJ.toList.drop (0+(a.eval y).cells.size)).toArray=(a.eval y).cells:=by rw[gX ad];simp
      have kX:(execOp a.eval o).run P c.w=.ok .skip (c.w.setRow kh (a.eval y).cells):=by simp only[b9]at lT;rw[<-q7];simp[execOp,pQ,Jf,Instr.storeAt,Instr.sureAddr,storeVar,run_sizeOf kl,<-f1,lT]
      have kS:kU P a.eval o c.w (λrv w'=>w'=c.w.setRow kh (a.eval y).cells):=by unfold kU;rw[kX]
      refine kS.wp ?_
      rintro rv w' rfl
      rw[hbd]
      have hb:∀p,c.hid kh p:=λp=>by rw[zw];exact .inr ⟨_,ki,rfl⟩
      obtain⟨hEL,hR⟩:=hr.afP (hid':=Er c0.hid (L.filter λq=>decide (q.2≠kh))) r1 hp.sig hp.tok hp.mu hb (λb p hh=>by
        rw[zw];rcases hh with hh|⟨q,hq,e⟩
        · exact .inl hh
        · exact .inr ⟨q,(dK.1 hq).1,e⟩) f1.symm f2
      have hHi:mn ([].filterMap F) (T.H (i+1))=⟨(T.H i).bx++[cs],(T.H i).tk,(T.H i).mu⟩:=by rw[eV,nZ,hH]
      have oI:∀k,k≠kh->(c.w.setRow kh (a.eval y).cells).heap[k]?=c.w.heap[k]? :=λk hk=>setRow_other c.w kh k _ hk
      have hblk:c0.w.heap.size<=kh:=hp.new
      have hEb:kI c0 (Ctx.bare ⟨c.σ++[kh],c.τ,c.μ,Er c0.hid (L.filter λq=>decide (q.2≠kh)),c.w.setRow kh (a.eval y).cells⟩ c0.hid):=by
        obtain⟨n,hn,Je⟩:=hE.sig;refine⟨hE.os,hE.tape,hE.output,by simpa[Ctx.bare]using hE.size,rfl,⟨n++[kh],?_,?_⟩,hE.tok,hE.mu,hE.sA,hE.pq,?_,?_⟩
        · simp only[Ctx.bare]at hn⊢
          rw[hn,bV]
        · intro b hb
          rcases bC.1 hb with hb|hb
          · exact Je b hb
          · simp at hb;subst hb;exact hblk
        · intro b v Au alF hc
          have vy:=World.block_lt_of_cell? c0.w b hc
          obtain⟨k1,k2⟩:=hE.kF b v Au alF hc
          have js:b.block≠kh:=ab
          refine⟨?_,k2.1,?_,k2.2.2⟩
          · rw[<-k1]
            exact World.cell?_of_block (oI _ js)
          · intro hx
            rcases bC.1 hx with hx|hx
            · exact k2.2.1 hx
            · simp at hx;exact js hx
        · intro b Au h1 h2 h3
          exact(oI b ab).trans (hE.frame b Au h1 h2 h3)
      refine hZ _ _ ⟨⟨c.σ++[kh],c.τ,c.μ,Er c0.hid (L.filter λq=>decide (q.2≠kh)),c.w.setRow kh (a.eval y).cells⟩,i+1,L.filter λq=>decide (q.2≠kh),[],Rj,JU ab ab,JV ab ab,rfl,hHi▸hR,rfl,hEb,?_,?_,?_,GU,hN,?_⟩
      · intro q hq
        obtain⟨hq1,XH⟩:=dK.1 hq
        have XH:q.2≠kh:=aU XH
        have kD:=Bh q hq1
        obtain⟨ajA,t2,s1,s2⟩:=kD.row
        refine⟨kD.slot,kD.mem,⟨ajA,t2,(oI _ XH).trans s1,s2⟩,?_,kD.tok,kD.mu,kD.new,λu o' hu qd Cl=>?_,kD.made.imp λj ⟨o',q1,q2,q3⟩=>⟨o',q1,q2,.inl q3⟩⟩
        · intro hx
          rcases bC.1 hx with hx|hx
          · exact kD.sig hx
          · simp at hx;exact XH hx
        · rcases Cl with Cl|rfl
          · exact kD.open_ u o' hu qd Cl
          · rw[h.at_]at hu;cases hu
            rw[lr]at qd
            have e:x=q.1:=cE qd
            have s3:=kD.slot
            rw[<-e]at s3
            have s4:=hp.slot
            simp only at s4
            rw[s3]at s4
            simp at s4
            exact XH s4
      · exact λq hq r kP e=>aaM q (dK.1 hq).1 r (dK.1 kP).1 e
      · intro j o' d hj hd xC
        rcases xC with xC|rfl
        · rcases XF j o' d hj hd xC with⟨b,h1⟩|⟨u,b,h1,h2,h3⟩
          · by_cases e:b=kh
            · have:=aaM _ h1 _ ki e
              cases this
              exact .inr ⟨i,o,h.at_,lr,.inr rfl⟩
            · exact .inl ⟨b,dK.2 ⟨h1,by simpa using e⟩⟩
          · exact .inr ⟨u,b,h1,h2,.inl h3⟩
        · rw[h.at_]at hj;cases hj
          rw[(w7 hd).2.2.2.2]at lr;cases lr
      · refine rC.put hO hS h (a':=a) (λt e=>?_) (λt e=>rfl) λt=>(hs t).kA hEL
        rw[Fv]at e
        cases e
        rw[hv]
        have:a.tmps.getD x undef=.pointer (some ⟨kh,0,none⟩):=hp.slot
        rw[this]
        exact .ptr _ _ _ (by simp[<-hr.len])
  · have Aw:ve K o=none∧sB K o=none:=by
      constructor
      · cases oK:ve K o with
        |none=>rfl
        |some d=>
          exfalso;obtain⟨_,hdK,_,Fv,lr⟩:=w7 oK;obtain⟨i1,u1,a1,b1,t1,y1,iI,e1,e2,e3,e4,g1,_,_,e5,e6,e7⟩:=(hO.float _ hdK).ex;rcases e7 i o h.at_ Fv with rfl|rfl
          · rw[h.at_]at e1;cases e1;unfold gd at hg;rw[g1]at hg;cases hg
          · rw[h.at_]at e2;cases e2;rw[lr]at e6;cases e6
      · cases lr:sB K o with
        |none=>rfl
        |some x=>
          exfalso;obtain⟨_,hxK,Fv⟩:=DB lr;obtain⟨i1,u1,a1,b1,t1,y1,iI,e1,e2,e3,e4,_,g1,_,e5,e6,e7⟩:=(hO.float _ hxK).ex;rcases e7 i o h.at_ Fv with rfl|rfl
          · rw[h.at_]at e1;cases e1;rw[(w7 e5).2.2.2.2]at lr;cases lr
          · rw[h.at_]at e2;cases e2;unfold gd at hg;rw[g1]at hg;cases hg
    rw[OA Qy hg,aV aa]
    by_cases hk:2<=jc P K o
    · by_cases DA:jc P K o=4
      · exact done Aw.1 Aw.2 c m (D++[i]) undef hm (DD (.inr DA)) (ahI DA) (by rw[List.filterMap_append,fH,hF.still hH,eV,cG];exact hr) (kI.refl c) (by rw[hv];exact .g _ _ (.raw _))
      · exact done Aw.1 Aw.2 c (i+1) [] undef Rj (JU hk DA) (JV hk DA) (by rw[eV,nZ,hH];exact hRi hk DA) (kI.refl c) (by rw[hv];exact .g _ _ (.raw _))
    · exact done Aw.1 Aw.2 c m D undef hm (DD ab) (JW ab) hr (kI.refl c) (by rw[hv];exact .g _ _ (.raw _))
def Gc(hT:qZ P N all K T)(hF:rO P all K T F)(hO:Ordered P K all)(hSl:∀i,S i->i<all.length)(lM:∀i,i<all.length->S i)(hI:Inv P N all K T F c0 S a w):
  ∃c,c.w=w∧Rel P c (T.H all.length)∧kI c0 c∧ER c N (T.E all.length) a:=by
 obtain⟨c,m,L,D,hm,Qx,⟨_,hD⟩,rfl,hr,zw,hE,Bh,_,_,GU,hN,hs⟩:=hI;have hL:L=[]:=by
  cases L with
  |nil=>rfl
  |cons x L=>
   exfalso;have hp:=Bh x (bE ..);obtain⟨i1,u1,a1,b1,t1,y1,iI,e1,e2,e3,e4,_,g1,_,e5,e6,e7⟩:=(hO.float _ hp.mem).ex;exact hp.open_ u1 b1 e2 e6 (lM u1 (aR.1 e2).1)
 subst hL;rw[zJ]at zw;have hE:kI c0 c:=by
  have:c.bare c0.hid=c:=by cases c;simp only[Ctx.bare]at *;rw[zw]
  rw[this]at hE;exact hE
 have hH:T.H all.length=mn ((List.range' m (all.length-m)).filterMap F) (T.H m):=by
  have:=Ri hT hF (m:=m) (all.length-m) ab λj o pS sO hx=>by refine cj λhn=>?_;have:=(Qx j o hx ab ab).1 (lM j ab);omega
  rwa[show m+(all.length-m)=all.length by omega]at this
 have hR:Rel P c (T.H all.length):=by rw[hH,<-hF.filter];refine hr.perm (Fu (List.Perm.filterMap F ?_) _);refine(List.perm_ext_iff_of_nodup hD.nd (List.Pairwise.filter _ List.nodup_range')).2 λj=>?_;rw[hD.mem,dK,Mj,List.mem_range'_1];constructor;rintro⟨q1,q2,q3⟩;have:=hSl j q2;exact⟨⟨q1,by omega⟩,q3⟩;rintro⟨⟨q1,q2⟩,q3⟩;exact⟨q1,lM j ab,q3⟩
 refine⟨c,rfl,hR,hE,GU.trans (aT Hid.d zw).symm,hN,λt=>?_⟩;rcases hs t with⟨i,o,h1,h2,h3,h4,h5⟩|⟨h1,h2⟩
 have hi:=(aR.1 h1).1;rw[Ox hT h1 h3 _ hi (aZ _) λj o' pS sO Oy=>h4 j o' pS Oy (lM j sO)];exact h5;rw[JR hT _ (aZ _) λj o' pS sO=>h1 j o' sO (lM j pS)];exact h2
def lh(listed:Array Bool)(i:Nat):Prop:=listed.getD i false=true
def left(listed:Array Bool)(n:Nat):Nat:=((List.range n).filter λi=> !listed.getD i false).length
variable{listed:Array Bool}
def Mk{k:Nat}(hi:i<listed.size):lh (listed.setIfInBounds i true) k↔(lh listed k∨k=i):=by unfold lh;simp only[bF,fE];by_cases e:i=k;subst e;simp[hi];simp[e];intro h;exact absurd h.symm e
def Ho(hi:i<listed.size)(hn:i<n)(hl:¬lh listed i):left (listed.setIfInBounds i true) n<left listed n:=by
 unfold left;have h1:((List.range n).filter λk=> !(listed.setIfInBounds i true).getD k false)=((List.range n).filter λk=> !listed.getD k false).filter (λk=>decide (k≠i)):=by rw[List.filter_filter];congr 1;funext k;by_cases e:i=k;subst e;simp[bF,hi];have e':¬k=i:=λh=>e h.symm;simp[bF,e,e']
 rw[h1];refine List.length_filter_lt_length_iff_exists.2 ⟨i,?_,by simp⟩;simp only[dK,fR];refine⟨hn,?_⟩;simpa[lh]using hl
def th(kl:listed.size=all.length)(h:i∈Region.ready .any all.toArray listed):∃o,Comes all (lh listed) i o:=by
 unfold Region.ready at h;rw[dK]at h;obtain⟨h1,h2⟩:=h;have iI:i<all.length:=by simpa using h1
 simp only[bI]at h2;refine⟨all[i],aS iI,?_,?_⟩;have:=h2.1;simp only[lh,bF]at this⊢;rw[dr ab]at this⊢;simpa using this
 ·intro e he hb;have h3:=h2.2;have:(all.toArray)[i]?=some all[i]:=by simp[iI]
  rw[this]at h3;simp only[eS,Option.getD_some]at h3;have h4:=fN.1 h3 e he;simp only[hb,Bool.not_true,Bool.false_or]at h4;exact h4
def M3(hO:Ordered P K all)(kl:listed.size=all.length)(h:Region.ready .any all.toArray listed=[]):∀i,i<all.length->lh listed i:=by
 intro i;induction i using Nat.strongRecOn with
 |_ i ih=>
  intro hi;refine cj λhn=>?_;have:i∈Region.ready .any all.toArray listed:=by
   unfold Region.ready;rw[dK];refine⟨by simpa using hi,?_⟩;simp only[bI];refine⟨?_,?_⟩;simp only[lh,bF]at hn⊢;rw[dr ab]at hn⊢;simpa using hn
   ·have e0:(all.toArray)[i]?=some all[i]:=(by simp[hi]);rw[e0];simp only[eS,Option.getD_some];refine fN.2 λe he=>?_;cases hb:Region.binds .any e with
    |false=>simp
    |true=>
     have iI:=hO.back i all[i] (aS hi) e he hb;have:=ih e.on iI ab;simp only[lh]at this;simp[this]
  rw[h]at this;cases this
def JY(h:lh listed i):i<listed.size:=by refine im λhn=>?_;unfold lh at h;rw[bF,Array.getElem?_eq_none hn]at h;cases h
def yR(hT:qZ P N all K T)(hF:rO P all K T F)(hO:Ordered P K all){c0:Ctx}{Q:Exit->Act->World->Prop}
  (hQ:∀a w,(∃c,c.w=w∧Rel P c (T.H all.length)∧kI c0 c∧ER c N (T.E all.length) a)->Q .normal a w):
  ∀(fuel:Nat) (listed:Array Bool) (a:Act) (w:World),listed.size=all.length->left listed all.length<=fuel->lf all (lh listed)->Inv P N all K T F c0 (lh listed) a w->wpAny P .any all.toArray Q fuel listed a w
 |0,listed,a,w,kl,hf,hS,hI=>by
  have lM:∀i,i<all.length->lh listed i:=by intro i hi;refine cj λhn=>?_;have ki:i∈(List.range all.length).filter λi=> !listed.getD i false:=(by simp only[dK,fR];exact⟨hi,by simpa[lh]using hn⟩);have h0:(List.range all.length).filter (λi=> !listed.getD i false)=[]:=df (by unfold left at hf;omega);rw[h0]at ki;cases ki
  refine⟨?_,hQ a w (Gc hT hF hO (λi hi=>kl▸JY hi) lM hI)⟩;refine eF.2 λi hi=>?_;obtain⟨o,hc⟩:=th kl hi;exact hc.out (lM i (aR.1 hc.at_).1)
 |fuel+1,listed,a,w,kl,hf,hS,hI=>by
  refine⟨λh0=>hQ a w (Gc hT hF hO (λi hi=>kl▸JY hi) (M3 hO kl h0) hI),λi hi=>?_⟩;obtain⟨o,hc⟩:=th kl hi;have iI:=(aR.1 hc.at_).1;have pQ:(all.toArray)[i]?=some o:=by simpa using hc.at_
  have tT:=zK (Q:=Q) hT hF hO hS hI hc (Z:=wpAny P .any all.toArray Q fuel (listed.setIfInBounds i true)) (by
   intro a' w' uA;have lG:lh (listed.setIfInBounds i true)=λk=>lh listed k∨k=i:=funext λk=>propext (Mk ab);refine yR hT hF hO hQ fuel _ a' w' (by simpa using kl) ?_ ?_ ?_;have:=Ho (n:=all.length) (by omega:i<listed.size) iI hc.out;omega
   ·rw[lG];intro k y hy hk e he hb;rcases hk with hk|rfl
    exact .inl (hS k y hy hk e he hb);rw[hc.at_]at hy;cases hy;exact .inl (hc.pre e he hb)
   rw[lG];exact uA)
  unfold wpOp;rw[pQ];exact tT
def Ta{id:Nat}{l:List Oper}(K:List Nat)(hm:P.follows .mixedOrders=true)(hd:uI P K l=true)(h:ju P N l.toArray K (λenv H=>Q .normal env H) l env H):
  PW P N (.region id l.toArray true) Q env H:=by
 obtain⟨T,e1,e2,e3,e4⟩:=G0 l 0 env H aa h;have hT:qZ P N l K T:=⟨λi o ho=>(e4 i o (bm _) ho).1,λi o ho=>(e4 i o (bm _) ho).2.1,λi o ho=>(e4 i o (bm _) ho).2.2⟩;have hO:=yB hd;obtain⟨F,hF⟩:=CY P l K T;intro c a hr he;refine wp_region_any hm ?_;have hg:=hr.grow (Ext.drew c.w);have none:∀i,¬lh (Array.replicate l.toArray.size false) i:=by intro i h;simp only[lh,bF]at h;by_cases hi:i<l.length<;>simp[hi]at h
 refine yR (c0:=c) hT hF hO ?_ _ _ a _ aa ?_ (λj o _ hj=>absurd hj (none j)) ?_;rintro a' w' ⟨c',rfl,kP,hE,mw⟩;simp only[bc]at e3;exact⟨c',_,_,e3,rfl,kP,hE,mw⟩;unfold left;refine b8 (List.length_filter_le _ _) aa;refine⟨⟨c.σ,c.τ,c.μ,c.hid,c.w.drew⟩,0,[],[],bm _,λj o hj _ _=>⟨λh=>absurd h (none j),λh=>ab⟩,⟨λj o _ _ h=>ab,gL,λj=>⟨λh=>(by cases h),λh=>absurd h.2.1 (none j)⟩⟩,rfl,by rw[eV,nZ];exact e2▸hg.1,(zJ _).symm,hg.2,by simp,by simp,λj o d _ _ hj=>absurd hj (none j),he.defers,he.size,λt=>.inr ⟨λi o _ hs=>absurd hs (none i),?_⟩⟩;rw[e1];exact(he.slot t).mono hg.2
end
end Go.Pure