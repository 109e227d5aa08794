/- A generic layer: values without memory, and code over them. -/
import Derived.Test.YtdoenpeadkoklaaGreatFmtBesafterPureB
import Derived.Laws.MakeOwn
import Derived.Laws.OwnMore
import Derived.LaidEqlPtr
import Derived.Defers
import Derived.Laws.Twins
import Derived.LoopN
import Derived.Laws.CopyRow
import Derived.Lib.RuneCount
import Derived.Lib.Bytes
import Derived.Lib.RuneBytes
import Derived.Lib.LaidIn
import Derived.Scope
import Derived.Test.YtdoenpeadkoklaaGreatFmtBesafterPureA
import Derived.Lib.ItoaNum
import Derived.Lib.UnsafeStr
namespace Go.Pure
open Go
section
variable{P:Program}{o:Oper}{ρ:Operand→PV}{H:PH}
theorem PO_buildSlice_lit{t n e size:Nat}{parts:Array (Nat×Operand)}{z:Value}{b:Bool}{cs:List PV}{gs:List GV}(ho:o.op= .buildSlice t n parts)(he:P.underlying t=some (.slice e))(hs:szB P e=some size)(_ha:aggB P e=some b)
  (hz:zeroB P e=some z) (hz1:z.cells.toList.all (·.oneCell')=true) (hzs:Nat.beq z.cells.size size=true) (hpos:Nat.ble 1 size=true) (hb:(b||Nat.beq size 1)=true) (hn:Nat.ble (n *size) 16777216=true)
  (hfill:fillP (fun i=>some (i *size,size)) (zerosP z n) (partsP ρ parts.toList)=some cs) (hg:allG cs=some gs):PO P o ρ H (.lit (group b size n gs)) H:=by
 intro c ρr hr hx
 have hzs:=Nat.eq_of_beq_eq_true hzs
 have hpos:=Nat.le_of_ble_eq_true hpos
 have hn:=Nat.le_of_ble_eq_true hn
 subst hzs
 obtain⟨vs,hv1,hv2⟩:=fill_ok (c:=c) (partsP ρ parts.toList) ((parts.map fun(i,x)=>(i,ρr x)).toList) (zerosP z n) _ cs (zeros_ok c hz1 hpos n) (by simp[partsP_eq]) (by
  intro k x y hx1 hy
  rw[partsP_eq]at hx1
  simp only[List.getElem?_map,Option.map_eq_some_iff,Array.toList_map]at hx1 hy
  obtain⟨q,hq,rfl⟩:=hx1
  obtain⟨q',hq',rfl⟩:=hy
  rw[hq]at hq'
  cases hq'
  exact⟨rfl,hx q.2 (by
   rw[ho]
   simpa[Op.operands]using⟨q.1,by simpa using List.mem_of_getElem? hq⟩)⟩) hfill
 have hv1:Instr.fill (fun i=>some (i *z.cells.size,z.cells.size)) ((Array.range (n *z.cells.size)).map (z.cells[· %z.cells.size]!)) (List.map (fun x=>(x.1,ρr x.2)) parts.toList)=some vs:=by simpa using hv1
 have hrun:(execOp ρr o).run P c.w= .ok (.value (.slice (some ⟨c.w.heap.size,0,none⟩) n n)) (c.w.alloc (.cells vs e)):=by
  have hne: ¬(n *z.cells.size>2^24):=by simp only[Nat.reducePow];omega
  by_cases h0:n *z.cells.size=0
  ·obtain rfl:n=0:=by
    rcases Nat.mul_eq_zero.1 h0 with h|h
    ·exact h
    ·omega
   have e0: ∀f:Nat→Value,(Array.range (0 *z.cells.size)).map f= #[]:=fun f=>by simp
   rw[e0]at hv1
   have e1:Array.map (fun _:Nat=>(default:Value)) (Array.range 0)= #[]:=by simp
   simp[execOp,ho,Instr.buildSlice,run_underlying he,run_sizeOf hs,newRow,newObj,e1,hv1,Sem.run]
  ·simp[execOp,ho,Instr.buildSlice,run_underlying he,run_sizeOf hs,hne,h0,run_zero hz,newRow,newObj,hv1,Sem.run]
 unfold OpGoes
 rw[hrun]
 obtain⟨hr',hE⟩:=hr.grow (Ext.alloc c.w (.cells vs e))
 have hcells:gs.length=vs.size:=by rw[(allG_ok (c:=c) hg).1,hv2.1]
 have hcs: ∀(k:Nat) (g:GV) (v:Value),gs[k]? =some g→vs[k]? =some v→RG c.w c.stab g v∧v.oneCell'=true:=by
  intro k g v hgk hvk
  have hlt:k<cs.length:=by rw[←(allG_ok (c:=c) hg).1];exact(List.getElem?_eq_some_iff.1 hgk).1
  obtain⟨r1,r2⟩:=hv2.2 k cs[k] v (List.getElem?_eq_getElem hlt) hvk
  exact⟨(allG_ok (c:=c) hg).2 k g cs[k] hgk (List.getElem?_eq_getElem hlt) v r1,r2⟩
 have hvsz:vs.size=n *z.cells.size:=by
  rw[hv2.1]
  have: ∀(ps:List (Nat×PV)) (l l':List PV),fillP (fun i=>some (i *z.cells.size,z.cells.size)) l ps=some l'→l'.length=l.length:=by
   intro ps
   induction ps with
   |nil=>intro l l' h;simp[fillP]at h;rw[h]
   |cons p ps ih=>
    obtain⟨i,p⟩:=p
    intro l l' h
    unfold fillP at h
    split at h
    ·rename_i off n' ds hpl hds
     cases hb:(Nat.beq ds.length n'&&Nat.ble (off+n') l.length)with
     |false=>rw[hb]at h;cases h
     |true=>
      rw[hb,cond_true]at h
      rw[ih _ _ h]
      simp only[Bool.and_eq_true]at hb
      have e1:=Nat.eq_of_beq_eq_true hb.1
      have e2:=Nat.le_of_ble_eq_true hb.2
      simp[splice];omega
    ·cases h
  rw[this _ _ _ hfill,zerosP_length]
 have hone:b=false→z.cells.size=1∧ ∀g∈gs,g.cells=[g]:=fun e=>by
  subst e
  refine⟨Nat.eq_of_beq_eq_true (by simpa using hb),fun g hg'=> ?_⟩
  obtain⟨k,hk⟩:=List.getElem?_of_mem hg'
  have hlt:k<vs.size:=by rw[←hcells];exact(List.getElem?_eq_some_iff.1 hk).1
  obtain⟨r1,r2⟩:=hcs k g vs[k] hk (by simp[hlt])
  exact r1.cells_one r2
 have hlen:(group b z.cells.size n gs).length=n:=group_length n gs b (fun e=>(hone e).1) (by rw[hcells,hvsz])
 have hget:=group_get n gs b hone (by rw[hcells,hvsz])
 have hR:RG (c.w.alloc (.cells vs e)) (Ctx.stab ⟨c.σ,c.τ,c.μ,c.hid,c.w.alloc (.cells vs e)⟩) (.sl (group b z.cells.size n gs)) (.slice (some ⟨c.w.heap.size,0,none⟩) (group b z.cells.size n gs).length (group b z.cells.size n gs).length):=by
  have:=RG_row (w:=c.w.alloc (.cells vs e)) (S:=Ctx.stab ⟨c.σ,c.τ,c.μ,c.hid,c.w.alloc (.cells vs e)⟩) (es:=group b z.cells.size n gs) (size:=z.cells.size) (cap:=n) (Go.heap_alloc_new c.w _) (fun i x hx=>(hget i x hx).1) (by omega) (by
    have:n≤n *z.cells.size:=Nat.le_mul_of_pos_right _ hpos
    simp only[maxLen];omega) (by rw[hlen,hvsz];exact Nat.le_refl _) (fun p _=>fresh_stab hr (Nat.le_refl _) p) (fun k hk=> ?_) (fun i x j g v hx hg' hv=> ?_)
  ·rw[hlen]at this⊢;exact this
  ·rw[hlen,←hvsz]at hk
   refine⟨vs[k],by simp[hk], ?_⟩
   have hk':k<gs.length:=by rw[hcells];exact hk
   exact(hcs k gs[k] vs[k] (List.getElem?_eq_getElem hk') (by simp[hk])).2
  ·exact(hcs _ g v ((hget i x hx).2 j g hg') hv).1.mono hE.keep
 have hv:RV ⟨c.σ,c.τ,c.μ,c.hid,c.w.alloc (.cells vs e)⟩ (.lit (group b z.cells.size n gs)) (.slice (some ⟨c.w.heap.size,0,none⟩) n n):=by
  have:=RV.lit (c:=⟨c.σ,c.τ,c.μ,c.hid,c.w.alloc (.cells vs e)⟩) _ _ hR
  rw[hlen]at this
  exact this
 exact⟨_,rfl,hr',hE,hv⟩
theorem PO_append_lit{x y:Operand}{t e:TypeId}{es xs:List GV}{size bytes:Nat}{z:Value}(ho:o.op= .call {callee:= .builtin .append,args:=⟨[x,y]⟩,argTypes:=⟨[t,t]⟩})
  (ht:P.underlying t=some (.slice e)) (hs:szB P e=some size) (hby:bytesB P e=some bytes) (hz:zeroB P e=some z) (hzs:Nat.beq z.cells.size size=true) (hx:ρ x= .lit es) (hy:elems (ρ y)=some xs)
  (hes: ∀x∈es,x.cells.length=size) (hxs: ∀x∈xs,x.cells.length=size) (hpos:0<xs.length) (hfit:(es.length+xs.length) *bytes≤140737488355328) (hmax:es.length+xs.length≤maxLen):
  PO P o ρ H (.own (es++xs) H.tk.length) ⟨H.bx,H.tk++[(e,es.length+xs.length)],H.mu⟩:=by
 intro c ρr hr hxx
 have hx1:=hxx x (by simp[ho,Op.operands,Call.operands])
 have hy1:=elems_ok (hxx y (by simp[ho,Op.operands,Call.operands])) hy
 rw[hx]at hx1
 by_cases hnil:ρr x= .slice none 0 0∧es=[]
 ·obtain⟨hnil,rfl⟩:=hnil
  haveI:DecidableEq Operand:=fun a b=>Classical.propDecidable (a=b)
  have htl:c.τ.length=H.tk.length:=by have:=congrArg List.length hr.tk;simpa using this
  obtain⟨r2,e2⟩:=hr.addDead (e:=e) hs
  have q:=PO_append (o:=o) (ρ:=fun q=>if q=x then .own [] H.tk.length else ρ q) (H:=⟨H.bx,H.tk++[(e,0)],H.mu⟩) (es:=[]) (xs:=xs) (id:=H.tk.length) (n:=0) ho ht hs hby hz hzs (if_pos rfl) (by
    by_cases hq:y=x
    ·subst hq
     rw[hx]at hy
     have h0:xs=[]:=by simpa[elems]using hy.symm
     subst h0
     simp at hpos
    ·simp only[if_neg hq];exact hy) (by simp) rfl hxs (by simpa using hfit) (by simpa using hmax) _ ρr r2 (by
    intro q hq
    by_cases hqx:q=x
    ·subst hqx
     simp only[if_true]
     rw[hnil]
     exact .own [] H.tk.length _ ⟨false,0,e,size,0,0⟩ .nil (by rw[←htl];simp) (by simp) (Nat.le_refl _) (fun _=> .inr ⟨rfl,rfl⟩)
    ·simp only[if_neg hqx];exact(hxx q hq).mono e2)
  have hset:(H.tk++[(e,0)]).set H.tk.length (e,0+xs.length)=H.tk++[(e,([]:List GV).length+xs.length)]:=by simp
  rw[hset]at q
  have key: ∀(rv:Value) (w':World),(∃c',c'.w=w'∧Rel P c' ⟨H.bx,H.tk++[(e,([]:List GV).length+xs.length)],H.mu⟩∧Evo ⟨c.σ,c.τ++[⟨false,0,e,size,0,0⟩],c.μ,c.hid,c.w⟩ c'∧RV c' (.own ([]++xs) H.tk.length) rv)→ ∃c',c'.w=w'∧Rel P c' ⟨H.bx,H.tk++[(e,([]:List GV).length+xs.length)],H.mu⟩∧Evo c c'∧RV c' (.own ([]++xs) H.tk.length) rv:=by
   rintro rv w' ⟨c',rfl,hr',hE',hv⟩
   exact⟨c',rfl,hr',e2.trans hE',hv⟩
  unfold OpGoes at q⊢
  have hop:(execOp ρr o).run P c.w=((Builtin.append_ #[t,t] o.type #[ρr x,ρr y]).run P c.w).andThen fun r w=> .ok (.value r) w:=by
   simp[execOp,ho,resolve,invoke,builtin]
  have hop2:(execOp ρr o).run P (⟨c.σ,c.τ++[⟨false,0,e,size,0,0⟩],c.μ,c.hid,c.w⟩:Ctx).w=((Builtin.append_ #[t,t] o.type #[ρr x,ρr y]).run P c.w).andThen fun r w=> .ok (.value r) w:=hop
  rw[hop2]at q
  rw[hop]
  revert q
  cases(Builtin.append_ #[t,t] o.type #[ρr x,ρr y]).run P c.w with
  |ok rv w'=>exact key rv w'
  |_=>exact fun h=>h
 have hzs:=Nat.eq_of_beq_eq_true hzs
 obtain⟨i,hi⟩: ∃i,P.info? e=some i:=by
  unfold szB at hs
  cases h:P.info? e with
  |none=>rw[h]at hs;cases hs
  |some i=>exact⟨i,rfl⟩
 have hisz:i.size=size:=by unfold szB at hs;rw[hi]at hs;simpa using hs
 have hiby:i.bytes=bytes:=by unfold bytesB at hby;rw[hi]at hby;simpa using hby
 have hiz:i.zero=some z:=by
  unfold zeroB at hz;rw[hi]at hz;simpa using hz
 subst hisz;subst hiby
 generalize hvx:ρr x=v at hx1
 generalize hvy:ρr y=u at hy1
 have hop:(execOp ρr o).run P c.w=((Builtin.append_ #[t,t] o.type #[v,u]).run P c.w).andThen fun r w=> .ok (.value r) w:=by
  simp[execOp,ho,resolve,invoke,builtin,hvx,hvy]
 unfold OpGoes
 rw[hop]
 obtain⟨a,m,news,rfl,ln,hnews,hn1,hnrg⟩:=slice_cells hy1 hxs (by rintro rfl;simp at hpos)
 cases hx1 with
 |lit _ b' hrg=>
 obtain⟨b,rfl⟩: ∃b,b'=some b:=by
  cases b' with
  |some b=>exact⟨b,rfl⟩
  |none=>
   exfalso
   generalize hn:es.length=n at hrg
   cases hrg
   exact hnil ⟨hvx,rfl⟩
 obtain⟨olds,lo,hocell,ho1,horg⟩: ∃olds:List Value,olds.length=es.length *i.size∧(∀j v,olds[j]? =some v→c.w.cell? (b.add j)=some v)∧(∀v∈olds,v.oneCell'=true)∧
   ∀(k:Nat) (x:GV) (j:Nat) (g:GV) (v:Value),es[k]? =some x→x.cells[j]? =some g→olds[k *i.size+j]? =some v→RG c.w c.stab g v:=by
  by_cases hes0:es=[]
  ·subst hes0;exact⟨[],by simp,by simp,by simp,by simp⟩
  ·obtain⟨a',m',olds,e1,l1,l2,l3,l4⟩:=slice_cells hrg hes hes0
   cases e1
   exact⟨olds,l1,l2,l3,l4⟩
 have hg:es.length<es.length+xs.length:=by omega
 have h63:((es.length+xs.length:Nat):Int)≤9223372036854775807:=by simp only[maxLen]at hmax;omega
 rw[run_append_grow c.w t o.type e i z ht hi hiz b es.length es.length olds lo hocell a xs.length m news ln hnews hg h63 (growslice_fits hg hfit)]
 have hge:=grownCap_ge c.w (es.length+xs.length) es.length e
 generalize hw':c.w.drew.alloc (.cells (olds.toArray++news.toArray++Builtin.zeroCells z.cells (grownCap c.w (es.length+xs.length) es.length e-(es.length+xs.length))) e)=w'
 have hext:Ext c.w w':=by rw[←hw'];exact(Ext.drew c.w).trans (Ext.alloc _ _)
 have hblk:w'.heap[c.w.heap.size]? =some (.cells (olds.toArray++news.toArray++Builtin.zeroCells z.cells (grownCap c.w (es.length+xs.length) es.length e-(es.length+xs.length))) e (0,0)):=by
  rw[←hw'];exact Go.heap_alloc_new c.w.drew _
 have hsz:(olds.toArray++news.toArray++Builtin.zeroCells z.cells (grownCap c.w (es.length+xs.length) es.length e-(es.length+xs.length))).size=grownCap c.w (es.length+xs.length) es.length e *i.size:=by
  simp only[Array.size_append,List.size_toArray,size_zeroCells,hzs,lo,ln]
  rw[←Nat.add_mul,←Nat.add_mul]
  congr 1
  omega
 have hcm:=grownCap_le_maxLen c.w (es.length+xs.length) es.length e hmax
 obtain⟨hr',hE⟩:=hr.addTok hext (t:=⟨true,c.w.heap.size,e,i.size,grownCap c.w (es.length+xs.length) es.length e,es.length+xs.length⟩) rfl (Nat.le_refl _) hblk hsz hge hcm hs
 have hR:=RG_appended (w:=w') (S:=Ctx.stab ⟨c.σ,c.τ++[⟨true,c.w.heap.size,e,i.size,grownCap c.w (es.length+xs.length) es.length e,es.length+xs.length⟩],c.μ,c.hid,w'⟩) (es:=es) (xs:=xs) (size:=i.size) (olds:=olds) (news:=news)
  (rest:=(Builtin.zeroCells z.cells (grownCap c.w (es.length+xs.length) es.length e-(es.length+xs.length))).toList) hblk (by simp) lo ln hes hxs hge hcm (fun p hp=>by
   refine⟨fun h=> ?_,fun h=> ?_,fun t ht lv e'=> ?_,fun t ht lv e'=> ?_⟩
   ·have:=hr.hidlt _ _ h;omega
   ·have:=hr.shid _ h;omega
   ·rcases List.mem_append.1 ht with ht|ht
    ·have:=hr.tlt ht lv;omega
    ·simp only[List.mem_singleton]at ht;subst ht;exact hp
   ·have:=hr.mlt t ht lv;omega) (fun k x j g v h1 h2 h3=>(horg k x j g v h1 h2 h3).mono hE.keep) (fun k x j g v h1 h2 h3=>(hnrg k x j g v h1 h2 h3).mono hE.keep) ho1 hn1
 refine⟨_,rfl,hr',hE, .own _ _ _ ⟨true,c.w.heap.size,e,i.size,grownCap c.w (es.length+xs.length) es.length e,es.length+xs.length⟩ hR ?_ (fun k x hx=> ?_) (by simp) (fun _=> .inl ⟨rfl,by simp⟩)⟩
 ·show(c.τ++[_])[H.tk.length]? =_
  have:c.τ.length=H.tk.length:=by rw[←hr.tk];simp
  rw[←this];simp
 ·rcases List.mem_append.1 (List.mem_of_getElem? hx)with h|h
  ·exact hes x h
  ·exact hxs x h
end
section
variable{P:Program}{o:Oper}{ρ:Operand→PV}{H:PH}
end
section
variable{P:Program}{o:Oper}{ρ:Operand→PV}{H:PH}
end
section
variable{P:Program}{o:Oper}{ρ:Operand→PV}{H:PH}
theorem PO_as{v v':PV}{H':PH}(h:PO P o ρ H v H')(e:v=v'):PO P o ρ H v' H':=e▸h
end
section
variable{P:Program}{K:List Nat}{o:Oper}{env:Env}{H H':PH}{v:PV}
end
theorem qA:type_of% @POps_nil:= @POps_nil
theorem qB:type_of% @POpsD_nil:= @POpsD_nil
theorem oR:type_of% @POps_run:= @POps_run
theorem dR:type_of% @POpsD_run:= @POpsD_run
theorem cI:type_of% @PO_conv_int:= @PO_conv_int
theorem bS:type_of% @PO_buildSlice:= @PO_buildSlice
theorem nC:type_of% @PO_nilCheck:= @PO_nilCheck
theorem xS:type_of% @PW_seq:= @PW_seq
theorem xU:type_of% @PW_seq_unless:= @PW_seq_unless
theorem xR:type_of% @PW_region:= @PW_region
theorem xK:type_of% @PW_draw_auto:= @PW_draw_auto
theorem xB:type_of% @PW_block:= @PW_block
theorem xN:type_of% @PW_skip:= @PW_skip
theorem xE:type_of% @PW_exit:= @PW_exit
theorem xT:type_of% @PW_ret:= @PW_ret
theorem xt:type_of% @PW_cond_t:= @PW_cond_t
theorem xf:type_of% @PW_cond_f:= @PW_cond_f
theorem cl:type_of% @call_pure:= @call_pure
theorem cb:type_of% @call_box:= @call_box
theorem cd:type_of% @call_deep:= @call_deep
theorem iA:type_of% @PO_indexAddr:= @PO_indexAddr
theorem aP:type_of% @PO_append:= @PO_append
theorem vC:type_of% @resVs_cons:= @resVs_cons
theorem vN:type_of% @resVs_nil:= @resVs_nil
theorem vT:type_of% @resV_tmp:= @resV_tmp
theorem vA:type_of% @resV_agg:= @resV_agg
theorem wC:type_of% @resRs_cons:= @resRs_cons
theorem wN:type_of% @resRs_nil:= @resRs_nil
theorem lB:type_of% @Nat.le_of_ble_eq_true:= @Nat.le_of_ble_eq_true
section
variable{P:Program}{T:Tab}{N:Nat}{all:Array Oper}{Z:Env→PH→Prop}{l l' rest:List Oper}{env env':Env}{H H':PH}{v:PV}{d:Option Tmp}{op:Op}{ty:TypeId}{pos:String}{aft:Array Edge}{g:Option (Nat×Bool)}
theorem ro1(hT:TabOk P T)(h0:canO T N all l env H=true)(h:runO T N all 300 l env H=some (l',env',H'))(k:POps P N all Z l' env' H'):POps P N all Z l env H:=runO_ok hT 300 h0 h k
theorem ro2(hT:TabOk P T)(h0:canO T N all l env H=true)(h:runO T N all 6 l env H=some (l',env',H'))(k:POps P N all Z l' env' H'):POps P N all Z l env H:=runO_ok hT 6 h0 h k
theorem ro3(hT:TabOk P T)(h0:canO T N all l env H=true)(h:runO T N all 1 l env H=some (l',env',H'))(k:POps P N all Z l' env' H'):POps P N all Z l env H:=runO_ok hT 1 h0 h k
section
variable{K:List Nat}
theorem rd1(hT:TabOk P T)(h0:canD T N all K l env H=true)(h:runD T N all K 300 l env H=some (l',env',H'))(k:POpsD P N all K Z l' env' H'):POpsD P N all K Z l env H:=runD_ok hT 300 h0 h k
theorem rd3(hT:TabOk P T)(h0:canD T N all K l env H=true)(h:runD T N all K 1 l env H=some (l',env',H'))(k:POpsD P N all K Z l' env' H'):POpsD P N all K Z l env H:=runD_ok hT 1 h0 h k
theorem noneB_none{x:Option Tmp}(h:x=none):noneB x=true:=by subst h;rfl
theorem dF(hg:gd all ⟨d,op,ty,pos,aft,g⟩ env=some true)(hd:dstOk N d=true)(hk:kindB P op=0)(h: ∀H1,PO P ⟨d,op,ty,pos,aft,g⟩ env.eval H1 v H1)(k:POpsD P N all K Z rest (upd env d v) H):POpsD P N all K Z (⟨d,op,ty,pos,aft,g⟩::rest) env H:=
 POpsD_run hg hd (Cond_f h hk) k (noneB_none (abT_kind (P:=P) (by show kindB P op≠3;rw[hk];decide)))
theorem dL(hg:gd all ⟨d,op,ty,pos,aft,g⟩ env=some true)(hd:dstOk N d=true)(hk:kindB P op=1)(h: ∀H1,PO P ⟨d,op,ty,pos,aft,g⟩ env.eval H1 v H1)(k:POpsD P N all K Z rest (upd env d v) H):POpsD P N all K Z (⟨d,op,ty,pos,aft,g⟩::rest) env H:=
 POpsD_run hg hd (Cond_l h hk) k (noneB_none (abT_kind (P:=P) (by show kindB P op≠3;rw[hk];decide)))
theorem dC(hg:gd all ⟨d,op,ty,pos,aft,g⟩ env=some true)(hd:dstOk N d=true)(hk:kindB P op=2)(hf:plB K ⟨d,op,ty,pos,aft,g⟩=true)(h:PO P ⟨d,op,ty,pos,aft,g⟩ env.eval H v H')(hq:KEq K H H')(k:POpsD P N all K Z rest (upd env d v) H'):POpsD P N all K Z (⟨d,op,ty,pos,aft,g⟩::rest) env H:=
 POpsD_run hg hd (Cond_c h hq hk hf) k (noneB_none (plB_spec hf).2.1)
theorem kQ(h:KEq K H H':=by first|exact KEq.refl _ _|(repeat(first|exact trivial|refine And.intro rfl ?_|refine And.intro trivial ?_))):KEq K H H':=h
end
section
variable{id:Nat}{Q:Exit→Env→PH→Prop}{K0 K:List Nat}
theorem qxa(h0:upTo H.bx lits=some K0)(ha:autoK l env (isNil H.mu) false false K0=some K)(hm:P.follows .mixedOrders=true)(h:POpsD P N l.toArray K (fun env H=>Q .normal env H) l env H)(hd:drawB P K l=true:=by decide+kernel):PW P N (.region id l.toArray true) Q env H:=PW_draw_all false false h0 ha hm hd h
theorem qxb(h0:upTo H.bx lits=some K0)(ha:autoK l env (isNil H.mu) false true K0=some K)(hm:P.follows .mixedOrders=true)(h:POpsD P N l.toArray K (fun env H=>Q .normal env H) l env H)(hd:drawB P K l=true:=by decide+kernel):PW P N (.region id l.toArray true) Q env H:=PW_draw_all false true h0 ha hm hd h
end
end
section
variable{P:Program}{o:Oper}{ρ:Operand→PV}{H:PH}
end
section
variable{P:Program}{o:Oper}{ρ:Operand→PV}{H:PH}
end
section
variable{P:Program}{o:Oper}{ρ:Operand→PV}{H:PH}
theorem PO_makeMap{t:TypeId}(ho:o.op= .makeMap t none):PO P o ρ H (.mp H.mu.length) ⟨H.bx,H.tk,H.mu++[.map []]⟩:=by
 intro c ρr hr hx
 have hrun:(execOp ρr o).run P c.w= .ok (.value (.map (some c.w.heap.size))) (c.w.alloc (.map #[] 0)):=by
  simp[execOp,ho,Instr.makeMap,newObj,Sem.run]
 unfold OpGoes
 rw[hrun]
 have hmok:MOk P ⟨c.σ,c.τ,c.μ++[⟨true,c.w.heap.size,0,0,0,0⟩],c.hid,c.w.alloc (.map #[] 0)⟩ ⟨true,c.w.heap.size,0,0,0,0⟩ (.map []):=
  ⟨rfl,rfl, #[],[],List.Perm.refl _,Go.heap_alloc_new c.w _,rfl,fun i k v n h=>by simp at h⟩
 obtain⟨r1,r2⟩:=hr.addMu (Ext.alloc c.w (.map #[] 0)) (t:=⟨true,c.w.heap.size,0,0,0,0⟩) (o:= .map []) (fun _=>⟨Nat.le_refl _,by simp⟩) hmok
 refine⟨_,rfl,r1,r2, .mp H.mu.length _ ⟨true,c.w.heap.size,0,0,0,0⟩ ?_ rfl (fun _=>rfl)⟩
 show(c.μ++[_])[H.mu.length]? =_
 rw[←hr.mlen];simp
theorem PO_insert{t kt et:TypeId}{d:TypeDesc}{m key val:Operand}{id:Nat}{k v:GV}{es:List (GV×GV)}(ho:o.op= .insert t m key val)(ht:P.underlying t=some (.map kt et))(hkt:P.underlying kt=some d)(hf:keyFit d k=true)
  (e1:ρ m= .mp id) (e2:ρ key= .g k) (e3:ρ val= .g v) (hm:H.mu[id]? =some (.map es)) (hfr:lookAll k es=some none):PO P o ρ H undefP ⟨H.bx,H.tk,H.mu.set id (.map (es++[(k,v)]))⟩:=by
 have h:=PO_ins (x:=⟨id,k,v⟩) (P:=P) (o:=o) (ρ:=ρ) (H:=H) ⟨t,m,key,val,kt,et,d,ho,ht,hkt,hf,e1,e2,e3⟩ hm hfr
 have:Ins.ap ⟨id,k,v⟩ H=⟨H.bx,H.tk,H.mu.set id (.map (es++[(k,v)]))⟩:=by unfold Ins.ap;rw[hm]
 rwa[this]at h
def zeroG1:Value→Option GV
 | .int k n=>some (.int k n)
 | .bool b=>some (.bool b)
 | .string s=>some (.str s)
 | .slice none 0 0=>some (.sl [])
 | .nilFunc=>some (.raw .nilFunc)
 |_=>none
def zeroGs:List Value→Option (List GV)
 |[]=>some []
 |v::r=>match zeroG1 v,zeroGs r with
  |some g,some l=>some (g::l)
  |_,_=>none
def zeroG:Value→Option GV
 | .agg cs=>(zeroGs cs.toList).map .agg
 |v=>zeroG1 v
theorem zeroG1_ok{v:Value}{g:GV}(h:zeroG1 v=some g)(w:World)(S:Nat→Nat→Prop):RG w S g v∧v.oneCell'=true:=by
 unfold zeroG1 at h
 split at h<;>cases h
 ·exact⟨.int _ _,rfl⟩
 ·exact⟨.bool _,rfl⟩
 ·exact⟨.str _,rfl⟩
 ·exact⟨.nil,rfl⟩
 ·exact⟨.raw _,rfl⟩
theorem zeroGs_ok(w:World)(S:Nat→Nat→Prop): ∀{vs:List Value} {gs:List GV},zeroGs vs=some gs→gs.length=vs.length∧ ∀(i:Nat) (g:GV) (v:Value),gs[i]? =some g→vs[i]? =some v→RG w S g v∧v.oneCell'=true
 |[],gs,h=>by cases h;exact⟨rfl,fun i g v hg=>by simp at hg⟩
 |v::r,gs,h=>by
  simp only[zeroGs]at h
  split at h
  ·rename_i g l h1 h2
   cases h
   obtain⟨l1,l2⟩:=zeroGs_ok w S h2
   refine⟨by simp[l1],fun i g' v' hg hv=> ?_⟩
   cases i with
   |zero=>simp at hg hv;subst hg;subst hv;exact zeroG1_ok h1 w S
   |succ i=>exact l2 i g' v' (by simpa using hg) (by simpa using hv)
  ·cases h
theorem zeroG_ok{v:Value}{g:GV}(h:zeroG v=some g)(w:World)(S:Nat→Nat→Prop):RG w S g v:=by
 unfold zeroG at h
 split at h
 ·rename_i cs
  rw[Option.map_eq_some_iff]at h
  obtain⟨gs,h1,rfl⟩:=h
  obtain⟨l1,l2⟩:=zeroGs_ok w S h1
  refine .agg _ _ (by simpa using l1) (fun u hu=> ?_) (fun i g v hg hv=>(l2 i g v hg (by simpa using hv)).1)
  obtain⟨i,hi⟩:=List.getElem?_of_mem hu
  have hlt:i<gs.length:=by rw[l1];exact(List.getElem?_eq_some_iff.1 hi).1
  exact(l2 i gs[i] u (List.getElem?_eq_getElem hlt) hi).2
 ·exact(zeroG1_ok h w S).1
def lookRes(ok:Bool)(r:Option GV)(z:GV):PV:=match r with
 |some g=>bif ok then .tuple [.g g, .g (.bool true)]else .g g
 |none=>bif ok then .tuple [.g z, .g (.bool false)]else .g z
theorem PO_lookup{t kt et:TypeId}{d:TypeDesc}{m key:Operand}{ok:Bool}{id:Nat}{k:GV}{es:List (GV×GV)}{r:Option GV}{z:Value}{zg:GV}(ho:o.op= .lookup t m key ok)(ht:P.underlying t=some (.map kt et))(hkt:P.underlying kt=some d)
  (hz:zeroB P et=some z) (hzg:zeroG z=some zg) (e1:ρ m= .mp id) (e2:ρ key= .g k) (hf:keyFit d k=true) (hm:H.mu[id]? =some (.map es)) (hl:lookAll k es=some r):PO P o ρ H (lookRes ok r zg) H:=
 PO_val fun c ρr hr hxx=>by
  have x1:=hxx m (by simp[ho,Op.operands])
  have x2:=hxx key (by simp[ho,Op.operands])
  rw[e1]at x1;rw[e2]at x2
  have hid:id<c.μ.length:=by rw[hr.mlen];exact(List.getElem?_eq_some_iff.1 hm).1
  have htk:=List.getElem?_eq_getElem hid
  generalize c.μ[id]=tk at htk
  obtain⟨g0,lv,ents,es',hp,a1,a2,a3⟩:=hr.mu id tk _ htk hm
  generalize hmr:ρr m=mv at x1
  generalize hkr:ρr key=kv at x2
  cases x1 with
  |mp _ _ t' ht' h1 hv=>
  rw[htk]at ht'
  cases ht'
  have hmv:=hv g0
  subst hmv
  cases x2 with
  |g _ _ hkv=>
  obtain⟨f1,f2⟩:=findNow_of hf hkv es' ents.toList 0 (by simp[a2]) (fun j e n he hn=>by
   obtain⟨k1,k2,_⟩:=a3 j e.1 e.2 n he (by simpa using hn);exact⟨k1,k2⟩)
  rw[←lookAll_perm hp]at f1 f2
  have two: ∀(g:GV) (v:Value) (b:Bool),RG c.w c.stab g v→RV c (.tuple [.g g, .g (.bool b)]) (.tuple #[v, .bool b]):=fun g v b h=>by
   refine .tuple _ _ rfl fun i p u hp hu=> ?_
   match i with
   |0=>simp at hp hu;subst hp;subst hu;exact .g _ _ h
   |1=>simp at hp hu;subst hp;subst hu;exact .g _ _ (.bool b)
   |i+2=>simp at hp
  cases r with
  |none=>
   have hfind:=f1 hl
   have hzr:=zeroG_ok hzg c.w c.stab
   cases ok with
   |true=>exact⟨.tuple #[z, .bool false],by simp[execOp,ho,hmr,hkr,Instr.lookup,Sem.run_bind,run_underlying ht,MapKept.run_getObj_map a1,run_checkKey_fit hkt hf hkv,run_findKey_of hkt hfind,run_zero hz],two _ _ _ hzr⟩
   |false=>exact⟨z,by simp[execOp,ho,hmr,hkr,Instr.lookup,Sem.run_bind,run_underlying ht,MapKept.run_getObj_map a1,run_checkKey_fit hkt hf hkv,run_findKey_of hkt hfind,run_zero hz], .g _ _ hzr⟩
  |some g=>
   obtain⟨j,val,hfind,hval⟩:=f2 g hl
   cases ok with
   |true=>exact⟨.tuple #[val, .bool true],by simp[execOp,ho,hmr,hkr,Instr.lookup,Sem.run_bind,run_underlying ht,MapKept.run_getObj_map a1,run_checkKey_fit hkt hf hkv,run_findKey_of hkt hfind],two _ _ _ hval⟩
   |false=>exact⟨val,by simp[execOp,ho,hmr,hkr,Instr.lookup,Sem.run_bind,run_underlying ht,MapKept.run_getObj_map a1,run_checkKey_fit hkt hf hkv,run_findKey_of hkt hfind], .g _ _ hval⟩
end
section
variable{P:Program}{K:List Nat}{o:Oper}{env:Env}{H:PH}
end
def putAt(es:List GV)(off:Nat)(gs:List GV):List GV:=es.take off++gs++es.drop (off+gs.length)
theorem putAt_length{es gs:List GV}{off:Nat}(h:off+gs.length≤es.length):(putAt es off gs).length=es.length:=by simp[putAt];omega
section
variable{P:Program}{o:Oper}{ρ:Operand→PV}{H:PH}
theorem sz_one{e size:Nat}(h1:(P.info? e).map (·.size)=some size)(h2:szB P e=some 1):size=1:=by
 unfold szB at h2
 rw[h2]at h1
 exact(Option.some.inj h1).symm
theorem Rel.writeArr{c:Ctx}(hr:Rel P c H){id n e:Nat}{es gs:List GV}{t:MTok}{us:List Value}(ht:c.μ[id]? =some t)(hm:H.mu[id]? =some (.arr n e es))(hs:szB P e=some 1)(lv:t.live=true){off:Nat}(hl:us.length=gs.length)(hfit:off+gs.length≤es.length)
  (hg: ∀(j:Nat) (g:GV) (v:Value),gs[j]? =some g→us[j]? =some v→RG c.w c.stab g v∧v.oneCell'=true):
  ∃cur,c.w.heap[t.g]? =some (.cells cur e (0,0))∧off+us.length≤cur.size∧t.size=1∧
   ∃c',c'.w=c.w.setRow t.g (cur.toList.take off++us++cur.toList.drop (off+us.length)).toArray∧Rel P c' ⟨H.bx,H.tk,H.mu.set id (.arr n e (putAt es off gs))⟩∧Evo c c':=by
 have hmk:=hr.mu id t _ ht hm
 obtain⟨a1,a2,a3,a4⟩:=hmk
 have hsz:=sz_one a3 hs
 rcases a4 with⟨lv',_⟩|⟨_,cur,b1,b2,b3,b4,b5,b6⟩
 ·rw[lv]at lv';cases lv'
 ·rw[hsz,Nat.mul_one]at b2
  have hfc:off+us.length≤cur.size:=by omega
  refine⟨cur,b1,hfc,hsz, ?_⟩
  have hone: ∀g∈gs,g.cells=[g]:=by
   intro g hgm
   obtain⟨j,hj⟩:=List.getElem?_of_mem hgm
   have hlt:j<us.length:=by rw[hl];exact(List.getElem?_eq_some_iff.1 hj).1
   obtain⟨r1,r2⟩:=hg j g _ hj (List.getElem?_eq_getElem hlt)
   exact r1.cells_one r2
  have hone': ∀x∈es,x.cells.length=1:=fun x hx=>by rw[b5 x hx,hsz]
  generalize hnew:(cur.toList.take off++us++cur.toList.drop (off+us.length)).toArray=new
  have hnsz:new.size=cur.size:=by rw[←hnew];simp;omega
  have:=hr.setMu ht (t':=t) (o':= .arr n e (putAt es off gs)) rfl (.inl rfl) (w':=c.w.setRow t.g new) rfl ⟨rfl,fun _=>by first|exact Nat.le_refl _|exact Nat.le_succ _⟩ rfl (by simp) (fun b hb h=>setRow_other c.w t.g b _ (h lv)) (fun _=> .inl ⟨lv,rfl⟩) (fun hE=> ?_)
  ·exact⟨_,rfl,this.1,this.2⟩
  ·refine⟨a1,by rw[putAt_length hfit];exact a2,a3, .inr ⟨lv,new,setRow_heap c.w t.g cur new e (0,0) b1,by rw[hnsz,hsz,Nat.mul_one];exact b2,by rw[putAt_length hfit];exact b3,b4, ?_, ?_⟩⟩
   ·intro x hx
    rw[hsz]
    unfold putAt at hx
    simp only[List.mem_append]at hx
    rcases hx with(hx|hx)|hx
    ·exact hone' x (List.mem_of_mem_take hx)
    ·rw[hone x hx];rfl
    ·exact hone' x (List.mem_of_mem_drop hx)
   ·intro i x j g v hx hgj hv
    rw[hsz,Nat.mul_one]at hv
    rw[←hnew]at hv
    simp only[List.getElem?_toArray]at hv
    unfold putAt at hx
    have hcl:(cur.toList.take off).length=off:=by simp;omega
    have hel:(es.take off).length=off:=by simp;omega
    have old: ∀k,es[k]? =some x→cur.toList[k+j]? =some v→RG c.w c.stab g v∧v.oneCell'=true:=fun k hk hv=>b6 k x j g v hk hgj (by rw[hsz,Nat.mul_one];simpa using hv)
    by_cases h1:i<off
    ·rw[List.append_assoc,List.getElem?_append_left (by rw[hel];exact h1)]at hx
     have hx2:es[i]? =some x:=by rw[List.getElem?_take,if_pos h1]at hx;exact hx
     have hj0:j=0:=by
      have:=(List.getElem?_eq_some_iff.1 hgj).1
      rw[hone' x (List.mem_of_getElem? hx2)]at this
      omega
     subst hj0
     rw[List.append_assoc,List.getElem?_append_left (by rw[hcl];omega)]at hv
     rw[List.getElem?_take,if_pos (by omega)]at hv
     exact⟨(old i hx2 hv).1.mono hE.keep,(old i hx2 hv).2⟩
    ·by_cases h2:i<off+gs.length
     ·rw[List.append_assoc,List.getElem?_append_right (by rw[hel];omega),List.getElem?_append_left (by rw[hel];omega),hel]at hx
      have hj0:j=0:=by
       have:=(List.getElem?_eq_some_iff.1 hgj).1
       rw[hone x (List.mem_of_getElem? hx)]at this
       simpa using this
      subst hj0
      rw[hone x (List.mem_of_getElem? hx)]at hgj
      simp only[List.getElem?_cons_zero,Option.some.injEq]at hgj
      subst hgj
      rw[List.append_assoc,List.getElem?_append_right (by rw[hcl];omega),List.getElem?_append_left (by rw[hcl,hl];omega),hcl]at hv
      exact⟨(hg _ x v hx hv).1.mono hE.keep,(hg _ x v hx hv).2⟩
     ·rw[List.getElem?_append_right (by simp[hel];omega)]at hx
      have l2:(es.take off++gs).length=off+gs.length:=by simp[hel]
      rw[l2,List.getElem?_drop,show off+gs.length+(i-(off+gs.length))=i by omega]at hx
      have hj0:j=0:=by
       have:=(List.getElem?_eq_some_iff.1 hgj).1
       rw[hone' x (List.mem_of_getElem? hx)]at this
       omega
      subst hj0
      rw[List.getElem?_append_right (by simp[hcl,hl];omega)]at hv
      have l3:(cur.toList.take off++us).length=off+us.length:=by simp[hcl]
      rw[l3,List.getElem?_drop,hl,show off+gs.length+(i+0-(off+gs.length))=i by omega]at hv
      exact⟨(old i hx (by simpa using hv)).1.mono hE.keep,(old i hx (by simpa using hv)).2⟩
theorem vw_sl{c:Ctx}{id n off len cap:Nat}{v:Value}(h:RV c (.vw id n off len cap) v): ∃g,v= .slice (some ⟨g,off,none⟩) len cap:=by
 cases h;exact⟨_,rfl⟩
theorem vw_get{c:Ctx}(hr:Rel P c H){id n off len cap e:Nat}{es:List GV}{v:Value}(h:RV c (.vw id n off len cap) v)(hm:H.mu[id]? =some (.arr n e es)):
  ∃t,c.μ[id]? =some t∧n≤t.gen∧t.live=true∧t.size=1∧v= .slice (some ⟨t.g,off,none⟩) len cap∧n=t.gen∧len≤cap∧off+cap≤t.len∧t.len=es.length∧cap≤maxLen:=by
 cases h with
 |vw _ _ _ _ _ g t ht hn h1 h2 hv=>
  obtain⟨a1,a2,a3,a4⟩:=hr.mu id t _ ht hm
  obtain⟨lv,rfl,ls,l2⟩:=hv a1.symm
  exact⟨t,ht,hn,lv,ls,rfl,a1.symm,h1,l2,a2,h2⟩
theorem vw_mk{c:Ctx}{id n off len cap:Nat}{t:MTok}(ht:c.μ[id]? =some t)(hn:n≤t.gen)(lv:t.live=true)(hs:t.size=1)(h1:len≤cap)(hm:cap≤maxLen)(h2:off+cap≤t.len):RV c (.vw id n off len cap) (.slice (some ⟨t.g,off,none⟩) len cap):=
 .vw id n off len cap t.g t ht hn h1 hm fun _=>⟨lv,rfl,hs,h2⟩
theorem PO_vmake{t e m:Nat}{x y:Operand}{k1 k2:IntKind}{l n:Nat}{z:Value}(ho:o.op= .makeSlice t x y)(hx1:ρ x= .g (.int k1 l))(hy1:ρ y= .g (.int k2 n))(he:P.underlying t=some (.slice e))(hs:szB P e=some 1)(hz:zeroB P e=some z)(hz1:z.oneCell'=true)
  (hby:bytesB P e=some m) (hl:l≤n) (hm:m *n≤281474976710656) (hn:n≤9223372036854775807):
  PO P o ρ H (.vw H.mu.length 0 0 l n) ⟨H.bx,H.tk,H.mu++[.arr 0 e (List.replicate n (constG z))]⟩:=by
 intro c ρr hr hx
 have h1:=hx x (by simp[ho,Op.operands])
 have h2:=hx y (by simp[ho,Op.operands])
 rw[hx1]at h1
 rw[hy1]at h2
 have q1:=RV_int h1
 have q2:=RV_int h2
 obtain⟨i,hi,hsz⟩: ∃i,P.info? e=some i∧i.size=1:=by
  unfold szB at hs
  cases hu:P.info? e with
  |none=>rw[hu]at hs;cases hs
  |some i=>rw[hu]at hs;exact⟨i,rfl,by simpa using hs⟩
 have hiz:i.zero=some z:=by unfold zeroB at hz;rw[hi]at hz;simpa using hz
 have hib:i.bytes=m:=by unfold bytesB at hby;rw[hi]at hby;simpa using hby
 have hzc:z.cells= #[z]:=cells_one hz1
 have hrun:(execOp ρr o).run P c.w= .ok (.value (.slice (some ⟨c.w.heap.size,0,none⟩) l n)) (c.w.alloc (.cells (madeCells #[z] n) e)):=by
  have hr:=run_make (P:=P) c.w t e i z he hi hiz k1 k2 l n (by omega) (by omega) (by rw[hib,←Int.natCast_mul];omega) (by omega)
  simp only[Int.toNat_natCast,hsz,Nat.mul_one,hzc]at hr
  simp[execOp,ho,q1,q2,hr]
 unfold OpGoes
 rw[hrun]
 have hmax:n≤maxLen:=by unfold maxLen;omega
 have hat: ∀(k:Nat) (v:Value),(madeCells #[z] n)[k]? =some v→v=z:=by
  intro k v hv
  have:(madeCells #[z] n).toList[k]? =some v:=by simpa using hv
  rw[toList_madeCells_one,List.getElem?_replicate]at this
  split at this
  ·exact(Option.some.inj this).symm
  ·cases this
 have hc1:(constG z).cells=[constG z]:=(constG_ok c.w c.stab z).cells_one hz1
 obtain⟨r1,r2⟩:=hr.addMu (Ext.alloc c.w (.cells (madeCells #[z] n) e)) (t:=⟨true,c.w.heap.size,1,0,n,n⟩) (o:= .arr 0 e (List.replicate n (constG z))) (fun _=>⟨Nat.le_refl _,by simp⟩)
  ⟨rfl,by simp,hs, .inr ⟨rfl,_,Go.heap_alloc_new c.w _,by simp[size_madeCells],by simp,hmax,fun x hx=>by rw[(List.mem_replicate.1 hx).2,hc1];rfl,fun k x j g v hx hg hv=>by
   rw[List.getElem?_replicate]at hx
   split at hx
   ·cases hx
    rw[hc1]at hg
    have hj:j=0:=by have:=(List.getElem?_eq_some_iff.1 hg).1;simpa using this
    subst hj
    simp at hg
    subst hg
    rw[hat _ _ hv]
    exact⟨constG_ok _ _ z,hz1⟩
   ·cases hx⟩⟩
 refine⟨_,rfl,r1,r2, ?_⟩
 refine vw_mk (t:=⟨true,c.w.heap.size,1,0,n,n⟩) ?_ (Nat.le_refl _) rfl rfl hl hmax (by simp)
 show(c.μ++[_])[H.mu.length]? =_
 rw[←hr.mlen];simp
theorem run_sliceAt_sl{w:World}{t e:Nat}(ht:P.underlying t=some (.slice e))(hs:szB P e=some 1)(a:Addr)(len cap:Nat)(lo hi mx:Option Value)(L U M:Nat)(hb:(Instr.sliceBounds true len cap lo hi mx).run P w= .ok (L,U,M) w):
  (Instr.sliceAt t (.slice (some a) len cap) lo hi mx).run P w= .ok (.slice (if M=L then some a else some (a.add L)) (U-L) (M-L)) w:=by
 simp[Instr.sliceAt,Instr.slice,run_underlying ht,hb,run_sizeOf hs]
theorem run_bound{w:World}(k:IntKind)(i:Nat)(y:Nat)(code:BoundsCode)(h:i≤y):(Instr.sliceBound (.int k i) y code).run P w= .ok i w:=by
 have h':0≤(i:Int)∧(i:Int)≤(y:Int):=by omega
 simp only[Instr.sliceBound,asIntOf,Sem.run_bind,Sem.run_pure,Result.andThen_ok]
 rw[if_pos h']
 simp
theorem run_bounds{w:World}{len cap:Nat}(l h m:Option (IntKind×Int))(hhm:h=none→m=none){L U M:Nat}(hL:loOf l=L)(hU:hiOf len h=U)(hM:hiOf cap m=M)(h1:L≤U)(h2:U≤M)(h3:M≤cap):
  (Instr.sliceBounds true len cap (l.map fun p=> .int p.1 p.2) (h.map fun p=> .int p.1 p.2) (m.map fun p=> .int p.1 p.2)).run P w= .ok (L,U,M) w:=by
 cases m with
 |none=>
  have hMc:M=cap:=by simp only[hiOf]at hM;omega
  subst hMc
  cases h with
  |none=>
   have hUc:U=len:=by simp only[hiOf]at hU;omega
   subst hUc
   cases l with
   |none=>
    have:L=0:=by simp only[loOf]at hL;omega
    subst this
    simp[Instr.sliceBounds]
   |some p=>
    obtain⟨k,i⟩:=p
    simp only[loOf]at hL
    subst hL
    simp[Instr.sliceBounds,run_bound k L U _ h1]
  |some q=>
   obtain⟨kq,iq⟩:=q
   simp only[hiOf]at hU
   subst hU
   cases l with
   |none=>
    have:L=0:=by simp only[loOf]at hL;omega
    subst this
    simp[Instr.sliceBounds,run_bound kq U M _ h2]
   |some p=>
    obtain⟨k,i⟩:=p
    simp only[loOf]at hL
    subst hL
    simp[Instr.sliceBounds,run_bound kq U M _ h2,run_bound k L U _ h1]
 |some r=>
  obtain⟨kr,ir⟩:=r
  simp only[hiOf]at hM
  subst hM
  cases h with
  |none=>exact absurd (hhm rfl) (by simp)
  |some q=>
   obtain⟨kq,iq⟩:=q
   simp only[hiOf]at hU
   subst hU
   cases l with
   |none=>
    have:L=0:=by simp only[loOf]at hL;omega
    subst this
    simp[Instr.sliceBounds,run_bound kr M cap _ h3,run_bound kq U M _ h2]
   |some p=>
    obtain⟨k,i⟩:=p
    simp only[loOf]at hL
    subst hL
    simp[Instr.sliceBounds,run_bound kr M cap _ h3,run_bound kq U M _ h2,run_bound k L U _ h1]
theorem PO_vslice(L U M:Nat){t e:TypeId}{x:Operand}{lo hi mx:Option Operand}{id n off len cap:Nat}{l h m:Option (IntKind×Int)}(ho:o.op= .slice t x lo hi mx)(ht:P.underlying t=some (.slice e))(hs:szB P e=some 1)(hx:ρ x= .vw id n off len cap)
  (hl:boundP ρ lo=some l) (hh:boundP ρ hi=some h) (hmx:boundP ρ mx=some m) (hhm:h=none→m=none) (hL:loOf l=L) (hU:hiOf len h=U) (hM:hiOf cap m=M) (h1:L≤U) (h2:U≤M) (h3:M≤cap):
  PO P o ρ H (.vw id n (if M=L then off else off+L) (U-L) (M-L)) H:=
 PO_val fun c ρr hr hxx=>by
  have e1:=hxx x (by simp[ho,Op.operands])
  rw[hx]at e1
  have el:=boundP_ok (ρr:=ρr) hl fun y hy=>hxx y (by subst hy;simp[ho,Op.operands])
  have eh:=boundP_ok (ρr:=ρr) hh fun y hy=>hxx y (by subst hy;simp[ho,Op.operands])
  have em:=boundP_ok (ρr:=ρr) hmx fun y hy=>hxx y (by subst hy;simp[ho,Op.operands])
  generalize hv:ρr x=v at e1
  cases e1 with
  |vw _ _ _ _ _ g tk g1 g2 g3 g4 g5=>
  have hrun:(execOp ρr o).run P c.w= .ok (.value (.slice (if M=L then some ⟨g,off,none⟩else some (Addr.add ⟨g,off,none⟩ L)) (U-L) (M-L))) c.w:=by
   have hb:=run_bounds (P:=P) (w:=c.w) (len:=len) (cap:=cap) l h m hhm hL hU hM h1 h2 h3
   have:=run_sliceAt_sl (w:=c.w) ht hs ⟨g,off,none⟩ len cap _ _ _ L U M hb
   simp only[execOp,ho,hv,el,eh,em]
   simp[this]
  refine⟨_,hrun, ?_⟩
  by_cases hc:M=L
  ·rw[if_pos hc,if_pos hc]
   exact .vw id n off (U-L) (M-L) g tk g1 g2 (by omega) (by omega) fun e=>⟨(g5 e).1,(g5 e).2.1,(g5 e).2.2.1,by have:=(g5 e).2.2.2;omega⟩
  ·rw[if_neg hc,if_neg hc,add_eq _ _ rfl]
   exact .vw id n (off+L) (U-L) (M-L) g tk g1 g2 (by omega) (by omega) fun e=>⟨(g5 e).1,(g5 e).2.1,(g5 e).2.2.1,by have:=(g5 e).2.2.2;omega⟩
theorem PO_vindex(i:Nat){x y:Operand}{t e:TypeId}{id n off len cap:Nat}{k:IntKind}{z:Int}(ho:o.op= .indexAddr t x y)(ht:P.underlying t=some (.slice e))(hs:szB P e=some 1)(hx':ρ x= .vw id n off len cap)(hi:ρ y= .g (.int k z))(hz:z=i)(hlt:i<len):
  PO P o ρ H (.mref id n (off+i) 0) H:=
 PO_val fun c ρr hr hx=>by
  have h1:=hx x (by simp[ho,Op.operands])
  have h2:=hx y (by simp[ho,Op.operands])
  rw[hx']at h1
  rw[hi,hz]at h2
  have h2:=RV_int h2
  generalize hv:ρr x=v at h1
  cases h1 with
  |vw _ _ _ _ _ g tk g1 g2 g3 g4 g5=>
  refine⟨.pointer (some ((⟨g,off,none⟩:Addr).add i)), ?_, .mref id n (off+i) 0 _ tk g1 g2 (add_spot _ _ rfl) (fun e=>by obtain⟨_,rfl,hs1,_⟩:=g5 e;rw[add_eq _ _ rfl,hs1];simp)⟩
  have hidx:0≤(i:Int)∧(i:Int)<(len:Int):=by omega
  simp only[execOp,ho,hv,h2]
  simp[Instr.indexAt,asIntOf,run_underlying ht,hlt,run_sizeOf hs]
theorem PO_vlen{x:Operand}{t e:TypeId}{id n off len cap:Nat}(ho:o.op= .call {callee:= .builtin .len,args:= #[x],argTypes:= #[t]})(ht:P.underlying t=some (.slice e))(hx':ρ x= .vw id n off len cap):
  PO P o ρ H (.g (.int .i64 len)) H:=
 PO_val fun c ρr hr hx=>by
  have h1:=hx x (by simp[ho,Op.operands,Call.operands])
  rw[hx']at h1
  obtain⟨g,hv⟩:=vw_sl h1
  exact⟨.int .i64 len,by simp[execOp,ho,resolve,invoke,builtin,hv,Builtin.len_,run_underlying ht,goInt], .g _ _ (.int _ _)⟩
theorem PO_vcap{x:Operand}{t e:TypeId}{id n off len cap:Nat}(ho:o.op= .call {callee:= .builtin .cap,args:= #[x],argTypes:= #[t]})(ht:P.underlying t=some (.slice e))(hx':ρ x= .vw id n off len cap):
  PO P o ρ H (.g (.int .i64 cap)) H:=
 PO_val fun c ρr hr hx=>by
  have h1:=hx x (by simp[ho,Op.operands,Call.operands])
  rw[hx']at h1
  obtain⟨g,hv⟩:=vw_sl h1
  exact⟨.int .i64 cap,by simp[execOp,ho,resolve,invoke,builtin,hv,Builtin.cap_,run_underlying ht,goInt], .g _ _ (.int _ _)⟩
theorem PO_ncap{x:Operand}{t e:TypeId}(ho:o.op= .call {callee:= .builtin .cap,args:= #[x],argTypes:= #[t]})(ht:P.underlying t=some (.slice e))(hx':ρ x= .nils):PO P o ρ H (.g (.int .i64 0)) H:=
 PO_val fun c ρr hr hx=>by
  have h1:=hx x (by simp[ho,Op.operands,Call.operands])
  rw[hx']at h1
  generalize hv:ρr x=v at h1
  cases h1
  exact⟨.int .i64 0,by simp[execOp,ho,resolve,invoke,builtin,hv,Builtin.cap_,run_underlying ht,goInt], .g _ _ (.int _ _)⟩
theorem PO_nslice{t e size:TypeId}{x:Operand}{lo hi:Option Operand}{l h:Option (IntKind×Int)}(ho:o.op= .slice t x lo hi none)(ht:P.underlying t=some (.slice e))(hs:szB P e=some size)(hx:ρ x= .nils)(hl:boundP ρ lo=some l)(hh:boundP ρ hi=some h)(hL:loOf l=0)(hU:hiOf 0 h=0):
  PO P o ρ H .nils H:=
 PO_val fun c ρr hr hxx=>by
  have e1:=hxx x (by simp[ho,Op.operands])
  rw[hx]at e1
  have el:=boundP_ok (ρr:=ρr) hl fun y hy=>hxx y (by subst hy;simp[ho,Op.operands])
  have eh:=boundP_ok (ρr:=ρr) hh fun y hy=>hxx y (by subst hy;simp[ho,Op.operands])
  generalize hv:ρr x=v at e1
  cases e1
  have hb:=run_bounds (P:=P) (w:=c.w) (len:=0) (cap:=0) l h none (fun _=>rfl) (L:=0) (U:=0) (M:=0) hL hU rfl (Nat.le_refl _) (Nat.le_refl _) (Nat.le_refl _)
  refine⟨.slice none 0 0, ?_, .nils⟩
  simp only[execOp,ho,hv,el,eh]
  simp only[Option.map_none]at hb⊢
  simp[Instr.sliceAt,Instr.slice,run_underlying ht,hb,run_sizeOf hs]
def srcE(H:PH):PV→Option (List GV)
 | .vw id n off len _=>match H.mu[id]? with
  |some (.arr n' _ es)=>bif Nat.beq n' n&&Nat.ble (off+len) es.length then some ((es.drop off).take len)else none
  |_=>none
 |p=>elems p
theorem src_cells{c:Ctx}(hr:Rel P c H){p:PV}{u:Value}{xs:List GV}(h:RV c p u)(hx:srcE H p=some xs)(h1: ∀id n off len cap,p= .vw id n off len cap→ ∀n' e es,H.mu[id]? =some (.arr n' e es)→szB P e=some 1)(hxs: ∀x∈xs,x.cells=[x]):
  (∃b cp,u= .slice b xs.length cp)∧ ∀k,k≤xs.length→ ∃us:List Value,us.length=k∧(Builtin.firstCells 1 k u).run P c.w= .ok us.toArray c.w∧ ∀(j:Nat) (g:GV) (v:Value),(xs.take k)[j]? =some g→us[j]? =some v→RG c.w c.stab g v∧v.oneCell'=true:=by
 have key: ∀(a:Addr) (cap:Nat) (news:List Value),u= .slice (some a) xs.length cap→news.length=xs.length→(∀j v,news[j]? =some v→c.w.cell? (a.add j)=some v)→(∀v∈news,v.oneCell'=true)→
   (∀(i:Nat) (x:GV) (v:Value),xs[i]? =some x→news[i]? =some v→RG c.w c.stab x v)→
   (∃b cp,u= .slice b xs.length cp)∧ ∀k,k≤xs.length→ ∃us:List Value,us.length=k∧(Builtin.firstCells 1 k u).run P c.w= .ok us.toArray c.w∧ ∀(j:Nat) (g:GV) (v:Value),(xs.take k)[j]? =some g→us[j]? =some v→RG c.w c.stab g v∧v.oneCell'=true:=by
  intro a cap news hu hn hcell hone hrg
  refine⟨⟨_,_,hu⟩,fun k hk=>⟨news.take k,by simp;omega, ?_,fun j g v hj hv=> ?_⟩⟩
  ·rw[hu]
   exact run_firstCells_some c.w 1 k a xs.length cap (news.take k) (by simp;omega) fun j v hj=>by
    rw[List.getElem?_take]at hj
    split at hj
    ·exact hcell j v hj
    ·cases hj
  ·rw[List.getElem?_take]at hj hv
   split at hj
   ·rename_i hlt
    rw[if_pos hlt]at hv
    exact⟨hrg j g v hj hv,hone v (List.mem_of_getElem? hv)⟩
   ·cases hj
 have gnd:elems p=some xs→(∃b cp,u= .slice b xs.length cp)∧ ∀k,k≤xs.length→ ∃us:List Value,us.length=k∧(Builtin.firstCells 1 k u).run P c.w= .ok us.toArray c.w∧ ∀(j:Nat) (g:GV) (v:Value),(xs.take k)[j]? =some g→us[j]? =some v→RG c.w c.stab g v∧v.oneCell'=true:=by
  intro he
  have hr1:=elems_ok h he
  by_cases hne:xs=[]
  ·subst hne
   obtain⟨a,cap,hv,_⟩:=RG_len hr1
   refine⟨⟨a,cap,hv⟩,fun k hk=> ?_⟩
   have hk0:k=0:=by simpa using hk
   subst hk0
   refine⟨[],rfl, ?_,by simp⟩
   rw[hv]
   cases a with
   |none=>simp[Builtin.firstCells]
   |some a=>exact run_firstCells_some c.w 1 0 a _ cap [] (by simp) (by simp)
  ·obtain⟨a,cap,news,hu,hn,hcell,hone,hrg⟩:=slice_cells hr1 (size:=1) (fun x hx=>by rw[hxs x hx];rfl) hne
   exact key a cap news hu (by omega) hcell hone fun i x v hi hv=>hrg i x 0 x v hi (by rw[hxs x (List.mem_of_getElem? hi)];rfl) (by simpa using hv)
 cases p with
 |vw id n off len cap=>
  simp only[srcE]at hx
  split at hx
  ·rename_i n' e es hm
   cases hb:(Nat.beq n' n&&Nat.ble (off+len) es.length)with
   |false=>rw[hb]at hx;cases hx
   |true=>
    rw[hb,cond_true]at hx
    cases hx
    simp only[Bool.and_eq_true]at hb
    have hn':=Nat.eq_of_beq_eq_true hb.1
    have hle:=Nat.le_of_ble_eq_true hb.2
    subst hn'
    have hs:=h1 _ _ _ _ _ rfl _ _ _ hm
    obtain⟨tk,g1,g2,g3,g4,hv,g5,g6,g7,g8,g9⟩:=vw_get hr h hm
    obtain⟨a1,a2,a3,a4⟩:=hr.mu id tk _ g1 hm
    rcases a4 with⟨lv',_⟩|⟨_,cur,b1,b2,b3,b4,b5,b6⟩
    ·rw[g3]at lv';cases lv'
    ·rw[g4,Nat.mul_one]at b2
     have hlen:((es.drop off).take len).length=len:=by simp;omega
     have hget: ∀(i:Nat) (x:GV),((es.drop off).take len)[i]? =some x→es[off+i]? =some x∧i<len:=by
      intro i x hi
      rw[List.getElem?_take]at hi
      split at hi
      ·rename_i hlt;rw[List.getElem?_drop]at hi;exact⟨hi,hlt⟩
      ·cases hi
     have hnew: ∀(j:Nat) (v:Value),((cur.toList.drop off).take len)[j]? =some v→cur[off+j]? =some v∧j<len:=by
      intro j v hj
      rw[List.getElem?_take]at hj
      split at hj
      ·rename_i hlt;rw[List.getElem?_drop]at hj;exact⟨by simpa using hj,hlt⟩
      ·cases hj
     have hrg: ∀(i:Nat) (x:GV) (v:Value),((es.drop off).take len)[i]? =some x→((cur.toList.drop off).take len)[i]? =some v→RG c.w c.stab x v∧v.oneCell'=true:=by
      intro i x v hi hv
      have hm1:=List.mem_of_getElem? hi
      exact b6 (off+i) x 0 x v (hget i x hi).1 (by rw[hxs x hm1];rfl) (by rw[g4,Nat.mul_one,Nat.add_zero];exact(hnew i v hv).1)
     refine key ⟨tk.g,off,none⟩ cap ((cur.toList.drop off).take len) (by rw[hlen];exact hv) (by rw[hlen];simp;omega) (fun j v hj=> ?_) (fun v hvm=> ?_) (fun i x v hi hv=>(hrg i x v hi hv).1)
     ·rw[add_eq _ _ rfl,cell_of_row c.w tk.g _ cur e (0,0) b1]
      exact(hnew j v hj).1
     ·obtain⟨j,hj⟩:=List.getElem?_of_mem hvm
      have hlt:j<((es.drop off).take len).length:=by rw[hlen];exact(hnew j v hj).2
      exact(hrg j _ v (List.getElem?_eq_getElem hlt) hj).2
  ·cases hx
 |_=>exact gnd hx
theorem run_lenOf_sl(w:World)(a:Option Addr)(n cap:Nat):(Builtin.lenOf (.slice a n cap)).run P w= .ok n w:=by simp[Builtin.lenOf]
theorem PO_vcopy{x y:Operand}{t u e e':TypeId}{id n off len cap:Nat}{es ys:List GV}(ho:o.op= .call {callee:= .builtin .copy,args:=⟨[x,y]⟩,argTypes:=⟨[t,u]⟩})(ht:P.underlying t=some (.slice e))(hs:szB P e=some 1)(hs':szB P e'=some 1)(hx':ρ x= .vw id n off len cap)
  (hm:H.mu[id]? =some (.arr n e' es)) (hy:srcE H (ρ y)=some ys) (hy1: ∀id n off len cap,ρ y= .vw id n off len cap→ ∀n' e es,H.mu[id]? =some (.arr n' e es)→szB P e=some 1) (hys: ∀x∈ys,x.cells=[x]) (hfit:off+len≤es.length):
  PO P o ρ H (.g (.int .i64 (min ys.length len))) ⟨H.bx,H.tk,H.mu.set id (.arr n e' (putAt es off (ys.take len)))⟩:=by
 intro c ρr hr hx
 have h1:=hx x (by simp[ho,Op.operands,Call.operands])
 have h2:=hx y (by simp[ho,Op.operands,Call.operands])
 rw[hx']at h1
 obtain⟨tk,g1,g2,g3,g4,hv,g5,g6,g7,g8,g9⟩:=vw_get hr h1 hm
 obtain⟨⟨yb,yc,hyv⟩,hsrc⟩:=src_cells hr h2 hy hy1 hys
 obtain⟨us,ul,urun,urg⟩:=hsrc (min ys.length len) (Nat.min_le_left _ _)
 have htake:ys.take (min ys.length len)=ys.take len:=by
  rcases Nat.le_total ys.length len with h|h
  ·rw[Nat.min_eq_left h,List.take_of_length_le (Nat.le_refl _),List.take_of_length_le h]
  ·rw[Nat.min_eq_right h]
 rw[htake]at urg
 have hgl:(ys.take len).length=min ys.length len:=by simp[Nat.min_comm]
 have hmin:Nat.min ys.length len=min ys.length len:=rfl
 obtain⟨cur,c1,c2,c3,c',w',r1,r2⟩:=hr.writeArr g1 hm hs' g3 (us:=us) (gs:=ys.take len) (off:=off) (by rw[ul,hgl]) (by rw[hgl];have:=Nat.min_le_right ys.length len;omega) urg
 have hone: ∀v∈us,v.oneCell'=true:=by
  intro v hvm
  obtain⟨j,hj⟩:=List.getElem?_of_mem hvm
  have hlt:j<(ys.take len).length:=by rw[hgl,←ul];exact(List.getElem?_eq_some_iff.1 hj).1
  exact(urg j _ v (List.getElem?_eq_getElem hlt) hj).2
 have hst:=run_storeCells_at P tk.g off e' us 0 cur c.w c1 (by omega) hone
 simp only[Nat.add_zero]at hst
 have hrun:(execOp ρr o).run P c.w= .ok (.value (.int .i64 (min ys.length len))) c'.w:=by
  rw[w']
  rw[hyv]at urun
  simp[execOp,ho,resolve,invoke,builtin,hv,hyv,Builtin.copy_,run_underlying ht,run_sizeOf hs,run_lenOf_sl,hmin,urun,hst,goInt]
  omega
 unfold OpGoes
 rw[hrun]
 exact⟨c',rfl,r1,r2, .g _ _ (.int _ _)⟩
theorem PO_vclear{x:Operand}{t e e':TypeId}{id n off len cap:Nat}{es:List GV}{z:Value}(ho:o.op= .call {callee:= .builtin .clear,args:=⟨[x]⟩,argTypes:=⟨[t]⟩})(ht:P.underlying t=some (.slice e))(hz:zeroB P e=some z)(hz1:z.oneCell'=true)(hs':szB P e'=some 1)(hx':ρ x= .vw id n off len cap)
  (hm:H.mu[id]? =some (.arr n e' es)) (hfit:off+len≤es.length):
  PO P o ρ H (.tuple []) ⟨H.bx,H.tk,H.mu.set id (.arr n e' (putAt es off (List.replicate len (constG z))))⟩:=by
 intro c ρr hr hx
 have h1:=hx x (by simp[ho,Op.operands,Call.operands])
 rw[hx']at h1
 obtain⟨tk,g1,g2,g3,g4,hv,g5,g6,g7,g8,g9⟩:=vw_get hr h1 hm
 obtain⟨cur,c1,c2,c3,c',w',r1,r2⟩:=hr.writeArr g1 hm hs' g3 (us:=List.replicate len z) (gs:=List.replicate len (constG z)) (off:=off) (by simp) (by simpa using hfit) (fun j g v hj hv=>by
  rw[List.getElem?_replicate]at hj hv
  split at hj
  ·rename_i hlt
   rw[if_pos hlt]at hv
   cases hj;cases hv
   exact⟨constG_ok _ _ z,hz1⟩
  ·cases hj)
 have hst:=run_storeCells_at P tk.g off e' (List.replicate len z) 0 cur c.w c1 (by simpa using c2) (fun v hvm=>by rw[(List.mem_replicate.1 hvm).2];exact hz1)
 simp only[Nat.add_zero]at hst
 have hrun:(execOp ρr o).run P c.w= .ok (.value (.tuple #[])) c'.w:=by
  rw[w']
  cases len with
  |zero=>
   have:c.w.setRow tk.g (cur.toList.take off++List.replicate 0 z++cur.toList.drop (off+(List.replicate 0 z).length)).toArray=c.w:=by
    simp only[List.replicate_zero,List.append_nil,List.length_nil,Nat.add_zero,List.take_append_drop,Array.toArray_toList]
    exact setRow_self c.w tk.g cur e' (0,0) c1
   rw[this]
   simp[execOp,ho,resolve,invoke,builtin,hv,Builtin.clear_,run_underlying ht]
  |succ k=>
   have hcl:(Builtin.zeroCells z.cells (k+1)).toList=List.replicate (k+1) z:=by
    rw[cells_one hz1]
    simp[Builtin.zeroCells,←toList_madeCells_one,madeCells]
   simp[execOp,ho,resolve,invoke,builtin,hv,Builtin.clear_,run_underlying ht,run_zero hz,hcl,hst]
 unfold OpGoes
 rw[hrun]
 exact⟨c',rfl,r1,r2, .tuple [] #[] rfl (by simp)⟩
def nilPB:PV→Option Bool
 | .nilp=>some true
 | .ptr _ _=>some false
 | .mref _ _ _ _=>some false
 | .pat _=>some false
 |_=>none
theorem nilPB_ok{c:Ctx}{p:PV}{v:Value}{r:Bool}(h:RV c p v)(hr:nilPB p=some r): ∃a:Option Addr,v= .pointer a∧a.isNone=r:=by
 cases p<;>simp only[nilPB]at hr<;>first|(cases hr;done)|(cases hr;cases h;exact⟨_,rfl,rfl⟩)
theorem run_eql_ptr_nil{w:World}{tp te:Nat}(hp:P.underlying tp=some (.pointer te))(a:Option Addr):(binOp .eql tp (.pointer a) (.pointer none)).run P w= .ok (.bool a.isNone) w:=by
 have h: ∀d:Nat,(Op.equalIn (d+1) tp (.pointer a) (.pointer none)).run P w= .ok a.isNone w:=fun d=>by
  cases a<;>simp[Op.equalIn,run_underlying hp]
 simp only[binOp]
 simp[Op.equal,Op.maxDepth,h 9999]
theorem run_neq_ptr_nil{w:World}{tp te:Nat}(hp:P.underlying tp=some (.pointer te))(a:Option Addr):(binOp .neq tp (.pointer a) (.pointer none)).run P w= .ok (.bool (!a.isNone)) w:=by
 have h: ∀d:Nat,(Op.equalIn (d+1) tp (.pointer a) (.pointer none)).run P w= .ok a.isNone w:=fun d=>by
  cases a<;>simp[Op.equalIn,run_underlying hp]
 simp only[binOp]
 simp[Op.equal,Op.maxDepth,h 9999]
theorem PO_pnil{x y:Operand}{t u T:Nat}{r:Bool}(ho:o.op= .binOp .eql t x y u)(ht:P.underlying t=some (.pointer T))(hx':nilPB (ρ x)=some r)(hy':ρ y= .nilp):PO P o ρ H (.g (.bool r)) H:=
 PO_val fun c ρr hr hx=>by
  obtain⟨a,h1,h3⟩:=nilPB_ok (hx x (by simp[ho,Op.operands])) hx'
  have h2:=hx y (by simp[ho,Op.operands])
  rw[hy']at h2
  generalize hv2:ρr y=v2 at h2
  cases h2
  subst h3
  exact⟨.bool a.isNone,by simp only[execOp,ho,h1,hv2];simp[eqGuard,run_eql_ptr_nil ht], .g _ _ (.bool _)⟩
theorem PO_pnnil{x y:Operand}{t u T:Nat}{r:Bool}(ho:o.op= .binOp .neq t x y u)(ht:P.underlying t=some (.pointer T))(hx':nilPB (ρ x)=some r)(hy':ρ y= .nilp):PO P o ρ H (.g (.bool (!r))) H:=
 PO_val fun c ρr hr hx=>by
  obtain⟨a,h1,h3⟩:=nilPB_ok (hx x (by simp[ho,Op.operands])) hx'
  have h2:=hx y (by simp[ho,Op.operands])
  rw[hy']at h2
  generalize hv2:ρr y=v2 at h2
  cases h2
  subst h3
  exact⟨.bool (!a.isNone),by simp only[execOp,ho,h1,hv2];simp[eqGuard,run_neq_ptr_nil ht], .g _ _ (.bool _)⟩
theorem run_neq_ptr_same{w:World}{tp te:Nat}{j:TypeInfo}(a:Addr)(hp:P.underlying tp=some (.pointer te))(hte:P.info? te=some j):
  (binOp .neq tp (.pointer (some a)) (.pointer (some a))).run P w= .ok (.bool false) w:=by
 have h: ∀d:Nat,(Op.equalIn (d+1) tp (.pointer (some a)) (.pointer (some a))).run P w= .ok true w:=fun d=>by
  simp[Op.equalIn,run_underlying hp,sizeOf,typeInfo,hte,run_sameAddr_same]
 simp only[binOp]
 simp[Op.equal,Op.maxDepth,h 9999]
theorem run_neq_ptr_other{w:World}{tp te:Nat}{j:TypeInfo}{a b:Addr}{ca cb:Array Value}{ta tb:TypeId}(hp:P.underlying tp=some (.pointer te))(hte:P.info? te=some j)(hsz:j.size≠0)
  (hne:a≠b) (ha:w.heap[a.block]? =some (.cells ca ta (0,0))) (hb:w.heap[b.block]? =some (.cells cb tb (0,0))):
  (binOp .neq tp (.pointer (some a)) (.pointer (some b))).run P w= .ok (.bool true) w:=by
 have h: ∀d:Nat,(Op.equalIn (d+1) tp (.pointer (some a)) (.pointer (some b))).run P w= .ok false w:=fun d=>by
  simp[Op.equalIn,run_underlying hp,sizeOf,typeInfo,hte,hsz,run_sameAddr_other w hne ha hb]
 simp only[binOp]
 simp[Op.equal,Op.maxDepth,h 9999]
theorem run_cmp_ptr{w:World}{tp te k:Nat}{a b:Addr}{ca cb:Array Value}{ta tb:TypeId}{op:BinOp}{r:Bool}(hp:P.underlying tp=some (.pointer te))(hs:szB P te=some (k+1))(hop:op= .eql∨op= .neq)(hr:decide (a=b)=r)
  (ha:w.heap[a.block]? =some (.cells ca ta (0,0))) (hb:w.heap[b.block]? =some (.cells cb tb (0,0))):
  (binOp op tp (.pointer (some a)) (.pointer (some b))).run P w= .ok (.bool (if op= .eql then r else !r)) w:=by
 obtain⟨j,hj,hsz⟩: ∃j,P.info? te=some j∧j.size=k+1:=by
  unfold szB at hs
  cases hu:P.info? te with
  |none=>rw[hu]at hs;cases hs
  |some i=>rw[hu]at hs;exact⟨i,rfl,by simpa using hs⟩
 subst hr
 by_cases he:a=b
 ·subst he
  rcases hop with rfl|rfl
  ·simpa using run_eql_ptr_same w a hp hj
  ·simpa using run_neq_ptr_same (w:=w) a hp hj
 ·rcases hop with rfl|rfl
  ·simpa[he]using run_eql_ptr_other w hp hj (by omega) he ha hb
  ·simpa[he]using run_neq_ptr_other (w:=w) hp hj (by omega) he ha hb
theorem PO_pcmp{x y:Operand}{t u T k:Nat}{op:BinOp}{b1 o1 b2 o2:Nat}{cs1 cs2:List PV}(ho:o.op= .binOp op t x y u)(ht:P.underlying t=some (.pointer T))(hs:szB P T=some (k+1))(hop:op= .eql∨op= .neq)(hx':ρ x= .ptr b1 o1)(hy':ρ y= .ptr b2 o2)
  (hb1:H.bx[b1]? =some cs1) (hb2:H.bx[b2]? =some cs2):PO P o ρ H (.g (.bool (if op= .eql then(Nat.beq b1 b2&&Nat.beq o1 o2)else !(Nat.beq b1 b2&&Nat.beq o1 o2)))) H:=
 PO_val fun c ρr hr hx=>by
  have h1:=hx x (by simp[ho,Op.operands])
  have h2:=hx y (by simp[ho,Op.operands])
  rw[hx']at h1
  rw[hy']at h2
  generalize hv1:ρr x=v1 at h1
  generalize hv2:ρr y=v2 at h2
  cases h1 with
  |ptr _ _ blk1 e1=>
  cases h2 with
  |ptr _ _ blk2 e2=>
  obtain⟨vals1,T1,f1,_⟩:=hr.bx b1 blk1 cs1 e1 hb1
  obtain⟨vals2,T2,f2,_⟩:=hr.bx b2 blk2 cs2 e2 hb2
  have hcmp:decide ((⟨blk1,o1,none⟩:Addr)=⟨blk2,o2,none⟩)=(Nat.beq b1 b2&&Nat.beq o1 o2):=by
   by_cases hid:b1=b2
   ·subst hid
    rw[e1]at e2
    cases e2
    rw[Nat.beq_refl,Bool.true_and]
    by_cases hk:o1=o2
    ·rw[hk,Nat.beq_refl];simp
    ·rw[Bool.eq_false_iff.2 fun h=>hk (Nat.eq_of_beq_eq_true h)];simp[hk]
   ·have hg:blk1≠blk2:=fun h=>hid (by
     subst h
     exact(List.getElem?_inj (List.getElem?_eq_some_iff.1 e1).1 hr.nd).1 (e1.trans e2.symm))
    rw[Bool.eq_false_iff.2 fun h=>hid (Nat.eq_of_beq_eq_true h),Bool.false_and]
    simp[hg]
  refine⟨_, ?_, .g _ _ (.bool _)⟩
  simp only[execOp,ho,hv1,hv2]
  have:=run_cmp_ptr ht hs hop hcmp f1 f2
  rcases hop with rfl|rfl<;>simp[eqGuard,this]
theorem PO_mcmp{x y:Operand}{t u T k:Nat}{op:BinOp}{id n i off id2 n2 i2 off2 e e2:Nat}{es es2:List GV}(ho:o.op= .binOp op t x y u)(ht:P.underlying t=some (.pointer T))(hsT:szB P T=some (k+1))(hop:op= .eql∨op= .neq)(hx':ρ x= .mref id n i off)(hy':ρ y= .mref id2 n2 i2 off2)
  (hm:H.mu[id]? =some (.arr n e es)) (hm2:H.mu[id2]? =some (.arr n2 e2 es2)) (hs:szB P e=some 1) (hs2:szB P e2=some 1) (hne:es≠[]) (hne2:es2≠[]):
  PO P o ρ H (.g (.bool (if op= .eql then(Nat.beq id id2&&Nat.beq (i+off) (i2+off2))else !(Nat.beq id id2&&Nat.beq (i+off) (i2+off2))))) H:=
 PO_val fun c ρr hr hx=>by
  have h1:=hx x (by simp[ho,Op.operands])
  have h2:=hx y (by simp[ho,Op.operands])
  rw[hx']at h1
  rw[hy']at h2
  generalize hv1:ρr x=v1 at h1
  generalize hv2:ρr y=v2 at h2
  cases h1 with
  |mref _ _ _ _ a t1 ht1 hn1 hs1 hv1'=>
  cases h2 with
  |mref _ _ _ _ b t2 ht2 hn2 hs2' hv2'=>
  obtain⟨a1,a2,a3,a4⟩:=hr.mu id t1 _ ht1 hm
  obtain⟨b1,b2,b3,b4⟩:=hr.mu id2 t2 _ ht2 hm2
  have z1:=sz_one a3 hs
  have z2:=sz_one b3 hs2
  obtain⟨l1,cur1,c1,_⟩:=a4.resolve_left fun h=>hne h.2
  obtain⟨l2,cur2,c2,_⟩:=b4.resolve_left fun h=>hne2 h.2
  have ea:=hv1' a1.symm
  have eb:=hv2' b1.symm
  rw[z1,Nat.mul_one]at ea
  rw[z2,Nat.mul_one]at eb
  subst ea;subst eb
  have hcmp:decide ((⟨t1.g,i+off,none⟩:Addr)=⟨t2.g,i2+off2,none⟩)=(Nat.beq id id2&&Nat.beq (i+off) (i2+off2)):=by
   by_cases hid:id=id2
   ·subst hid
    rw[ht1]at ht2
    cases ht2
    rw[Nat.beq_refl,Bool.true_and]
    by_cases hk:i+off=i2+off2
    ·rw[hk,Nat.beq_refl];simp
    ·rw[Bool.eq_false_iff.2 fun h=>hk (Nat.eq_of_beq_eq_true h)];simp[hk]
   ·have hg:t1.g≠t2.g:=fun h=>hid (hr.md id id2 t1 t2 ht1 ht2 l1 l2 h)
    rw[Bool.eq_false_iff.2 fun h=>hid (Nat.eq_of_beq_eq_true h),Bool.false_and]
    simp[hg]
  refine⟨_, ?_, .g _ _ (.bool _)⟩
  simp only[execOp,ho,hv1,hv2]
  have:=run_cmp_ptr ht hsT hop hcmp c1 c2
  rcases hop with rfl|rfl<;>simp[eqGuard,this]
end
def lkG:List (Nat×List Value)→Nat→Nat→Option Value
 |[],_,_=>none
 |(b,vs)::r,g,off=>bif Nat.beq b g then vs[off]? else lkG r g off
theorem lkG_mem: ∀{l:List (Nat×List Value)} {g off:Nat} {v:Value},lkG l g off=some v→ ∃vs,(g,vs)∈l∧vs[off]? =some v
 |[],_,_,_,h=>by cases h
 |(b,vs)::r,g,off,v,h=>by
  unfold lkG at h
  cases hb:Nat.beq b g with
  |true=>
   rw[hb,cond_true]at h
   have:=Nat.eq_of_beq_eq_true hb
   subst this
   exact⟨vs,List.mem_cons_self,h⟩
  |false=>
   rw[hb,cond_false]at h
   obtain⟨vs',h1,h2⟩:=lkG_mem h
   exact⟨vs',List.mem_cons_of_mem _ h1,h2⟩
section
variable{P:Program}{o:Oper}{ρ:Operand→PV}{H:PH}
theorem PO_loadg{t:TypeId}{x:Operand}{g off:Nat}{v:Value}(ho:o.op= .load t x)(h1:aggB P t=some false)(hx':ρ x= .glob g off)(hv:(fun β=>lkG (gfacts β) g off)=fun _=>some v):PO P o ρ H (.g (constG v)) H:=
 PO_val fun c ρr hr hx=>by
  have hx1:=hx x (by simp[ho,Op.operands])
  rw[hx']at hx1
  generalize hrx:ρr x=u at hx1
  cases hx1
  obtain⟨⟨β,_,gl⟩,_⟩:=hr.gl
  obtain⟨vs,hm,hvs⟩:=lkG_mem (congrFun hv β)
  have hc:=(gl _ hm off v hvs).1
  exact⟨v,by simp only[execOp,ho,hrx,Instr.loadAt,Instr.sureAddr];simp[run_loadVar_one h1 _ _ hc], .g _ _ (constG_ok _ _ v)⟩
end
mutual
def mov(id2 n2 id n:Nat):PV→PV
 | .vw id' n' off len cap=>bif Nat.beq id' id2&&Nat.beq n' n2 then .vw id n off len cap else .vw id' n' off len cap
 | .clo f a b=> .clo f (movL id2 n2 id n a) (movL id2 n2 id n b)
 | .agg cs=> .agg (movL id2 n2 id n cs)
 | .tuple cs=> .tuple (movL id2 n2 id n cs)
 | .mar id' n'=> .mar id' n'
 | .g x=> .g x
 | .own es' id'=> .own es' id'
 | .ptr b off=> .ptr b off
 | .nilp=> .nilp
 | .nils=> .nils
 | .pat cs=> .pat cs
 | .lit es'=> .lit es'
 | .mref a b c d=> .mref a b c d
 | .mp a=> .mp a
 | .glob g off=> .glob g off
 | .kv g off=> .kv g off
 | .ifc t p=> .ifc t (mov id2 n2 id n p)
 | .any=> .any
def movL(id2 n2 id n:Nat):List PV→List PV
 |[]=>[]
 |p::r=>mov id2 n2 id n p::movL id2 n2 id n r
end
theorem movL_eq(id2 n2 id n:Nat): ∀l,movL id2 n2 id n l=l.map (mov id2 n2 id n)
 |[]=>by simp[movL]
 |p::r=>by simp[movL,movL_eq id2 n2 id n r]
def movB(id2 n2 id n:Nat):List (List PV)→List (List PV)
 |[]=>[]
 |l::r=>movL id2 n2 id n l::movB id2 n2 id n r
theorem movB_eq(id2 n2 id n:Nat): ∀l,movB id2 n2 id n l=l.map (·.map (mov id2 n2 id n))
 |[]=>rfl
 |p::r=>by simp[movB,movL_eq,movB_eq id2 n2 id n r]
theorem RV_mov{c c':Ctx}(hE:EvoL c c'){id2 n2 id n:Nat}(hread: ∀off len cap v,RV c (.vw id2 n2 off len cap) v→RV c' (.vw id n off len cap) v){p:PV}{v:Value}(h:RV c p v):RV c' (mov id2 n2 id n p) v:=by
 induction h with
 |vw id' n' off len cap g t ht hn h1 h2 hv=>
  simp only[mov]
  cases hb:(Nat.beq id' id2&&Nat.beq n' n2)with
  |true=>
   rw[cond_true]
   simp only[Bool.and_eq_true]at hb
   have e1:=Nat.eq_of_beq_eq_true hb.1
   have e2:=Nat.eq_of_beq_eq_true hb.2
   subst e1;subst e2
   exact hread off len cap _ (.vw _ _ off len cap g t ht hn h1 h2 hv)
  |false=>rw[cond_false];exact(RV.vw id' n' off len cap g t ht hn h1 h2 hv).light hE
 |mar id' n' v t ht hn h1 hv=>simp only[mov];exact(RV.mar id' n' v t ht hn h1 hv).light hE
 |g x v h=>simp only[mov];exact(RV.g x v h).light hE
 |own es id v t h ht hs hl hv=>simp only[mov];exact(RV.own es id v t h ht hs hl hv).light hE
 |ptr b off blk h=>simp only[mov];exact(RV.ptr b off blk h).light hE
 |nilp=>simp only[mov];exact .nilp
 |nils=>simp only[mov];exact .nils
 |pat cs a f ha hf h=>simp only[mov];exact(RV.pat cs a f ha hf h).light hE
 |clo fn ps qs us vs hp hq _ _ h1 h2=>
  simp only[mov,movL_eq]
  refine .clo fn _ _ us vs (by simpa using hp) (by simpa using hq) (fun i p v hp' hv=> ?_) (fun i p v hp' hv=> ?_)
  ·simp only[List.getElem?_map,Option.map_eq_some_iff]at hp'
   obtain⟨q,hq',rfl⟩:=hp'
   exact h1 i q v hq' hv
  ·simp only[List.getElem?_map,Option.map_eq_some_iff]at hp'
   obtain⟨q,hq',rfl⟩:=hp'
   exact h2 i q v hq' hv
 |agg cs vs hl h1 _ ih=>
  simp only[mov,movL_eq]
  refine .agg _ vs (by simpa using hl) h1 fun i p v hp' hv=> ?_
  simp only[List.getElem?_map,Option.map_eq_some_iff]at hp'
  obtain⟨q,hq',rfl⟩:=hp'
  exact ih i q v hq' hv
 |tuple cs vs hl _ ih=>
  simp only[mov,movL_eq]
  refine .tuple _ vs (by simpa using hl) fun i p v hp' hv=> ?_
  simp only[List.getElem?_map,Option.map_eq_some_iff]at hp'
  obtain⟨q,hq',rfl⟩:=hp'
  exact ih i q v hq' hv
 |lit es a h=>simp only[mov];exact(RV.lit es a h).light hE
 |mref id n i off a t ht hn h1 hv=>simp only[mov];exact(RV.mref id n i off a t ht hn h1 hv).light hE
 |mp id v t ht h1 hv=>simp only[mov];exact(RV.mp id v t ht h1 hv).light hE
 |glob g off=>simp only[mov];exact .glob g off
 |kv g off v h hs h1=>simp only[mov];exact(RV.kv g off v h hs h1).light hE
 |ifc t p v _ ih=>simp only[mov];exact .ifc t _ v ih
 |any v=>simp only[mov];exact .any v
theorem Rel.move{P:Program}{c:Ctx}{H:PH}(hr:Rel P c H){id id2 n n2 e e2:Nat}{es es2:List GV}(hne:id≠id2)(hm:H.mu[id]? =some (.arr n e es))(hm2:H.mu[id2]? =some (.arr n2 e2 es2))(hs:szB P e=some 1)(hs2:szB P e2=some 1):
  ∃c',c'.w=c.w∧c'.hid=c.hid∧Rel P c' ⟨movB id2 n2 id (n+1) H.bx,H.tk,(H.mu.set id2 (.gone (n2+1))).set id (.arr (n+1) e2 es2)⟩∧Evo c c'∧ ∀p v,RV c p v→RV c' (mov id2 n2 id (n+1) p) v:=by
 have hid:id<c.μ.length:=by rw[hr.mlen];exact(List.getElem?_eq_some_iff.1 hm).1
 have hid2:id2<c.μ.length:=by rw[hr.mlen];exact(List.getElem?_eq_some_iff.1 hm2).1
 have ht:=List.getElem?_eq_getElem hid
 have ht2:=List.getElem?_eq_getElem hid2
 generalize c.μ[id]=t at ht
 generalize c.μ[id2]=t2 at ht2
 have hmk:=hr.mu id t _ ht hm
 have hmk2:=hr.mu id2 t2 _ ht2 hm2
 obtain⟨a1,a2,a3,a4⟩:=hmk
 obtain⟨b1,b2,b3,b4⟩:=hmk2
 have s1:=sz_one a3 hs
 have s2:=sz_one b3 hs2
 -- the array at id2 is given up first: its block is nobody's for a moment
 obtain⟨r1,r2⟩:=hr.setMu ht2 (t':={t2 with live:=false,gen:=n2+1}) (o':= .gone (n2+1)) rfl (.inr (by dsimp only;omega)) (w':=c.w) rfl ⟨rfl,fun _=>by first|exact Nat.le_refl _|exact Nat.le_succ _⟩ rfl (Nat.le_refl _) (fun _ _ _=>rfl) (fun h=>by cases h) (fun _=>⟨rfl,rfl⟩)
 generalize hμ:(c.μ.set id2 {t2 with live:=false,gen:=n2+1}).set id {t2 with gen:=n+1}=μ'
 have g0:μ'[id]? =some {t2 with gen:=n+1}:=by rw[←hμ,List.getElem?_set_self (by simpa using hid)]
 have g2:μ'[id2]? =some {t2 with live:=false,gen:=n2+1}:=by rw[←hμ,List.getElem?_set_ne hne,List.getElem?_set_self hid2]
 have gk: ∀k,k≠id→k≠id2→μ'[k]? =c.μ[k]? :=fun k h1 h2=>by rw[←hμ,List.getElem?_set_ne (Ne.symm h1),List.getElem?_set_ne (Ne.symm h2)]
 have mem': ∀x∈μ',x.live=true→ ∃y∈c.μ,y.live=true∧y.g=x.g:=by
  intro x hx lv
  obtain⟨k,hk⟩:=List.getElem?_of_mem hx
  by_cases h1:k=id
  ·subst h1;rw[g0]at hk;cases hk;exact⟨t2,List.mem_of_getElem? ht2,lv,rfl⟩
  ·by_cases h2:k=id2
   ·subst h2;rw[g2]at hk;cases hk;cases lv
   ·rw[gk k h1 h2]at hk;exact⟨x,List.mem_of_getElem? hk,lv,rfl⟩
 have hstab: ∀b p,c.stab b p→Ctx.stab ⟨c.σ,c.τ,μ',c.hid,c.w⟩ b p:=fun b p h=>⟨h.1,h.2.1,h.2.2.1,fun x hx lv e=>by
  obtain⟨y,hy,lv',e'⟩:=mem' x hx lv
  exact h.2.2.2 y hy lv' (e'.trans e)⟩
 have hk:Keeps c.w c.w c.stab (Ctx.stab ⟨c.σ,c.τ,μ',c.hid,c.w⟩):=fun a v _ hs hc=>⟨hc,hstab _ _ hs⟩
 have hE:Evo c ⟨c.σ,c.τ,μ',c.hid,c.w⟩:=by
  refine⟨rfl,⟨rfl,fun _=>Nat.le_refl _⟩,rfl,Nat.le_refl _,rfl,⟨[],by simp⟩,fun _ t h=>⟨t,h,rfl,rfl, .inl rfl⟩, ?_,fun x hx lv=> .inl (mem' x hx lv),fun t h lv=> .inl ⟨t,h,lv,rfl⟩,hk,fun _ _ _ _ _=>rfl⟩
  intro k x hx
  by_cases h1:k=id
  ·subst h1
   rw[ht]at hx;cases hx
   exact⟨_,g0,by rw[s1];exact s2, .inr (by dsimp only;omega)⟩
  ·by_cases h2:k=id2
   ·subst h2
    rw[ht2]at hx;cases hx
    exact⟨_,g2,rfl, .inr (by dsimp only;omega)⟩
   ·exact⟨x,by rw[gk k h1 h2];exact hx,rfl, .inl rfl⟩
 have hread: ∀off len cap v,RV c (.vw id2 n2 off len cap) v→RV ⟨c.σ,c.τ,μ',c.hid,c.w⟩ (.vw id (n+1) off len cap) v:=by
  intro off len cap v hv
  cases hv with
  |vw _ _ _ _ _ g t3 ht3 hn h1 h2 hv=>
   rw[ht2]at ht3;cases ht3
   exact .vw id (n+1) off len cap g _ g0 (Nat.le_refl _) h1 h2 fun _=>hv b1.symm
 refine⟨⟨c.σ,c.τ,μ',c.hid,c.w⟩,rfl,rfl, ?_,hE,fun p v h=>RV_mov hE.light hread h⟩
 refine{len:=by rw[movB_eq];simpa using hr.len,bx:= ?_,tk:=hr.tk,tb:=hr.tb,nd:=hr.nd,td:=hr.td,st:=hr.st,hidlt:=hr.hidlt,thid:=hr.thid,shid:=hr.shid,dead:=hr.dead,mlen:= ?_,mu:= ?_,mlt:= ?_,md:= ?_,ms:= ?_,mt:= ?_,mhid:= ?_,gl:=hr.gl.keep hk}
 ·intro i b cs hb hcs
  rw[movB_eq]at hcs
  simp only[List.getElem?_map,Option.map_eq_some_iff]at hcs
  obtain⟨ds,hds,rfl⟩:=hcs
  obtain⟨vals,T,e1,e2,e3⟩:=hr.bx i b ds hb hds
  refine⟨vals,T,e1,by simpa using e2,fun j p v hp hv=> ?_⟩
  simp only[List.getElem?_map,Option.map_eq_some_iff]at hp
  obtain⟨q,hq,rfl⟩:=hp
  exact⟨RV_mov hE.light hread (e3 j q v hq hv).1,(e3 j q v hq hv).2⟩
 ·show μ'.length=_
  rw[←hμ];simpa using hr.mlen
 ·intro i x o hx ho
  replace hx:μ'[i]? =some x:=hx
  by_cases h1:i=id
  ·subst h1
   rw[g0]at hx;cases hx
   rw[List.getElem?_set_self (by simpa using(List.getElem?_eq_some_iff.1 hm).1)]at ho
   cases ho
   refine⟨rfl,b2,b3,b4.imp (fun h=>h) ?_⟩
   rintro⟨lv,cur,c1,c2,c3,c4,c5,c6⟩
   exact⟨lv,cur,c1,c2,c3,c4,c5,fun i x j g v hx hg hv=>⟨(c6 i x j g v hx hg hv).1.mono hk,(c6 i x j g v hx hg hv).2⟩⟩
  ·rw[List.getElem?_set_ne (Ne.symm h1)]at ho
   by_cases h2:i=id2
   ·subst h2
    rw[g2]at hx;cases hx
    rw[List.getElem?_set_self (List.getElem?_eq_some_iff.1 hm2).1]at ho
    cases ho
    exact⟨rfl,rfl⟩
   ·rw[List.getElem?_set_ne (Ne.symm h2)]at ho
    rw[gk i h1 h2]at hx
    exact MOk.mono hE (fun _=>rfl) (hr.mu i x o hx ho)
 ·intro x hx lv
  obtain⟨y,hy,lv',e⟩:=mem' x hx lv
  exact e▸hr.mlt y hy lv'
 ·intro i j x y hx hy lx ly e
  have key: ∀(k:Nat) (z:MTok),μ'[k]? =some z→z.live=true→ ∃k' z',c.μ[k']? =some z'∧z'.live=true∧z'.g=z.g∧((k=id∧k'=id2)∨(k≠id∧k≠id2∧k'=k)):=by
   intro k z hz lz
   by_cases h1:k=id
   ·subst h1;rw[g0]at hz;cases hz;exact⟨id2,t2,ht2,lz,rfl, .inl ⟨rfl,rfl⟩⟩
   ·by_cases h2:k=id2
    ·subst h2;rw[g2]at hz;cases hz;cases lz
    ·rw[gk k h1 h2]at hz;exact⟨k,z,hz,lz,rfl, .inr ⟨h1,h2,rfl⟩⟩
  obtain⟨i',x',hx',lx',ex,di⟩:=key i x hx lx
  obtain⟨j',y',hy',ly',ey,dj⟩:=key j y hy ly
  have:=hr.md i' j' x' y' hx' hy' lx' ly' (ex.trans (e.trans ey.symm))
  omega
 ·intro x hx lv
  obtain⟨y,hy,lv',e⟩:=mem' x hx lv
  exact e▸hr.ms y hy lv'
 ·intro x hx lv
  obtain⟨y,hy,lv',e⟩:=mem' x hx lv
  exact e▸hr.mt y hy lv'
 ·intro x hx lv
  obtain⟨y,hy,lv',e⟩:=mem' x hx lv
  exact e▸hr.mhid y hy lv'
mutual
def swp(id2 n2 id n:Nat):PV→PV
 | .vw id' n' off len cap=>bif Nat.beq id' id2&&Nat.beq n' n2 then .vw id (n+1) off len cap else bif Nat.beq id' id&&Nat.beq n' n then .vw id2 (n2+1) off len cap else .vw id' n' off len cap
 | .clo f a b=> .clo f (swpL id2 n2 id n a) (swpL id2 n2 id n b)
 | .agg cs=> .agg (swpL id2 n2 id n cs)
 | .tuple cs=> .tuple (swpL id2 n2 id n cs)
 | .mar id' n'=> .mar id' n'
 | .g x=> .g x
 | .own es' id'=> .own es' id'
 | .ptr b off=> .ptr b off
 | .nilp=> .nilp
 | .nils=> .nils
 | .pat cs=> .pat cs
 | .lit es'=> .lit es'
 | .mref a b c d=> .mref a b c d
 | .mp a=> .mp a
 | .glob g off=> .glob g off
 | .kv g off=> .kv g off
 | .ifc t p=> .ifc t (swp id2 n2 id n p)
 | .any=> .any
def swpL(id2 n2 id n:Nat):List PV→List PV
 |[]=>[]
 |p::r=>swp id2 n2 id n p::swpL id2 n2 id n r
end
theorem swpL_eq(id2 n2 id n:Nat): ∀l,swpL id2 n2 id n l=l.map (swp id2 n2 id n)
 |[]=>by simp[swpL]
 |p::r=>by simp[swpL,swpL_eq id2 n2 id n r]
def swpB(id2 n2 id n:Nat):List (List PV)→List (List PV)
 |[]=>[]
 |l::r=>swpL id2 n2 id n l::swpB id2 n2 id n r
theorem swpB_eq(id2 n2 id n:Nat): ∀l,swpB id2 n2 id n l=l.map (·.map (swp id2 n2 id n))
 |[]=>rfl
 |p::r=>by simp[swpB,swpL_eq,swpB_eq id2 n2 id n r]
theorem RV_swp{c c':Ctx}(hE:EvoL c c'){id2 n2 id n:Nat}(hread: ∀off len cap v,RV c (.vw id2 n2 off len cap) v→RV c' (.vw id (n+1) off len cap) v)(hread2: ∀off len cap v,RV c (.vw id n off len cap) v→RV c' (.vw id2 (n2+1) off len cap) v){p:PV}{v:Value}(h:RV c p v):RV c' (swp id2 n2 id n p) v:=by
 induction h with
 |vw id' n' off len cap g t ht hn h1 h2 hv=>
  simp only[swp]
  cases hb:(Nat.beq id' id2&&Nat.beq n' n2)with
  |true=>
   rw[cond_true]
   simp only[Bool.and_eq_true]at hb
   have e1:=Nat.eq_of_beq_eq_true hb.1
   have e2:=Nat.eq_of_beq_eq_true hb.2
   subst e1;subst e2
   exact hread off len cap _ (.vw _ _ off len cap g t ht hn h1 h2 hv)
  |false=>
   rw[cond_false]
   cases hb2:(Nat.beq id' id&&Nat.beq n' n)with
   |true=>
    rw[cond_true]
    simp only[Bool.and_eq_true]at hb2
    have e1:=Nat.eq_of_beq_eq_true hb2.1
    have e2:=Nat.eq_of_beq_eq_true hb2.2
    subst e1;subst e2
    exact hread2 off len cap _ (.vw _ _ off len cap g t ht hn h1 h2 hv)
   |false=>rw[cond_false];exact(RV.vw id' n' off len cap g t ht hn h1 h2 hv).light hE
 |mar id' n' v t ht hn h1 hv=>simp only[swp];exact(RV.mar id' n' v t ht hn h1 hv).light hE
 |g x v h=>simp only[swp];exact(RV.g x v h).light hE
 |own es id v t h ht hs hl hv=>simp only[swp];exact(RV.own es id v t h ht hs hl hv).light hE
 |ptr b off blk h=>simp only[swp];exact(RV.ptr b off blk h).light hE
 |nilp=>simp only[swp];exact .nilp
 |nils=>simp only[swp];exact .nils
 |pat cs a f ha hf h=>simp only[swp];exact(RV.pat cs a f ha hf h).light hE
 |clo fn ps qs us vs hp hq _ _ h1 h2=>
  simp only[swp,swpL_eq]
  refine .clo fn _ _ us vs (by simpa using hp) (by simpa using hq) (fun i p v hp' hv=> ?_) (fun i p v hp' hv=> ?_)
  ·simp only[List.getElem?_map,Option.map_eq_some_iff]at hp'
   obtain⟨q,hq',rfl⟩:=hp'
   exact h1 i q v hq' hv
  ·simp only[List.getElem?_map,Option.map_eq_some_iff]at hp'
   obtain⟨q,hq',rfl⟩:=hp'
   exact h2 i q v hq' hv
 |agg cs vs hl h1 _ ih=>
  simp only[swp,swpL_eq]
  refine .agg _ vs (by simpa using hl) h1 fun i p v hp' hv=> ?_
  simp only[List.getElem?_map,Option.map_eq_some_iff]at hp'
  obtain⟨q,hq',rfl⟩:=hp'
  exact ih i q v hq' hv
 |tuple cs vs hl _ ih=>
  simp only[swp,swpL_eq]
  refine .tuple _ vs (by simpa using hl) fun i p v hp' hv=> ?_
  simp only[List.getElem?_map,Option.map_eq_some_iff]at hp'
  obtain⟨q,hq',rfl⟩:=hp'
  exact ih i q v hq' hv
 |lit es a h=>simp only[swp];exact(RV.lit es a h).light hE
 |mref id n i off a t ht hn h1 hv=>simp only[swp];exact(RV.mref id n i off a t ht hn h1 hv).light hE
 |mp id v t ht h1 hv=>simp only[swp];exact(RV.mp id v t ht h1 hv).light hE
 |glob g off=>simp only[swp];exact .glob g off
 |kv g off v h hs h1=>simp only[swp];exact(RV.kv g off v h hs h1).light hE
 |ifc t p v _ ih=>simp only[swp];exact .ifc t _ v ih
 |any v=>simp only[swp];exact .any v
theorem Rel.swap{P:Program}{c:Ctx}{H:PH}(hr:Rel P c H){id id2 n n2 e e2:Nat}{es es2:List GV}(hne:id≠id2)(hm:H.mu[id]? =some (.arr n e es))(hm2:H.mu[id2]? =some (.arr n2 e2 es2))(hs:szB P e=some 1)(hs2:szB P e2=some 1):
  ∃c',c'.w=c.w∧c'.hid=c.hid∧Rel P c' ⟨swpB id2 n2 id n H.bx,H.tk,(H.mu.set id2 (.arr (n2+1) e es)).set id (.arr (n+1) e2 es2)⟩∧Evo c c'∧ ∀p v,RV c p v→RV c' (swp id2 n2 id n p) v:=by
 have hid:id<c.μ.length:=by rw[hr.mlen];exact(List.getElem?_eq_some_iff.1 hm).1
 have hid2:id2<c.μ.length:=by rw[hr.mlen];exact(List.getElem?_eq_some_iff.1 hm2).1
 have ht:=List.getElem?_eq_getElem hid
 have ht2:=List.getElem?_eq_getElem hid2
 generalize c.μ[id]=t at ht
 generalize c.μ[id2]=t2 at ht2
 have hmk:=hr.mu id t _ ht hm
 have hmk2:=hr.mu id2 t2 _ ht2 hm2
 obtain⟨a1,a2,a3,a4⟩:=hmk
 obtain⟨b1,b2,b3,b4⟩:=hmk2
 have s1:=sz_one a3 hs
 have s2:=sz_one b3 hs2
 generalize hμ:(c.μ.set id2 {t with gen:=n2+1}).set id {t2 with gen:=n+1}=μ'
 have g0:μ'[id]? =some {t2 with gen:=n+1}:=by rw[←hμ,List.getElem?_set_self (by simpa using hid)]
 have g2:μ'[id2]? =some {t with gen:=n2+1}:=by rw[←hμ,List.getElem?_set_ne hne,List.getElem?_set_self hid2]
 have gk: ∀k,k≠id→k≠id2→μ'[k]? =c.μ[k]? :=fun k h1 h2=>by rw[←hμ,List.getElem?_set_ne (Ne.symm h1),List.getElem?_set_ne (Ne.symm h2)]
 have mem': ∀x∈μ',x.live=true→ ∃y∈c.μ,y.live=true∧y.g=x.g:=by
  intro x hx lv
  obtain⟨k,hk⟩:=List.getElem?_of_mem hx
  by_cases h1:k=id
  ·subst h1;rw[g0]at hk;cases hk;exact⟨t2,List.mem_of_getElem? ht2,lv,rfl⟩
  ·by_cases h2:k=id2
   ·subst h2;rw[g2]at hk;cases hk;exact⟨t,List.mem_of_getElem? ht,lv,rfl⟩
   ·rw[gk k h1 h2]at hk;exact⟨x,List.mem_of_getElem? hk,lv,rfl⟩
 have hstab: ∀b p,c.stab b p→Ctx.stab ⟨c.σ,c.τ,μ',c.hid,c.w⟩ b p:=fun b p h=>⟨h.1,h.2.1,h.2.2.1,fun x hx lv e=>by
  obtain⟨y,hy,lv',e'⟩:=mem' x hx lv
  exact h.2.2.2 y hy lv' (e'.trans e)⟩
 have hk:Keeps c.w c.w c.stab (Ctx.stab ⟨c.σ,c.τ,μ',c.hid,c.w⟩):=fun a v _ hs hc=>⟨hc,hstab _ _ hs⟩
 have hE:Evo c ⟨c.σ,c.τ,μ',c.hid,c.w⟩:=by
  refine⟨rfl,⟨rfl,fun _=>Nat.le_refl _⟩,rfl,Nat.le_refl _,rfl,⟨[],by simp⟩,fun _ t h=>⟨t,h,rfl,rfl, .inl rfl⟩, ?_,fun x hx lv=> .inl (mem' x hx lv),fun t h lv=> .inl ⟨t,h,lv,rfl⟩,hk,fun _ _ _ _ _=>rfl⟩
  intro k x hx
  by_cases h1:k=id
  ·subst h1
   rw[ht]at hx;cases hx
   exact⟨_,g0,by rw[s1];exact s2, .inr (by dsimp only;omega)⟩
  ·by_cases h2:k=id2
   ·subst h2
    rw[ht2]at hx;cases hx
    exact⟨_,g2,by rw[s2];exact s1, .inr (by dsimp only;omega)⟩
   ·exact⟨x,by rw[gk k h1 h2];exact hx,rfl, .inl rfl⟩
 have hread: ∀off len cap v,RV c (.vw id2 n2 off len cap) v→RV ⟨c.σ,c.τ,μ',c.hid,c.w⟩ (.vw id (n+1) off len cap) v:=by
  intro off len cap v hv
  cases hv with
  |vw _ _ _ _ _ g t3 ht3 hn h1 h2 hv=>
   rw[ht2]at ht3;cases ht3
   exact .vw id (n+1) off len cap g _ g0 (Nat.le_refl _) h1 h2 fun _=>hv b1.symm
 have hread2: ∀off len cap v,RV c (.vw id n off len cap) v→RV ⟨c.σ,c.τ,μ',c.hid,c.w⟩ (.vw id2 (n2+1) off len cap) v:=by
  intro off len cap v hv
  cases hv with
  |vw _ _ _ _ _ g t3 ht3 hn h1 h2 hv=>
   rw[ht]at ht3;cases ht3
   exact .vw id2 (n2+1) off len cap g _ g2 (Nat.le_refl _) h1 h2 fun _=>hv a1.symm
 refine⟨⟨c.σ,c.τ,μ',c.hid,c.w⟩,rfl,rfl, ?_,hE,fun p v h=>RV_swp hE.light hread hread2 h⟩
 refine{len:=by rw[swpB_eq];simpa using hr.len,bx:= ?_,tk:=hr.tk,tb:=hr.tb,nd:=hr.nd,td:=hr.td,st:=hr.st,hidlt:=hr.hidlt,thid:=hr.thid,shid:=hr.shid,dead:=hr.dead,mlen:= ?_,mu:= ?_,mlt:= ?_,md:= ?_,ms:= ?_,mt:= ?_,mhid:= ?_,gl:=hr.gl.keep hk}
 ·intro i b cs hb hcs
  rw[swpB_eq]at hcs
  simp only[List.getElem?_map,Option.map_eq_some_iff]at hcs
  obtain⟨ds,hds,rfl⟩:=hcs
  obtain⟨vals,T,e1,e2,e3⟩:=hr.bx i b ds hb hds
  refine⟨vals,T,e1,by simpa using e2,fun j p v hp hv=> ?_⟩
  simp only[List.getElem?_map,Option.map_eq_some_iff]at hp
  obtain⟨q,hq,rfl⟩:=hp
  exact⟨RV_swp hE.light hread hread2 (e3 j q v hq hv).1,(e3 j q v hq hv).2⟩
 ·show μ'.length=_
  rw[←hμ];simpa using hr.mlen
 ·intro i x o hx ho
  replace hx:μ'[i]? =some x:=hx
  by_cases h1:i=id
  ·subst h1
   rw[g0]at hx;cases hx
   rw[List.getElem?_set_self (by simpa using(List.getElem?_eq_some_iff.1 hm).1)]at ho
   cases ho
   refine⟨rfl,b2,b3,b4.imp (fun h=>h) ?_⟩
   rintro⟨lv,cur,c1,c2,c3,c4,c5,c6⟩
   exact⟨lv,cur,c1,c2,c3,c4,c5,fun i x j g v hx hg hv=>⟨(c6 i x j g v hx hg hv).1.mono hk,(c6 i x j g v hx hg hv).2⟩⟩
  ·rw[List.getElem?_set_ne (Ne.symm h1)]at ho
   by_cases h2:i=id2
   ·subst h2
    rw[g2]at hx;cases hx
    rw[List.getElem?_set_self (List.getElem?_eq_some_iff.1 hm2).1]at ho
    cases ho
    refine⟨rfl,a2,a3,a4.imp (fun h=>h) ?_⟩
    rintro⟨lv,cur,c1,c2,c3,c4,c5,c6⟩
    exact⟨lv,cur,c1,c2,c3,c4,c5,fun i x j g v hx hg hv=>⟨(c6 i x j g v hx hg hv).1.mono hk,(c6 i x j g v hx hg hv).2⟩⟩
   ·rw[List.getElem?_set_ne (Ne.symm h2)]at ho
    rw[gk i h1 h2]at hx
    exact MOk.mono hE (fun _=>rfl) (hr.mu i x o hx ho)
 ·intro x hx lv
  obtain⟨y,hy,lv',e⟩:=mem' x hx lv
  exact e▸hr.mlt y hy lv'
 ·intro i j x y hx hy lx ly e
  have key: ∀(k:Nat) (z:MTok),μ'[k]? =some z→z.live=true→ ∃k' z',c.μ[k']? =some z'∧z'.live=true∧z'.g=z.g∧((k=id∧k'=id2)∨(k=id2∧k'=id)∨(k≠id∧k≠id2∧k'=k)):=by
   intro k z hz lz
   by_cases h1:k=id
   ·subst h1;rw[g0]at hz;cases hz;exact⟨id2,t2,ht2,lz,rfl, .inl ⟨rfl,rfl⟩⟩
   ·by_cases h2:k=id2
    ·subst h2;rw[g2]at hz;cases hz;exact⟨id,t,ht,lz,rfl, .inr (.inl ⟨rfl,rfl⟩)⟩
    ·rw[gk k h1 h2]at hz;exact⟨k,z,hz,lz,rfl, .inr (.inr ⟨h1,h2,rfl⟩)⟩
  obtain⟨i',x',hx',lx',ex,di⟩:=key i x hx lx
  obtain⟨j',y',hy',ly',ey,dj⟩:=key j y hy ly
  have:=hr.md i' j' x' y' hx' hy' lx' ly' (ex.trans (e.trans ey.symm))
  omega
 ·intro x hx lv
  obtain⟨y,hy,lv',e⟩:=mem' x hx lv
  exact e▸hr.ms y hy lv'
 ·intro x hx lv
  obtain⟨y,hy,lv',e⟩:=mem' x hx lv
  exact e▸hr.mt y hy lv'
 ·intro x hx lv
  obtain⟨y,hy,lv',e⟩:=mem' x hx lv
  exact e▸hr.mhid y hy lv'
section
variable{P:Program}{N:Nat}{Q:Exit→Env→PH→Prop}{env:Env}{H:PH}
theorem PW_swap{code:Code}(id id2:Nat){n n2 e e2:Nat}{es es2:List GV}(hne:Nat.beq id id2=false)(hm:H.mu[id]? =some (.arr n e es))(hm2:H.mu[id2]? =some (.arr n2 e2 es2))(hs:szB P e=some 1)(hs2:szB P e2=some 1)
  (h:PW P N code Q (fun t=>swp id2 n2 id n (env t)) ⟨swpB id2 n2 id n H.bx,H.tk,(H.mu.set id2 (.arr (n2+1) e es)).set id (.arr (n+1) e2 es2)⟩):PW P N code Q env H:=by
 intro c a hr he
 obtain⟨c',hw,hh,r1,e1,r2⟩:=hr.swap (fun h=>by rw[h,Nat.beq_refl]at hne;cases hne) hm hm2 hs hs2
 have:=h c' a r1 ⟨he.defers.trans (congrArg Hid.d hh).symm,he.size,fun t=>r2 _ _ (he.slot t)⟩
 rw[hw]at this
 refine wp_mono this ?_
 rintro x a' w' ⟨c2,env',H',q,rfl,hr',hE',he'⟩
 exact⟨c2,env',H',q,rfl,hr',e1.trans hE',he'⟩
end
section
variable{P:Program}{o:Oper}{ρ:Operand→PV}{H H':PH}{v v':PV}
theorem PO_call_twin(ks:List Bool){f:Operand}{args:Array Operand}{ts:Array TypeId}{id0 id:FuncId}{ps:List PV}(ho:o.op= .call {callee:= .value f,args:=args,argTypes:=ts})
  (hf:ρ f= .g (.raw (.func (.func id0) #[] #[]))) (he: ∀(args:Array Value) (w:World),(callFunc id0 args).run P w= .ok (.enter id args) w) (ha:argsK ρ ks args.toList=ps) (hp:PC P id ps H v H'):PO P o ρ H v H':=by
 intro c ρr hr hx
 have hops: ∀x,x=f∨x∈args.toList→x∈o.op.operands.toList:=by
  intro x hx
  simp[ho,Op.operands,Call.operands]
  rcases hx with rfl|hx
  ·exact .inl rfl
  ·exact .inr (by simpa using hx)
 have hf1:=hx f (hops f (.inl rfl))
 rw[hf]at hf1
 have hf2:=RV_raw hf1
 have hrun:(execOp ρr o).run P c.w= .ok (.enter id (args.map ρr)) c.w:=by
  simp[execOp,ho,resolve,hf2,Deferred.ofValue,invoke,he]
 unfold OpGoes
 rw[hrun]
 refine(hp c _ hr ⟨by rw[←ha,argsK_length];simp,fun i p u hp' hu=> ?_⟩).mono ?_
 ·simp only[Array.getElem?_map,Option.map_eq_some_iff]at hu
  obtain⟨x,hx1,rfl⟩:=hu
  rw[←ha]at hp'
  exact argsK_get ks args.toList (fun z hz=>hx z (hops z (.inr hz))) i p x hp' (by simpa using hx1)
 ·rintro e w' ⟨rv,c',rfl,rfl,hr',hE,hv'⟩
  exact⟨rv,rfl,c',rfl,hr',hE,hv'⟩
theorem ct(ks:List Bool){f:Operand}{args:Array Operand}{ts:Array TypeId}{id0 id:FuncId}{qs ps:List PV}{H0 H1:PH}{v1:PV}{I J L:List Nat}(ho:o.op= .call {callee:= .value f,args:=args,argTypes:=ts})
  (hf:ρ f= .g (.raw (.func (.func id0) #[] #[]))) (he: ∀(args:Array Value) (w:World),(callFunc id0 args).run P w= .ok (.enter id args) w) (hp:PC P id ps H0 v1 H1) (hq:deepL (argsK ρ ks args.toList)=some qs) (_hI:reachB H.bx 40 (refBL qs) []=I) (_hJ:dedup [] (refOL qs++refOL (boxesOf H.bx I))=J) (_hL:dedup [] (refML qs++refML (boxesOf H.bx I))=L) (hn:(nodupB I&&nodupB J&&nodupB L)=true)
  (hb:pickB I J L H.bx I=some H0.bx) (ht:pickT H.tk J=some H0.tk) (hm:pickM H.mu L=some H0.mu) (ha:renL (posOf I) (posOf J) (posOf L) qs=ps) (hv:deepV (ren (backOf I H.bx.length) (backOf J H.tk.length) (backOf L H.mu.length) v1)=some v') (hH:deepH (back I J L H H1)=some H'):
  PO P o ρ H v' H':=by
 rw[deepL_eq]at hq
 exact PO_call_twin ks ho hf he (Option.some.inj hq) (PC_at hp I J L hn hb ht hm ha hv hH)
def intsV(ks:List (IntKind×Int)):Array Value:=(ks.map fun k=>Value.int k.1 k.2).toArray
theorem PO_call_ext{f:Operand}{args:Array Operand}{ts:Array TypeId}{id:FuncId}{ks:List (IntKind×Int)}{u:Value}{p:PV}(ho:o.op= .call {callee:= .value f,args:=args,argTypes:=ts})
  (hf:ρ f= .g (.raw (.func (.func id) #[] #[]))) (ha:args.toList.map ρ=ks.map fun k=>PV.g (.int k.1 k.2)) (h: ∀w:World,(callFunc id (intsV ks)).run P w= .ok (.value u) w) (hv: ∀c:Ctx,RV c p u):PO P o ρ H p H:=
 PO_val fun c ρr hr hx=>by
  have hops: ∀x,x=f∨x∈args.toList→x∈o.op.operands.toList:=by
   intro x hx
   simp[ho,Op.operands,Call.operands]
   rcases hx with rfl|hx
   ·exact .inl rfl
   ·exact .inr (by simpa using hx)
  have hf1:=hx f (hops f (.inl rfl))
  rw[hf]at hf1
  have hf2:=RV_raw hf1
  have hargs:args.map ρr=intsV ks:=by
   apply Array.ext_getElem?
   intro i
   have h1:(args.toList.map ρ)[i]? =(ks.map fun k=>PV.g (.int k.1 k.2))[i]? :=by rw[ha]
   simp only[List.getElem?_map]at h1
   unfold intsV
   simp only[Array.getElem?_map,List.getElem?_toArray,List.getElem?_map]
   cases hi:args[i]? with
   |none=>
    have:args.toList[i]? =none:=by simpa using hi
    rw[this]at h1
    cases hk:ks[i]? with
    |none=>rfl
    |some k=>rw[hk]at h1;cases h1
   |some x=>
    have hi':args.toList[i]? =some x:=by simpa using hi
    rw[hi']at h1
    cases hk:ks[i]? with
    |none=>rw[hk]at h1;cases h1
    |some k=>
     rw[hk]at h1
     simp only[Option.map_some,Option.some.injEq]at h1
     have hx1:=hx x (hops x (.inr (List.mem_of_getElem? hi')))
     rw[h1]at hx1
     simp[RV_int hx1]
  refine⟨u, ?_,hv c⟩
  simp[execOp,ho,resolve,hf2,Deferred.ofValue,invoke,hargs,h]
end
/-! ### Calls that are put off -/
structure DefP where
 fn:FuncId
 args:List PV
def DefsR(c:Ctx):List DefP→List Deferred→Prop
 |[],l=>l=[]
 |d::ds,l=> ∃x r,l=x::r∧x.target= .fn (.func d.fn) #[]∧RVs c d.args x.args∧DefsR c ds r
theorem DefsR.light{c c':Ctx}(hE:EvoL c c'): ∀{ds:List DefP} {l:List Deferred},DefsR c ds l→DefsR c' ds l
 |[],_,h=>h
 |_::_,_,⟨x,r,h1,h2,h3,h4⟩=>⟨x,r,h1,h2,⟨h3.1,fun i p v hp hv=>(h3.2 i p v hp hv).light hE⟩,h4.light hE⟩
def PCd(P:Program)(f:FuncId)(args:List PV)(H:PH)(H':PH):Prop:=
 ∀(c:Ctx) (vs:Array Value),Rel P c H→RVs c args vs→
  CallsD P f vs .returning c.w fun e u w'=>u= .returning∧ ∃rv c',e= .returned rv∧c'.w=w'∧Rel P c' H'∧Evo c c'
section
variable{P:Program}
theorem PCd_of_PW{f:FuncId}{fn:Func}{code:Code}{N:Nat}{rs:List ResultVar}{args:List PV}{H H':PH}{v:PV}(hf:P.funcs[f]? =some fn)(hb:fn.body=some code)(hn:fn.ntmps=N)
  (hrs:fn.results=rs.toArray) (hl:args.length≤N) (h:PW P N code (Ret P rs H v H') (env0 args) H):PCd P f args H H':=fun c vs hr ha=>by
 refine CallsD.mono (callsD_of_wp (u:= .returning) hf hb (wp_of_PW hn hrs hl h hr ha)) ?_
 rintro e u w' ⟨hu,rv,c',h1,h2,h3,h4,_⟩
 exact⟨hu,rv,c',h1,h2,h3,h4⟩
def Done(P:Program)(rs:List ResultVar)(H0:PH)(v:PV)(H':PH)(e:Exit)(env:Env):List DefP→PH→Prop
 |[],H2=>Ret P rs H0 v H' e env H2
 |d::ds,H2=> ∃H3,enterB P d.fn=true∧PCd P d.fn d.args H2 H3∧Done P rs H0 v H' e env ds H3
theorem Evo.wd2{c c':Ctx}(hE:Evo c c')(d:List Deferred):Evo (c.wd d) (c'.wd d):=
  { os:=hE.os,tape:=hE.tape,output:=hE.output,size:=hE.size,hid:=by
      show(⟨c'.hid.f,d⟩:Hid)=⟨c.hid.f,d⟩
      rw[hE.hid]
    sig:=hE.sig,tok:=hE.tok,mu:=hE.mu,munew:=hE.munew,toknew:=hE.toknew,keep:=hE.keep,frame:=hE.frame}
theorem leaves_of_Done{fn:Func}{rs:List ResultVar}{H0 H':PH}{v:PV}{e:Exit}{env:Env}{N:Nat}{tmps:Array Value}(hrs:fn.results=rs.toArray)(hN:tmps.size=N){c0:Ctx}(hr0:Rel P c0 H0):
  ∀(ds:List DefP) (l:List Deferred) (H2:PH) (c:Ctx),Done P rs H0 v H' e env ds H2→Rel P c H2→Evo (c0.wd []) (c.wd [])→DefsR c ds l→(∀t,RV c (env t) (tmps.getD t undef))→
   Leaves P fn tmps (fun e w'=> ∃rv c',e= .returned rv∧c'.w=w'∧Rel P c' H'∧Evo c0 c'∧RV c' v rv) l .returning c.w
 |[],l,H2,c,hd,hr,hE,hl,hs=>by
  cases hl
  have:=ret_reads (a:=⟨tmps,[]⟩) hr0 hrs hd (hr.wd []) hE hN (fun t=>(hs t).wd [])
  exact this
 |d::ds,l,H2,c,hd,hr,hE,hl,hs=>by
  obtain⟨x,r,rfl,ht,ha,hl'⟩:=hl
  obtain⟨H3,he,hp,hd'⟩:=hd
  have hcall:=hp c x.args hr ha
  refine⟨(fun h=>by cases h), .func d.fn, #[],d.fn,x.args,ht, ?_,hcall.mono ?_⟩
  ·rw[ht]
   simp[invoke,run_callFunc he]
  ·rintro e' u w' ⟨rfl,rv,c',rfl,rfl,hr',hE'⟩
   exact leaves_of_Done hrs hN hr0 ds r H3 c' hd' hr' (hE.trans (hE'.wd2 [])) (hl'.light hE'.light) (fun t=>(hs t).mono hE')
def PM(P:Program)(N:Nat)(rs:List ResultVar)(H0:PH)(v:PV)(H':PH)(code:Code)(K:List DefP→Env→PH→Prop)(ds:List DefP)(env:Env)(H:PH):Prop:=
 ∀(fn:Func) (c0 c:Ctx) (a:Act),fn.results=rs.toArray→Rel P c0 H0→Rel P c H→Evo (c0.wd []) (c.wd [])→ER c N env a→DefsR c ds a.defers→
  code.wp P (fun e a' w'=>(e= .normal∧ ∃c' env' H1 ds',K ds' env' H1∧c'.w=w'∧Rel P c' H1∧Evo (c0.wd []) (c'.wd [])∧ER c' N env' a'∧DefsR c' ds' a'.defers)∨
   (e= .ret∧Leaves P fn a'.tmps (fun e w'=> ∃rv c',e= .returned rv∧c'.w=w'∧Rel P c' H'∧Evo c0 c'∧RV c' v rv) a'.defers .returning w')) a c.w
section
variable{N:Nat}{rs:List ResultVar}{H0 H' H:PH}{v:PV}{ds:List DefP}{env:Env}{K:List DefP→Env→PH→Prop}
theorem PM_pw{x:Code}(h:PW P N x (fun e env' H1=>(e= .normal∧K ds env' H1)∨(e= .ret∧Done P rs H0 v H' e env' ds H1)) env H):PM P N rs H0 v H' x K ds env H:=by
 intro fn c0 c a hrs hr0 hr hE he hd
 refine wp_mono (h c a hr he) ?_
 rintro e a' w' ⟨c',env',H1,hx,rfl,hr',hE',he'⟩
 have hdf:a'.defers=a.defers:=by rw[he'.defers,he.defers,hE'.hid]
 have hd':DefsR c' ds a'.defers:=by rw[hdf];exact hd.light hE'.light
 rcases hx with⟨rfl,hk⟩|⟨rfl,hdone⟩
 ·exact .inl ⟨rfl,c',env',H1,ds,hk,rfl,hr',hE.trans (hE'.wd2 []),he',hd'⟩
 ·exact .inr ⟨rfl,leaves_of_Done hrs he'.size hr0 ds a'.defers H1 c' hdone hr' (hE.trans (hE'.wd2 [])) hd' he'.slot⟩
theorem PM_seq{x y:Code}(h:PM P N rs H0 v H' x (PM P N rs H0 v H' y K) ds env H):PM P N rs H0 v H' (.seq x y) K ds env H:=by
 intro fn c0 c a hrs hr0 hr hE he hd
 refine wp_seq (wp_mono (h fn c0 c a hrs hr0 hr hE he hd) ?_)
 rintro e a' w' (⟨rfl,c',env',H1,ds',hk,rfl,hr',hE',he',hd'⟩|⟨rfl,hl⟩)
 ·exact hk fn c0 c' a' hrs hr0 hr' hE' he' hd'
 ·exact .inr ⟨rfl,hl⟩
theorem PM_skip(h:K ds env H):PM P N rs H0 v H' .skip K ds env H:=fun _ _ c _ _ _ hr hE he hd=>wp_skip (.inl ⟨rfl,c,env,H,ds,h,rfl,hr,hE,he,hd⟩)
theorem PM_cond_t{x:Operand}{t e:Code}(hx:env.eval x= .g (.bool true))(h:PM P N rs H0 v H' t K ds env H):PM P N rs H0 v H' (.cond x t e) K ds env H:=by
 intro fn c0 c a hrs hr0 hr hE he hd
 have hv:=he.eval x
 rw[hx]at hv
 cases hv with
 |g _ v hg=>
  generalize hv:a.eval x=v at hg
  cases hg
  exact wp_cond_split hv (fun _=>h fn c0 c a hrs hr0 hr hE he hd) (fun e=>by cases e)
theorem PM_cond_f{x:Operand}{t e:Code}(hx:env.eval x= .g (.bool false))(h:PM P N rs H0 v H' e K ds env H):PM P N rs H0 v H' (.cond x t e) K ds env H:=by
 intro fn c0 c a hrs hr0 hr hE he hd
 have hv:=he.eval x
 rw[hx]at hv
 cases hv with
 |g _ v hg=>
  generalize hv:a.eval x=v at hg
  cases hg
  exact wp_cond_split hv (fun e=>by cases e) (fun _=>h fn c0 c a hrs hr0 hr hE he hd)
theorem wpList_defer{all:Array Oper}{o:Oper}{f:Operand}{args:Array Operand}{ts:Array TypeId}(ho:o.op= .defer {callee:= .value f,args:=args,argTypes:=ts})(hg:o.guard=none)(hdst: ∀t,o.dst=some t→t<N): ∀(l:List Oper) (env:Env) (H:PH),
  POps P N all (fun env' H1=> ∃id,env'.eval f= .g (.raw (.func (.func id) #[] #[]))∧K (⟨id,args.toList.map env'.eval⟩::ds) (upd env' o.dst undefP) H1) l env H→ ∀(c0 c:Ctx) (a:Act),Rel P c H→Evo (c0.wd []) (c.wd [])→ER c N env a→DefsR c ds a.defers→
  wpList P all (fun e a' w'=>e= .normal∧ ∃c' env' H1 ds',K ds' env' H1∧c'.w=w'∧Rel P c' H1∧Evo (c0.wd []) (c'.wd [])∧ER c' N env' a'∧DefsR c' ds' a'.defers) (l++[o]) a c.w
 |[],env,H,h,c0,c,a,hr,hE,he,hd=>by
  obtain⟨id,hf,hk⟩:=h
  have hfv:=he.eval f
  rw[hf]at hfv
  have hfv:=RV_raw hfv
  show wpList P all _ [o] a c.w
  unfold wpList
  have hw:Region.wanted o (yielded all a.tmps)=true:=by unfold Region.wanted;rw[hg]
  rw[hw,if_pos rfl]
  refine .inl ?_
  have hrun:(execOp a.eval o).run P c.w= .ok (.defer {target:= .fn (.func id) #[],args:=args.map a.eval}) c.w:=by
   simp[execOp,ho,resolve,hfv,Deferred.ofValue]
  unfold Oper.wp
  rw[hrun]
  generalize hx:({target:= .fn (.func id) #[],args:=args.map a.eval}:Deferred)=x
  rw[Oper.upon_defer]
  show wpList P all _ [] _ _
  unfold wpList
  have hsz:a.tmps.size=N:=he.size
  refine⟨rfl,c.wd (x::a.defers),_,H,_,hk,rfl,hr.wd _,hE, ?_, ?_⟩
  ·have h1:ER (c.wd (x::a.defers)) N env {a with defers:=x::a.defers}:=⟨rfl,he.size,fun t=>(he.slot t).wd _⟩
   exact h1.put hdst (.g _ _ (.raw _))
  ·have:(Act.put {a with defers:=x::a.defers} o.dst undef).defers=x::a.defers:=by unfold Act.put;cases o.dst<;>rfl
   rw[this]
   refine⟨x,a.defers,rfl,by rw[←hx],⟨by rw[←hx];simp,fun i p u hp hu=> ?_⟩,hd.light (evoL_wd c _)⟩
   rw[←hx]at hu
   simp only[Array.getElem?_map,List.getElem?_map,Option.map_eq_some_iff]at hp hu
   obtain⟨y,hy,rfl⟩:=hp
   obtain⟨z,hz,rfl⟩:=hu
   have:y=z:=by simpa[hz]using hy.symm
   subst this
   exact(he.eval y).wd _
 |o1::rest,env,H,h,c0,c,a,hr,hE,he,hd=>by
  obtain⟨hdd,h⟩:=h
  show wpList P all _ (o1::(rest++[o])) a c.w
  unfold wpList
  split at h
  ·rename_i hg1
   rw[gd_ok he hg1,if_pos rfl]
   obtain⟨v1,H1,hpo,hrest⟩:=h
   refine .inl ((hpo c a.eval hr (fun x _=>he.eval x)).wp ?_)
   rintro rv w' ⟨c',rfl,hr',hE',hv⟩
   have hdf:(a.put o1.dst rv).defers=a.defers:=by unfold Act.put;cases o1.dst<;>rfl
   exact wpList_defer ho hg hdst rest _ _ hrest c0 c' (a.put o1.dst rv) hr' (hE.trans (hE'.wd2 [])) ((he.mono hE').put hdd hv) (by rw[hdf];exact hd.light hE'.light)
  ·rename_i hg1
   rw[gd_ok he hg1,if_neg (by simp)]
   have hdf:(a.put o1.dst undef).defers=a.defers:=by unfold Act.put;cases o1.dst<;>rfl
   exact wpList_defer ho hg hdst rest _ _ h c0 c (a.put o1.dst undef) hr hE (he.put hdd (.g _ _ (.raw _))) (by rw[hdf];exact hd)
  ·exact h.elim
theorem PM_defer{id:Nat}{l:List Oper}{o:Oper}{f:Operand}{args:Array Operand}{ts:Array TypeId}{ops:Array Oper}(hops:ops=(l++[o]).toArray)(ho:o.op= .defer {callee:= .value f,args:=args,argTypes:=ts})(hg:o.guard=none)(hdst: ∀t,o.dst=some t→t<N)
  (h:POps P N ops (fun env' H1=> ∃id,env'.eval f= .g (.raw (.func (.func id) #[] #[]))∧K (⟨id,args.toList.map env'.eval⟩::ds) (upd env' o.dst undefP) H1) l env H):PM P N rs H0 v H' (.region id ops false) K ds env H:=by
 subst hops
 intro fn c0 c a hrs hr0 hr hE he hd
 refine wp_region_lit ?_
 refine wpList_of_POps.wpList_mono ?_ (wpList_defer ho hg hdst l env H h c0 c a hr hE he hd)
 rintro e a' w' ⟨rfl,hk⟩
 exact .inl ⟨rfl,hk⟩
end
theorem PC_of_PM{f:FuncId}{fn:Func}{code:Code}{N:Nat}{rs:List ResultVar}{args:List PV}{H H':PH}{v:PV}(hf:P.funcs[f]? =some fn)(hb:fn.body=some code)(hn:fn.ntmps=N)
  (hrs:fn.results=rs.toArray) (hl:args.length≤N) (h:PM P N rs H v H' code (fun ds env' H1=>Done P rs H v H' .normal env' ds H1) [] (env0 args) H):PC P f args H v H':=by
 intro c vs hr ha
 refine calls_of_wp_defers hf hb (wp_mono (h fn c (c.wd []) _ hrs hr (hr.wd []) (Evo.refl _) (er_entry hn hl ha) rfl) ?_)
 rintro e a' w' (⟨rfl,c',env',H1,ds',hk,rfl,hr',hE',he',hd'⟩|⟨rfl,hl⟩)
 ·exact leaves_of_Done hrs he'.size hr ds' a'.defers H1 c' hk hr' hE' hd' he'.slot
 ·exact hl
end
theorem w64{n:Int}(h: -9223372036854775808≤n∧n<9223372036854775808):IntKind.i64.wrap n=n:=by
 rw[IntKind.wrap_i64];omega
section
variable{P:Program}{o:Oper}{ρ:Operand→PV}{H:PH}
theorem vcut(U:Nat){t e:TypeId}{x:Operand}{lo hi:Option Operand}{id n off len cap:Nat}{l h:Option (IntKind×Int)}(ho:o.op= .slice t x lo hi none)(ht:P.underlying t=some (.slice e))(hs:szB P e=some 1)(hx:ρ x= .vw id n off len cap)
  (hl:boundP ρ lo=some l) (hh:boundP ρ hi=some h) (hL:loOf l=0) (hU:hiOf len h=U) (h2:U≤cap):PO P o ρ H (.vw id n off U cap) H:=
 PO_as (PO_vslice 0 U cap ho ht hs hx hl hh rfl (fun _=>rfl) (by rw[hL];rfl) hU rfl (Nat.zero_le _) h2 (Nat.le_refl _)) (by simp)
theorem vmid(L U:Nat){t e:TypeId}{x:Operand}{lo hi:Option Operand}{id n off len cap:Nat}{l h:Option (IntKind×Int)}(ho:o.op= .slice t x lo hi none)(ht:P.underlying t=some (.slice e))(hs:szB P e=some 1)(hx:ρ x= .vw id n off len cap)
  (hl:boundP ρ lo=some l) (hh:boundP ρ hi=some h) (hL:loOf l=L) (hU:hiOf len h=U) (h1:L≤U) (h2:U≤cap) (h3:L<cap):PO P o ρ H (.vw id n (off+L) (U-L) (cap-L)) H:=
 PO_as (PO_vslice L U cap ho ht hs hx hl hh rfl (fun _=>rfl) hL hU rfl h1 h2 (Nat.le_refl _)) (by rw[if_neg (by omega)])
theorem PO_asH{v:PV}{H' H'':PH}(h:PO P o ρ H v H')(e:H'=H''):PO P o ρ H v H'':=e▸h
end
section
variable{P:Program}{o:Oper}{env:Env}{H:PH}{K:List Nat}
theorem Cond_mcmp{x y:Operand}{t u T k:Nat}{op:BinOp}{id n i off id2 n2 i2 off2 e e2 len len2:Nat}(hK:memB K (10000+id)=true)(hK2:memB K (10000+id2)=true)(ho:o.op= .binOp op t x y u)(ht:P.underlying t=some (.pointer T))(hsT:szB P T=some (k+1))(hop:op= .eql∨op= .neq)
  (hx':env.eval x= .mref id n i off) (hy':env.eval y= .mref id2 n2 i2 off2) (hm:shM H.mu[id]? =some (1,n,e,len)) (hm2:shM H.mu[id2]? =some (1,n2,e2,len2)) (hs:szB P e=some 1) (hs2:szB P e2=some 1) (hl:0<len) (hl2:0<len2) (hKl:Nat.ble 10000 id=false:=by rfl) (hKl2:Nat.ble 10000 id2=false:=by rfl):
  Cond P K o env H (.g (.bool (if op= .eql then(Nat.beq id id2&&Nat.beq (i+off) (i2+off2))else !(Nat.beq id id2&&Nat.beq (i+off) (i2+off2))))) H:=
 Cond_i (hk:=by rw[ho];rfl) fun H1 hq=>by
  obtain⟨es,a1,a2⟩:=hq.arr hK hKl hm
  obtain⟨es2,b1,b2⟩:=hq.arr hK2 hKl2 hm2
  exact PO_mcmp ho ht hsT hop hx' hy' a1 b1 hs hs2 (fun e=>by subst e;simp at a2;omega) (fun e=>by subst e;simp at b2;omega)
end
/-! ### Results -/
theorem Ret2{P:Program}{env:Env}{rs:List ResultVar}{ps:List PV}{e:Exit}{H2:PH}{a b a' b':GV}(hs:resVs P env H2 rs=some ps)(hp:ps=[.g a, .g b])(ha:a=a')(hb:b=b')
  (he:e= .normal∨e= .ret:=by first|exact .inl rfl|exact .inr rfl):Ret P rs ⟨[],[],[]⟩ (.tuple [.g a', .g b']) ⟨[],[],[]⟩ e env H2:=by
 subst ha;subst hb;subst hp
 refine Ret_pure hs rfl (.tuple _ fun p hp=> ?_) he
 simp at hp
 rcases hp with rfl|rfl<;>exact .g _
theorem Ret3{P:Program}{env:Env}{rs:List ResultVar}{ps:List PV}{e:Exit}{H2:PH}{a b c a' b' c':GV}(hs:resVs P env H2 rs=some ps)(hp:ps=[.g a, .g b, .g c])(ha:a=a')(hb:b=b')(hc:c=c')
  (he:e= .normal∨e= .ret:=by first|exact .inl rfl|exact .inr rfl):Ret P rs ⟨[],[],[]⟩ (.tuple [.g a', .g b', .g c']) ⟨[],[],[]⟩ e env H2:=by
 subst ha;subst hb;subst hc;subst hp
 refine Ret_pure hs rfl (.tuple _ fun p hp=> ?_) he
 simp at hp
 rcases hp with rfl|rfl|rfl<;>exact .g _
section
variable{P:Program}
theorem PC.post{f:FuncId}{args:List PV}{H H1 H2:PH}{v:PV}(h:PC P f args H v H1)(hle:HLe P H1 H2):PC P f args H v H2:=fun c vs hr ha=>
 Calls.mono (h c vs hr ha) (fun _ _ ⟨rv,c',h1,h2,h3,h4,h5⟩=>⟨rv,c',h1,h2,hle c' h3,h4,h5⟩)
theorem HLe.packbx{H:PH}:HLe P H ⟨H.bx.map (List.map pack),H.tk,H.mu⟩:=fun c hr=>
  { hr with
    len:=by simpa using hr.len
    bx:=fun i b cs hi hcs=>by
      simp only[List.getElem?_map,Option.map_eq_some_iff]at hcs
      obtain⟨cs0,h0,rfl⟩:=hcs
      obtain⟨vals,T,h1,h2,h3⟩:=hr.bx i b cs0 hi h0
      refine⟨vals,T,h1,by simpa using h2,fun j p v hj hv=> ?_⟩
      simp only[List.getElem?_map,Option.map_eq_some_iff]at hj
      obtain⟨p0,hp0,rfl⟩:=hj
      obtain⟨k1,k2⟩:=h3 j p0 v hp0 hv
      exact⟨pack_ok k1,k2⟩}
theorem PC.moved{f:FuncId}{args:List PV}{m0 m1:MO}{n n1 n2 e e1 e2 len cap:Nat}{es es1 es2:List GV}(hs:szB P e=some 1)(hs2:szB P e2=some 1)
  (h:PC P f args ⟨[],[],[m0,m1]⟩ (.vw 2 n2 0 len cap) ⟨[],[],[.arr n e es, .arr n1 e1 es1, .arr n2 e2 es2]⟩):
  PC P f args ⟨[],[],[m0,m1]⟩ (.vw 0 (n+1) 0 len cap) ⟨[],[],[.arr (n+1) e2 es2, .arr n1 e1 es1]⟩:=fun c vs hr ha=>
 Calls.mono (h c vs hr ha) (fun _ _ ⟨rv,c',h1,h2,h3,h4,h5⟩=>by
  obtain⟨c2,hw,_,r1,e1',r2⟩:=h3.move (id:=0) (id2:=2) (by decide) rfl rfl hs hs2
  refine⟨rv,c2.cut 0 0 2,h1,hw.trans h2,r1.cut (H':=⟨[],[],[.arr (n+1) e2 es2, .arr n1 e1 es1]⟩) ⟨[],rfl⟩ ⟨[],rfl⟩ ⟨[.gone (n2+1)],rfl⟩ (fun _ h=>by cases h),(h4.trans e1').cut ?_ ?_ ?_,RV.cut ?_ ?_⟩
  ·have:=hr.len;simp at this;simp[this]
  ·have:=hr.tk;simp at this;simp[this]
  ·have:=hr.mlen;simp at this;omega
  ·have:=r2 _ _ h5
   simpa[mov]using this
  ·exact .vw _ _ _ _ _ (by decide))
end
section
variable{P:Program}{N:Nat}{Q:Exit→Env→PH→Prop}{env:Env}{H:PH}
def PWR(P:Program)(N:Nat)(body:Code)(Q:Exit→Env→PH→Prop):Nat→Env→PH→Prop
 |0,_,_=>False
 |n+1,env,H=>PW P N body (Next (PWR P N body Q n) Q) env H
theorem PWR_rounds{body:Code}: ∀(n:Nat) (env:Env) (H:PH) (c0 c:Ctx) (a:Act),PWR P N body Q n env H→Evo c0 c→Rel P c H→ER c N env a→Code.rounds P body (QR P c0 N Q) n a c.w
 |0,_,_,_,_,_,h,_,_,_=>h.elim
 |n+1,env,H,c0,c,a,h,hE0,hr,he=>by
  rw[rounds_succ]
  refine wp_mono (h c a hr he) ?_
  rintro e a' w' ⟨c',env',H',q,rfl,hr',hE,he'⟩
  cases e<;>simp only[Next]at q<;>simp only[Exit.then]
  case normal=>exact PWR_rounds n env' H' c0 c' a' q (hE0.trans hE) hr' he'
  all_goals exact⟨c',env',H',q,rfl,hr',hE0.trans hE,he'⟩
theorem PW_loop_n{body:Code}(n:Nat)(h:PWR P N body Q n env H):PW P N (.loop body) Q env H:=
 fun c a hr he=>wp_loop_rounds n (PWR_rounds n env H c c a h (Evo.refl c) hr he)
end
structure NV where
 at_:Nat
 t:TypeId
 x:Tmp
 z:Value
section
variable{P:Program}{N:Nat}{l:List Oper}{d:Nat}{ss:List NV}{D:Oper}{K:List Nat}{T:Tr}{F:Nat→Option Ins}
end
section
variable{P:Program}{N:Nat}
end
inductive VVal where
 |mk (kind:Int) (yes:Bool) (coef exp:Int) (text:ByteArray) (list:List VVal)
mutual
def VVal.g:VVal→GV
 | .mk kind yes coef exp text list=> .agg [.int .i64 kind, .bool yes, .int .i64 coef, .int .i64 exp, .str text, .sl (VVal.gs list)]
def VVal.gs:List VVal→List GV
 |[]=>[]
 |v::r=>v.g::VVal.gs r
end
inductive VExpr where
 |mk (kind:Int) (val:VVal) (name:ByteArray) (kids:List VExpr)
mutual
def VExpr.g:VExpr→GV
 | .mk kind val name kids=> .agg (.int .i64 kind::(val.g.cells++[.str name, .sl (VExpr.gs kids)]))
def VExpr.gs:List VExpr→List GV
 |[]=>[]
 |v::r=>v.g::VExpr.gs r
end
inductive VTest where
 |mk (kind:Int) (a b:VVal) (openA openB:Bool) (kids:List VTest)
mutual
def VTest.g:VTest→GV
 | .mk kind a b openA openB kids=> .agg (.int .i64 kind::(a.g.cells++(b.g.cells++[.bool openA, .bool openB, .sl (VTest.gs kids)])))
def VTest.gs:List VTest→List GV
 |[]=>[]
 |v::r=>v.g::VTest.gs r
end
inductive VCol where
 |mk (name:ByteArray) (kind:Int) (order:List VVal)
def VCol.g:VCol→GV
 | .mk name kind order=> .agg [.str name, .int .i64 kind, .sl (VVal.gs order)]
def VCol.gs(l:List VCol):List GV:=l.map VCol.g
inductive VRule where
 |mk (tests:List VTest) (outs:List VExpr)
def VRule.g:VRule→GV
 | .mk tests outs=> .agg [.sl (VTest.gs tests), .sl (VExpr.gs outs)]
def VRule.gs(l:List VRule):List GV:=l.map VRule.g
inductive VTable where
 |mk (name:ByteArray) (policy:Int) (ins outs:List VCol) (rules:List VRule)
def VTable.g:VTable→GV
 | .mk name policy ins outs rules=> .agg [.str name, .int .i64 policy, .sl (VCol.gs ins), .sl (VCol.gs outs), .sl (VRule.gs rules)]
inductive VCmd where
 |mk (session seq kind:Int) (table:VTable) (name:ByteArray) (to:Int)
def VCmd.g:VCmd→GV
 | .mk session seq kind table name to=> .agg ([.int .i64 session, .int .i64 seq, .int .i64 kind]++table.g.cells++[.str name, .int .i64 to])
def VCmd.gs(l:List VCmd):List GV:=l.map VCmd.g
theorem VVal.gs_eq: ∀l,VVal.gs l=l.map VVal.g
 |[]=>rfl
 |v::r=>by simp[VVal.gs,VVal.gs_eq r]
theorem VExpr.gs_eq: ∀l,VExpr.gs l=l.map VExpr.g
 |[]=>rfl
 |v::r=>by simp[VExpr.gs,VExpr.gs_eq r]
theorem VVal.cells(v:VVal):v.g.cells.length=6:=by cases v;rfl
theorem VExpr.cells(v:VExpr):v.g.cells.length=9:=by
 obtain⟨k,v,n,l⟩:=v;simp[VExpr.g,GV.cells];have:=VVal.cells v;simp[GV.cells]at this;omega
theorem VTest.cells(v:VTest):v.g.cells.length=16:=by
 obtain⟨k,a,b,_,_,l⟩:=v;simp[VTest.g,GV.cells];have:=VVal.cells a;have:=VVal.cells b;simp[GV.cells]at *;omega
theorem VCol.cells(v:VCol):v.g.cells.length=3:=by cases v;rfl
theorem VRule.cells(v:VRule):v.g.cells.length=2:=by cases v;rfl
theorem VTable.cells(v:VTable):v.g.cells.length=5:=by cases v;rfl
theorem VCmd.cells(v:VCmd):v.g.cells.length=10:=by obtain⟨_,_,_,⟨_,_,_,_,_⟩,_,_⟩:=v;rfl
theorem map_get{α:Type}{f:α→GV}{l:List α}{i:Nat}(h:i<l.length):(l.map f)[((i:Int)).toNat]? =some (f l[i]):=by simp[h]
theorem map_take{α β:Type}{f:α→β}{l:List α}{i:Nat}(h:i<l.length):(l.take (i+1)).map f=(l.take i).map f++[f l[i]]:=by
 rw[List.take_succ_eq_append_getElem h,List.map_append];rfl
/-! ### What comes in -/
def GTs(P:Program):List TypeId→List GV→Prop
 |[],[]=>True
 |t::ts,x::xs=>GT P t x∧GTs P ts xs
 |_,_=>False
theorem gts_of{P:Program}: ∀(ts:List TypeId) (xs:List GV),xs.length=ts.length→(∀(i:Nat) (t:TypeId) (x:GV),ts[i]? =some t→xs[i]? =some x→GT P t x)→GTs P ts xs
 |[],[],_,_=>trivial
 |[],_::_,h,_=>by simp at h
 |_::_,[],h,_=>by simp at h
 |t::ts,x::xs,hl,h=>⟨h 0 t x rfl rfl,gts_of ts xs (by simpa using hl) fun i t x ht hx=>h (i+1) t x (by simpa using ht) (by simpa using hx)⟩
def StructT(P:Program)(t:TypeId)(ts:List TypeId):Prop:= ∃fs,P.underlying t=some (.struct fs)∧fs.toList.map (·.type)=ts
theorem StructT.inv{P:Program}{t:TypeId}{ts:List TypeId}{g:GV}(hu:StructT P t ts)(h:GT P t g): ∃xs:List GV,g= .agg (xs.flatMap GV.cells)∧GTs P ts xs:=by
 obtain⟨fs,hu,rfl⟩:=hu
 obtain⟨xs,rfl,hl,hx⟩:=GT.agg_inv hu h
 refine⟨xs,rfl,gts_of _ _ (by simpa using hl) fun i t x ht hx'=> ?_⟩
 simp only[List.getElem?_map,Array.getElem?_toList,Option.map_eq_some_iff]at ht
 obtain⟨f,hf,rfl⟩:=ht
 exact hx i f x hf hx'
theorem GTs.one{P:Program}{t:TypeId}{ts:List TypeId}{xs:List GV}(h:GTs P (t::ts) xs): ∃x r,xs=x::r∧GT P t x∧GTs P ts r:=by
 cases xs with
 |nil=>exact h.elim
 |cons x r=>exact⟨x,r,rfl,h.1,h.2⟩
theorem GTs.nil{P:Program}{xs:List GV}(h:GTs P [] xs):xs=[]:=by
 cases xs with
 |nil=>rfl
 |cons x r=>exact h.elim
theorem sizeOf_le_flat: ∀(xs:List GV) (x:GV),x∈xs→SizeOf.sizeOf x≤SizeOf.sizeOf (GV.agg (xs.flatMap GV.cells))
 |y::xs,x,h=>by
  rcases List.mem_cons.1 h with rfl|h
  ·have key: ∀a b:List GV,SizeOf.sizeOf a≤SizeOf.sizeOf (a++b):=by
    intro a b
    induction a with
    |nil=>cases b<;>simp<;>try omega
    |cons z a ih=>simp;exact ih
   have:=key x.cells (xs.flatMap GV.cells)
   simp only[List.flatMap_cons,GV.agg.sizeOf_spec]
   cases x<;>simp[GV.cells]at * <;>omega
  ·have:=sizeOf_le_flat xs x h
   have key: ∀a b:List GV,SizeOf.sizeOf b≤SizeOf.sizeOf (a++b):=by
    intro a b
    induction a with
    |nil=>simp
    |cons z a ih=>simp;omega
   have:=key y.cells (xs.flatMap GV.cells)
   simp only[List.flatMap_cons,GV.agg.sizeOf_spec]at *
   omega
theorem list_inv{P:Program}{e:TypeId}{α:Type}(f:α→GV): ∀(es:List GV),(∀x∈es,GT P e x)→(∀x∈es,GT P e x→ ∃a,x=f a)→ ∃l:List α,es=l.map f
 |[],_,_=>⟨[],rfl⟩
 |x::es,h,k=>by
  obtain⟨l,rfl⟩:=list_inv f es (fun y hy=>h y (List.mem_cons_of_mem _ hy)) fun y hy=>k y (List.mem_cons_of_mem _ hy)
  obtain⟨a,rfl⟩:=k x (by simp) (h x (by simp))
  exact⟨a::l,rfl⟩
theorem size_mem{es:List GV}{x:GV}(h:x∈es):SizeOf.sizeOf x<SizeOf.sizeOf (GV.sl es):=by
 have:=List.sizeOf_lt_of_mem h
 simp
 omega
section
variable{P:Program}{ti tj tb ts TV TD LV TE LE TT LT TC LC TR LR TB TM:TypeId}
theorem val_inv(hi:P.underlying ti=some (.int .i64))(hj:P.underlying tj=some (.int .i64))(hb:P.underlying tb=some .bool)(hs:P.underlying ts=some .string)
  (hV:StructT P TV [ti,tb,TD,ts,LV]) (hD:StructT P TD [tj,ti]) (hL:P.underlying LV=some (.slice TV)): ∀(m:Nat) (g:GV),SizeOf.sizeOf g≤m→GT P TV g→ ∃v:VVal,g=v.g
 |0,g,hm,_=>by cases g<;>simp at hm
 |m+1,g,hm,h=>by
  obtain⟨xs,rfl,hx⟩:=hV.inv h
  obtain⟨a,xs,rfl,ha,hx⟩:=hx.one
  obtain⟨b,xs,rfl,hb',hx⟩:=hx.one
  obtain⟨c,xs,rfl,hc,hx⟩:=hx.one
  obtain⟨d,xs,rfl,hd,hx⟩:=hx.one
  obtain⟨e,xs,rfl,he,hx⟩:=hx.one
  obtain rfl:=hx.nil
  have hsz:=sizeOf_le_flat [a,b,c,d,e] e (by simp)
  obtain⟨kind,rfl,_⟩:=GT.int_inv hi ha
  obtain⟨yes,rfl⟩:=GT.bool_inv hb hb'
  obtain⟨ys,rfl,hy⟩:=hD.inv hc
  obtain⟨a,ys,rfl,ha,hy⟩:=hy.one
  obtain⟨b,ys,rfl,hb',hy⟩:=hy.one
  obtain rfl:=hy.nil
  obtain⟨coef,rfl,_⟩:=GT.int_inv hj ha
  obtain⟨exp,rfl,_⟩:=GT.int_inv hi hb'
  obtain⟨text,rfl,_⟩:=GT.str_inv hs hd
  obtain⟨es,rfl,_,hl⟩:=GT.sl_inv hL he
  obtain⟨l,rfl⟩:=list_inv VVal.g es hl fun x hx hg=>val_inv hi hj hb hs hV hD hL m x (by have:=size_mem hx;omega) hg
  exact⟨.mk kind yes coef exp text l,by simp[VVal.g,VVal.gs_eq,GV.cells]⟩
theorem expr_inv(hi:P.underlying ti=some (.int .i64))(hs:P.underlying ts=some .string)(hV: ∀g,GT P TV g→ ∃v:VVal,g=v.g)
  (hE:StructT P TE [ti,TV,ts,LE]) (hL:P.underlying LE=some (.slice TE)): ∀(m:Nat) (g:GV),SizeOf.sizeOf g≤m→GT P TE g→ ∃v:VExpr,g=v.g
 |0,g,hm,_=>by cases g<;>simp at hm
 |m+1,g,hm,h=>by
  obtain⟨xs,rfl,hx⟩:=hE.inv h
  obtain⟨a,xs,rfl,ha,hx⟩:=hx.one
  obtain⟨b,xs,rfl,hb',hx⟩:=hx.one
  obtain⟨c,xs,rfl,hc,hx⟩:=hx.one
  obtain⟨d,xs,rfl,hd,hx⟩:=hx.one
  obtain rfl:=hx.nil
  have hsz:=sizeOf_le_flat [a,b,c,d] d (by simp)
  obtain⟨kind,rfl,_⟩:=GT.int_inv hi ha
  obtain⟨v,rfl⟩:=hV _ hb'
  obtain⟨name,rfl,_⟩:=GT.str_inv hs hc
  obtain⟨es,rfl,_,hl⟩:=GT.sl_inv hL hd
  obtain⟨l,rfl⟩:=list_inv VExpr.g es hl fun x hx hg=>expr_inv hi hs hV hE hL m x (by have:=size_mem hx;omega) hg
  refine⟨.mk kind v name l, ?_⟩
  simp only[VExpr.g,VExpr.gs_eq,List.flatMap_cons,List.flatMap_nil,List.append_nil]
  rfl
end
inductive VTy where
 |mk (kind:Int) (elem:List VTy)
mutual
def VTy.g:VTy→GV
 | .mk kind elem=> .agg [.int .i64 kind, .sl (VTy.gs elem)]
def VTy.gs:List VTy→List GV
 |[]=>[]
 |v::r=>v.g::VTy.gs r
end
theorem VTy.gs_eq: ∀l,VTy.gs l=l.map VTy.g
 |[]=>rfl
 |v::r=>by simp[VTy.gs,VTy.gs_eq r]
theorem VTy.cells(v:VTy):v.g.cells.length=2:=by cases v;rfl
def tyL:Nat→Int→VTy
 |0,b=> .mk b []
 |n+1,b=> .mk 5 [tyL n b]
def wrongT:Nat→VTy→Int
 |n, .mk k es=>if 10<n then 4 else if k<1∨6<k then 1 else if k=5 then(match es with|[e]=>wrongT (n+1) e|_=>5)else(if es=[]then 0 else 5)
theorem wrongT_eq(n:Nat)(k:Int)(es:List VTy):wrongT n (.mk k es)=if 10<n then 4 else if k<1∨6<k then 1 else if k=5 then(match es with|[e]=>wrongT (n+1) e|_=>5)else(if es=[]then 0 else 5):=wrongT.eq_def n (.mk k es)
def baseK(b:Int):Prop:=b=1∨b=2∨b=3∨b=4∨b=6
theorem wrongT_ok: ∀(t:VTy) (n:Nat),wrongT n t=0→ ∃m b,n+m≤10∧baseK b∧t=tyL m b:=by
 intro t
 induction t using VTy.rec (motive_2:=fun l=> ∀e∈l,∀n,wrongT n e=0→ ∃m b,n+m≤10∧baseK b∧e=tyL m b)with
 |mk k es ih=>
  intro n h
  rw[wrongT.eq_def]at h
  simp only at h
  split at h
  ·cases h
  ·rename_i h1
   split at h
   ·cases h
   ·rename_i h2
    split at h
    ·rename_i h3
     subst h3
     split at h
     ·rename_i e
      obtain⟨m,b,h4,h5,h6⟩:=ih e (by simp) (n+1) h
      exact⟨m+1,b,by omega,h5,by rw[h6];rfl⟩
     ·cases h
    ·split at h
     ·rename_i h4
      subst h4
      exact⟨0,k,by omega,by unfold baseK;omega,rfl⟩
     ·cases h
 |nil=>rename_i e hm n h;cases hm
 |cons e l h1 h2=>
  rename_i x hx n h
  rcases List.mem_cons.1 hx with rfl|hx
  ·exact h1 n h
  ·exact h2 x hx n h
/-! ### Fitting, joining: of so many lists of something -/
def fitsT:Nat→Int→Nat→Int→Bool
 |m,b,n,c=>if(m=0∧b=1)∨(n=0∧c=6)then true else match m,n with
  |0,0=>decide (b=c)
  |m+1,n+1=>fitsT m b n c
  |_,_=>false
theorem fitsT_eq(m:Nat)(b:Int)(n:Nat)(c:Int):fitsT m b n c=if(m=0∧b=1)∨(n=0∧c=6)then true else match m,n with
  |0,0=>decide (b=c)
  |m+1,n+1=>fitsT m b n c
  |_,_=>false:=fitsT.eq_def m b n c
def joinT:Nat→Int→Nat→Int→Nat×Int
 |m,b,n,c=>if fitsT m b n c=true then(n,c)else if fitsT n c m b=true then(m,b)else match m,n with
  |m+1,n+1=>((joinT m b n c).1+1,(joinT m b n c).2)
  |_,_=>(0,6)
theorem joinT_eq(m:Nat)(b:Int)(n:Nat)(c:Int):joinT m b n c=if fitsT m b n c=true then(n,c)else if fitsT n c m b=true then(m,b)else match m,n with
  |m+1,n+1=>((joinT m b n c).1+1,(joinT m b n c).2)
  |_,_=>(0,6):=joinT.eq_def m b n c
theorem joinT_l{m n:Nat}{b c:Int}(h:fitsT m b n c=true):joinT m b n c=(n,c):=by rw[joinT_eq,if_pos h]
theorem joinT_r{m n:Nat}{b c:Int}(h1:fitsT m b n c=false)(h:fitsT n c m b=true):joinT m b n c=(m,b):=by rw[joinT_eq,if_neg (by simp[h1]),if_pos h]
theorem joinT_z{n:Nat}{b c:Int}(h1:fitsT 0 b n c=false)(h:fitsT n c 0 b=false):joinT 0 b n c=(0,6):=by rw[joinT_eq,if_neg (by simp[h1]),if_neg (by simp[h])]
theorem joinT_z'{m:Nat}{b c:Int}(h1:fitsT m b 0 c=false)(h:fitsT 0 c m b=false):joinT m b 0 c=(0,6):=by
 rw[joinT_eq,if_neg (by simp[h1]),if_neg (by simp[h])];cases m<;>rfl
theorem joinT_s{m n:Nat}{b c:Int}(h1:fitsT (m+1) b (n+1) c=false)(h:fitsT (n+1) c (m+1) b=false):joinT (m+1) b (n+1) c=((joinT m b n c).1+1,(joinT m b n c).2):=by
 rw[joinT_eq,if_neg (by simp[h1]),if_neg (by simp[h])]
/-! ### The letters of a type -/
def bstr(l:List UInt8):ByteArray:=⟨l.toArray⟩
theorem bstr_toList(l:List UInt8):(bstr l).toList=l:=by simp[bstr]
theorem bstr_size(a:List UInt8):(bstr a).size=a.length:=by simp[bstr,ByteArray.size]
theorem bstr_head(x:UInt8)(a:List UInt8):(bstr (x::a))[((0:Int)).toNat]? =some x:=by
 show(bstr (x::a))[0]? =some x
 rw[getElem?_def,dif_pos (by rw[bstr_size];simp)]
 rfl
/-! ### Which values a type has; its name -/
end Go.Pure
namespace Go.Pure
end Go.Pure
namespace Go.Pure
open Go
mutual
def gsz:GV→Prop
 | .agg cs=>gszs cs
 | .sl es=>es.length≤maxLen∧gszs es
 | .str s=>s.size≤maxLen
 |_=>True
def gszs:List GV→Prop
 |[]=>True
 |g::r=>gsz g∧gszs r
end
theorem gszs_iff: ∀{l:List GV},gszs l↔ ∀x∈l,gsz x
 |[]=>by simp[gszs]
 |x::l=>by simp[gszs,gszs_iff (l:=l)]
theorem gsz_cells{x:GV}:gszs x.cells↔gsz x:=by
 cases x<;>simp[GV.cells,gszs,gsz]
theorem GT.gsz{P:Program}{t:TypeId}{g:GV}(h:GT P t g):gsz g:=by
 induction h with
 |int t k n h hw=>simp[Pure.gsz]
 |bool t b h=>simp[Pure.gsz]
 |str t s h hs=>simpa[Pure.gsz]using hs
 |sl t e es h hl he ih=>simp only[Pure.gsz];exact⟨hl,gszs_iff.2 ih⟩
 |agg t fs xs h hl hx ih=>
  simp only[Pure.gsz]
  refine gszs_iff.2 fun c hc=> ?_
  obtain⟨x,hx',hc⟩:=List.mem_flatMap.1 hc
  obtain⟨i,hi,rfl⟩:=List.getElem_of_mem hx'
  have hf:i<fs.size:=by omega
  exact gszs_iff.1 (gsz_cells.2 (ih i fs[i] xs[i] (by simp[hf]) (by simp[hi]))) c hc
theorem VVal.gsz_list{kind:Int}{yes:Bool}{coef exp:Int}{text:ByteArray}{list:List VVal}(h:gsz (VVal.mk kind yes coef exp text list).g):list.length≤maxLen∧ ∀v∈list,gsz v.g:=by
 simp only[VVal.g,gsz,gszs,VVal.gs_eq,List.length_map]at h
 obtain⟨_,_,_,_,_,⟨h1,h2⟩,_⟩:=h
 exact⟨h1,fun v hv=>gszs_iff.1 h2 _ (List.mem_map_of_mem hv)⟩
theorem ty_inv{P:Program}{ti TY LY:TypeId}(hi:P.underlying ti=some (.int .i64))(hT:StructT P TY [ti,LY])(hL:P.underlying LY=some (.slice TY)): ∀(m:Nat) (g:GV),SizeOf.sizeOf g≤m→GT P TY g→ ∃v:VTy,g=v.g
 |0,g,hm,_=>by cases g<;>simp at hm
 |m+1,g,hm,h=>by
  obtain⟨xs,rfl,hx⟩:=hT.inv h
  obtain⟨a,xs,rfl,ha,hx⟩:=hx.one
  obtain⟨e,xs,rfl,he,hx⟩:=hx.one
  obtain rfl:=hx.nil
  have hsz:=sizeOf_le_flat [a,e] e (by simp)
  obtain⟨kind,rfl,_⟩:=GT.int_inv hi ha
  obtain⟨es,rfl,_,hl⟩:=GT.sl_inv hL he
  obtain⟨l,rfl⟩:=list_inv VTy.g es hl fun x hx hg=>ty_inv hi hT hL m x (by have:=size_mem hx;omega) hg
  exact⟨.mk kind l,by simp[VTy.g,VTy.gs_eq,GV.cells]⟩
section
variable{P:Program}{o:Oper}{ρ:Operand→PV}{H:PH}
theorem PO_bindex(j:Nat){t e:TypeId}{len size:Nat}{x y:Operand}{b off:Nat}{k:IntKind}{i:Int}(ho:o.op= .indexAddr t x y)(ht:P.underlying t=some (.array len e))(hs:szB P e=some size)(hx:ρ x= .ptr b off)(hi:ρ y= .g (.int k i))(hj:i=(j:Int))(hlt:j<len):PO P o ρ H (.ptr b (off+j *size)) H:=
 PO_val fun c ρr hr hxx=>by
  have h1:=hxx x (by simp[ho,Op.operands])
  have h2:=hxx y (by simp[ho,Op.operands])
  rw[hx]at h1
  rw[hi]at h2
  have e2:=RV_int h2
  subst hj
  generalize hv:ρr x=v at h1
  cases h1 with
  |ptr _ _ blk hb=>
   have hidx:0≤(j:Int)∧(j:Int)<(len:Int):=⟨by omega,by omega⟩
   refine⟨.pointer (some ⟨blk,off+j *size,none⟩), ?_, .ptr _ _ _ hb⟩
   simp only[execOp,ho,hv,e2]
   simp[Instr.indexAt,Instr.sureAddr,asIntOf,run_underlying ht,hidx,run_sizeOf hs,add_eq]
   exact fun h=>absurd hlt (by omega)
theorem PO_gindex(j:Nat){t e:TypeId}{len size:Nat}{x y:Operand}{b off:Nat}{k:IntKind}{i:Int}(ho:o.op= .indexAddr t x y)(ht:P.underlying t=some (.array len e))(hs:szB P e=some size)(hx:ρ x= .glob b off)(hi:ρ y= .g (.int k i))(hj:i=(j:Int))(hlt:j<len):PO P o ρ H (.glob b (off+j *size)) H:=
 PO_val fun c ρr hr hxx=>by
  have h1:=hxx x (by simp[ho,Op.operands])
  have h2:=hxx y (by simp[ho,Op.operands])
  rw[hx]at h1
  rw[hi]at h2
  have e2:=RV_int h2
  subst hj
  generalize hv:ρr x=v at h1
  cases h1
  have hidx:0≤(j:Int)∧(j:Int)<(len:Int):=⟨by omega,by omega⟩
  refine⟨.pointer (some ⟨b,off+j *size,none⟩), ?_, .glob _ _⟩
  simp only[execOp,ho,hv,e2]
  simp[Instr.indexAt,Instr.sureAddr,asIntOf,run_underlying ht,hidx,run_sizeOf hs,add_eq]
  exact fun h=>absurd hlt (by omega)
end
section
variable{P:Program}{o:Oper}{ρ:Operand→PV}{H H':PH}
def noIfc:TypeDesc→Bool
 | .interface _=>false
 |_=>true
theorem PO_mkifc{t:TypeId}{x:Operand}{d:TypeDesc}(ho:o.op= .makeInterface t x)(ht:P.underlying t=some d)(hd:noIfc d=true):PO P o ρ H (.ifc t (ρ x)) H:=
 PO_val fun c ρr hr hx=>by
  have h1:=hx x (by simp[ho,Op.operands])
  refine⟨.iface t (ρr x), ?_, .ifc _ _ _ h1⟩
  simp only[execOp,ho,Instr.makeInterface]
  cases d<;>first|(cases hd;done)|simp[run_underlying ht]
def mthB (P:Program)(t:TypeId)(name:String):Option FuncId:=match P.info? t with
  |some i=>match i.methods.find? (·.name==name)with
    |some m=>match m.path.toList with
      |[]=>match m.func with
        |some (f,true)=>match P.underlying t with
          |some (.pointer _)=>some f
          |_=>none
        |_=>none
      |_=>none
    |none=>none
  |none=>none
theorem run_method{t:TypeId}{v:Value}{name:String}{f:FuncId}{w:World}{n:Nat}(h:mthB P t name=some f):(method (n+1) t v name).run P w= .ok (f,v) w:=by
 unfold mthB at h
 split at h
 ·rename_i i hi
  split at h
  ·rename_i m hm
   split at h
   ·rename_i hp
    split at h
    ·rename_i f' hf
     split at h
     ·rename_i T hT
      cases h
      simp[method,typeInfo,hi,hm,hp,follow,hf,receiverAt,run_underlying hT,Place.get]
     ·cases h
    ·cases h
   ·cases h
  ·cases h
 ·cases h
theorem PO_invoke(ks:List Bool){r:Operand}{name:String}{args:Array Operand}{ts:Array TypeId}{t:TypeId}{p v:PV}{id:FuncId}{qs:List PV}(ho:o.op= .call {callee:= .invoke r name,args:=args,argTypes:=ts})
  (hr':ρ r= .ifc t p) (hm:mthB P t name=some id) (he:enterB P id=true) (ha:p::argsK ρ ks args.toList=qs) (hp:PC P id qs H v H'):PO P o ρ H v H':=by
 intro c ρr hr hx
 have hops: ∀x,x=r∨x∈args.toList→x∈o.op.operands.toList:=by
  intro x hx
  simp[ho,Op.operands,Call.operands]
  rcases hx with rfl|hx
  ·exact .inl rfl
  ·exact .inr (by simpa using hx)
 have hf1:=hx r (hops r (.inl rfl))
 rw[hr']at hf1
 generalize hv0:ρr r=u at hf1
 cases hf1 with
 |ifc _ _ v1 hv1=>
 have hrun:(execOp ρr o).run P c.w= .ok (.enter id (#[v1]++args.map ρr)) c.w:=by
  have h0:(#[Value.iface t v1]++args.map ρr)[0]? =some (Value.iface t v1):=by rw[Array.getElem?_append_left (by simp)];rfl
  have h1:(args.map ρr).extract 0 args.size=args.map ρr:=by have:=Array.extract_size (xs:=args.map ρr);rwa[Array.size_map]at this
  simp[execOp,ho,resolve,hv0,invoke,h0,h1,callMethod,run_method hm,run_callFunc he,Made.depth]
 unfold OpGoes
 rw[hrun]
 refine(hp c _ hr ⟨by rw[←ha];simp[argsK_length];omega,fun i q u hp' hu=> ?_⟩).mono ?_
 ·rw[←ha]at hp'
  cases i with
  |zero=>
   rw[Array.getElem?_append_left (by simp)]at hu
   simp at hp' hu
   subst hp'
   subst hu
   exact hv1
  |succ i=>
   have hu':(args.map ρr)[i]? =some u:=by
    rw[Array.getElem?_append_right (by simp)]at hu
    simpa using hu
   simp only[Array.getElem?_map,Option.map_eq_some_iff]at hu'
   obtain⟨x,hx1,rfl⟩:=hu'
   exact argsK_get ks args.toList (fun z hz=>hx z (hops z (.inr hz))) i q x (by simpa using hp') (by simpa using hx1)
 ·rintro e w' ⟨rv,c',rfl,rfl,hr',hE,hv'⟩
  exact⟨rv,rfl,c',rfl,hr',hE,hv'⟩
theorem inv_box(ks:List Bool){r:Operand}{name:String}{args:Array Operand}{ts:Array TypeId}{t:TypeId}{p v':PV}{id:FuncId}{qs ps:List PV}{H0 H1:PH}{v1:PV}{I J L:List Nat}(ho:o.op= .call {callee:= .invoke r name,args:=args,argTypes:=ts})
  (hr':ρ r= .ifc t p) (hmt:mthB P t name=some id) (he:enterB P id=true) (hp:PC P id ps H0 v1 H1) (hq:deepL (p::argsK ρ ks args.toList)=some qs) (_hI:reachB H.bx 40 (refBL qs) []=I) (_hJ:dedup [] (refOL qs++refOL (boxesOf H.bx I))=J) (_hL:dedup [] (refML qs++refML (boxesOf H.bx I))=L) (hn:(nodupB I&&nodupB J&&nodupB L)=true)
  (hb:pickB I J L H.bx I=some H0.bx) (ht:pickT H.tk J=some H0.tk) (hm:pickM H.mu L=some H0.mu) (ha:renL (posOf I) (posOf J) (posOf L) qs=ps) (hv:deepV (ren (backOf I H.bx.length) (backOf J H.tk.length) (backOf L H.mu.length) v1)=some v') (hH:deepH (back I J L H H1)=some H'):
  PO P o ρ H v' H':=by
 rw[deepL_eq]at hq
 exact PO_invoke ks ho hr' hmt he (Option.some.inj hq) (PC_at hp I J L hn hb ht hm ha hv hH)
/-! Interface values, held against each other -/
def NilI(p:PV)(r:Bool):Prop:=(p= .g (.raw .nilIface)∧r=true)∨(r=false∧((∃t q,p= .ifc t q)∨ ∃g off,p= .kv g off∧ ∀β,gok β→ ∃t u,lkG (gfacts β) g off=some (.iface t u)))
theorem NilI.nil:NilI (.g (.raw .nilIface)) true:= .inl ⟨rfl,rfl⟩
theorem NilI.kv{g off:Nat}(h: ∀β,gok β→ ∃t u,lkG (gfacts β) g off=some (.iface t u)):NilI (.kv g off) false:= .inr ⟨rfl, .inr ⟨g,off,rfl,h⟩⟩
theorem kv_val{c:Ctx}(hg:GL c){g off:Nat}{v:Value}(h:RV c (.kv g off) v): ∃β,gok β∧ ∀u,lkG (gfacts β) g off=some u→v=u:=by
 obtain⟨⟨β,hk,gl⟩,_⟩:=hg
 refine⟨β,hk,fun u hu=> ?_⟩
 obtain⟨vs,hm,hvs⟩:=lkG_mem hu
 have hc:=(gl _ hm off u hvs).1
 cases h with
 |kv _ _ _ h hs h1=>rw[hc]at h;cases h;rfl
theorem NilI.ok{c:Ctx}{p:PV}{v:Value}{r:Bool}(hg:GL c)(h:RV c p v)(hr:NilI p r):(r=true∧v= .nilIface)∨(r=false∧ ∃t u,v= .iface t u):=by
 rcases hr with⟨rfl,rfl⟩|⟨rfl,⟨t,q,rfl⟩|⟨g,off,rfl,hf⟩⟩
 ·exact .inl ⟨rfl,RV_raw h⟩
 ·cases h with
  |ifc t p v h=>exact .inr ⟨rfl,_,_,rfl⟩
 ·obtain⟨β,hk,hb⟩:=kv_val hg h
  obtain⟨t,u,hu⟩:=hf β hk
  exact .inr ⟨rfl,t,u,hb _ hu⟩
theorem run_ifc_nil{w:World}{t:TypeId}{ms:Array (String×TypeId)}(ht:P.underlying t=some (.interface ms)){v v':Value}{r r':Bool}(hv:(r=true∧v= .nilIface)∨(r=false∧ ∃t u,v= .iface t u))(hv':(r'=true∧v'= .nilIface)∨(r'=false∧ ∃t u,v'= .iface t u))(hrr:(r||r')=true):(Op.equal t v v').run P w= .ok (r&&r') w:=by
 have h: ∀d:Nat,(Op.equalIn (d+1) t v v').run P w= .ok (r&&r') w:=fun d=>by
  rcases hv with⟨rfl,rfl⟩|⟨rfl,t',u,rfl⟩<;>rcases hv' with⟨rfl,rfl⟩|⟨rfl,t2,u2,rfl⟩<;>first|(cases hrr;done)|simp[Op.equalIn,run_underlying ht]
 simpa[Op.equal,Op.maxDepth]using h 9999
theorem PO_inil{x:Operand}{t u:Nat}{op:BinOp}{r:Bool}{ms:Array (String×TypeId)}(ho:o.op= .binOp op t x (.const .nilIface) u)(ht:P.underlying t=some (.interface ms))(hop:op= .eql∨op= .neq)(hx':NilI (ρ x) r)(hy':ρ (.const .nilIface)= .g (.raw .nilIface)):PO P o ρ H (.g (.bool (if op= .eql then r else !r))) H:=
 PO_val fun c ρr hr hx=>by
  have h1:=hx'.ok hr.gl (hx x (by simp[ho,Op.operands]))
  have h2:=hx (.const .nilIface) (by simp[ho,Op.operands])
  rw[hy']at h2
  have e2:=RV_raw h2
  have hq:=run_ifc_nil (w:=c.w) ht h1 (.inl ⟨rfl,rfl⟩) (by simp)
  rw[Bool.and_true]at hq
  refine⟨.bool (if op= .eql then r else !r), ?_, .g _ _ (.bool _)⟩
  simp only[execOp,ho,e2]
  rcases hop with rfl|rfl<;>rcases h1 with⟨rfl,e1⟩|⟨rfl,t',u',e1⟩<;>rw[e1]at hq⊢ <;>simp[eqGuard,binOp,hq]
theorem run_ifc_same{w:World}{t T E:TypeId}{ms:Array (String×TypeId)}{i j:TypeInfo}{a:Addr}(ht:P.underlying t=some (.interface ms))(hT:P.underlying T=some (.pointer E))(hi:P.info? T=some i)(hc:i.comparable=true)(hj:P.info? E=some j):(Op.equal t (.iface T (.pointer (some a))) (.iface T (.pointer (some a)))).run P w= .ok true w:=by
 have h: ∀d:Nat,(Op.equalIn (d+2) t (.iface T (.pointer (some a))) (.iface T (.pointer (some a)))).run P w= .ok true w:=fun d=>by
  simp[Op.equalIn,run_underlying ht,run_underlying hT,typeInfo,hi,hc,sizeOf,hj,run_sameAddr_same]
 simpa[Op.equal,Op.maxDepth]using h 9998
theorem PO_isame{x y:Operand}{t u T E:Nat}{op:BinOp}{g off:Nat}{ms:Array (String×TypeId)}{i j:TypeInfo}(ho:o.op= .binOp op t x y u)(ht:P.underlying t=some (.interface ms))(hop:op= .eql∨op= .neq)(hT:P.underlying T=some (.pointer E))(hi:P.info? T=some i)(hc:i.comparable=true)(hj:P.info? E=some j)
  (hx':ρ x= .kv g off) (hy':ρ y= .kv g off) (hv: ∀β,gok β→ ∃a,lkG (gfacts β) g off=some (.iface T (.pointer (some a)))):PO P o ρ H (.g (.bool (if op= .eql then true else false))) H:=
 PO_val fun c ρr hr hx=>by
  have h1:=hx x (by simp[ho,Op.operands])
  have h2:=hx y (by simp[ho,Op.operands])
  rw[hx']at h1
  rw[hy']at h2
  have e:ρr x=ρr y:=by
   generalize ρr x=a at h1
   generalize ρr y=b at h2
   cases h1 with
   |kv _ _ _ h _ _=>
   cases h2 with
   |kv _ _ _ k _ _=>exact Option.some.inj (h.symm.trans k)
  obtain⟨β,hk,hb⟩:=kv_val hr.gl h1
  obtain⟨a,ha⟩:=hv β hk
  have e1:=hb _ ha
  have hq:=run_ifc_same (w:=c.w) (a:=a) ht hT hi hc hj
  refine⟨.bool (if op= .eql then true else false), ?_, .g _ _ (.bool _)⟩
  simp only[execOp,ho,←e,e1]
  rcases hop with rfl|rfl<;>simp[eqGuard,binOp,hq]
theorem PO_loadkv{t:TypeId}{x:Operand}{g off:Nat}(ho:o.op= .load t x)(h1:aggB P t=some false)(hx':ρ x= .glob g off)(hv: ∀β,gok β→ ∃v,lkG (gfacts β) g off=some v∧v.oneCell'=true):PO P o ρ H (.kv g off) H:=
 PO_val fun c ρr hr hx=>by
  have hx1:=hx x (by simp[ho,Op.operands])
  rw[hx']at hx1
  generalize hrx:ρr x=u at hx1
  cases hx1
  obtain⟨⟨β,hk,gl⟩,_⟩:=hr.gl
  obtain⟨v,hv,ho1⟩:=hv β hk
  obtain⟨vs,hm,hvs⟩:=lkG_mem hv
  have hc:=gl _ hm off v hvs
  exact⟨v,by simp only[execOp,ho,hrx,Instr.loadAt,Instr.sureAddr];simp[run_loadVar_one h1 _ _ hc.1], .kv _ _ _ hc.1 hc.2 ho1⟩
/-! Going over a text -/
theorem PO_range{t:TypeId}{x:Operand}{s:ByteArray}(ho:o.op= .range t x)(ht:P.underlying t=some .string)(hx':ρ x= .g (.str s)):PO P o ρ H (.mref H.mu.length 0 0 0) ⟨H.bx,H.tk,H.mu++[.iter 0 s 0]⟩:=by
 intro c ρr hr hx
 have h1:=hx x (by simp[ho,Op.operands])
 rw[hx']at h1
 have e1:=RV_str h1
 have hrun:(execOp ρr o).run P c.w= .ok (.value (.pointer (some ⟨c.w.heap.size,0,none⟩))) (c.w.alloc (.stringIter s 0)):=by
  simp[execOp,ho,e1,Instr.range,run_underlying ht,newObj,Sem.run]
 obtain⟨r1,r2⟩:=hr.addMu (Ext.alloc c.w (.stringIter s 0)) (t:=⟨true,c.w.heap.size,0,0,0,0⟩) (o:= .iter 0 s 0) (fun _=>⟨Nat.le_refl _,by simp⟩) ⟨rfl,rfl,Go.heap_alloc_new c.w _⟩
 unfold OpGoes
 rw[hrun]
 refine⟨_,rfl,r1,r2, .mref H.mu.length 0 0 0 _ ⟨true,c.w.heap.size,0,0,0,0⟩ ?_ (Nat.le_refl _) rfl (fun _=>by simp)⟩
 show(c.μ++[_])[H.mu.length]? =_
 rw[←hr.mlen];simp
theorem PO_next{x:Operand}{id n pos:Nat}{s:ByteArray}(ho:o.op= .next x true)(hx':ρ x= .mref id n 0 0)(hm:H.mu[id]? =some (.iter n s pos))(hlt:pos<s.size):
  PO P o ρ H (.tuple [.g (.bool true), .g (.int .i64 pos), .g (.int .i32 (Utf8.decode s pos).1)]) ⟨H.bx,H.tk,H.mu.set id (.iter n s (pos+(Utf8.decode s pos).2))⟩:=by
 intro c ρr hr hx
 have h1:=hx x (by simp[ho,Op.operands])
 rw[hx']at h1
 generalize hrx:ρr x=u at h1
 cases h1 with
 |mref _ _ _ _ a t ht hn hsp hv=>
 obtain⟨a1,a2,a3⟩:=hr.mu id t _ ht hm
 have ea:=hv a1.symm
 subst ea
 have hblk:t.g<c.w.heap.size:=hr.mlt t (List.mem_of_getElem? ht) a2
 have hrun:(execOp ρr o).run P c.w= .ok (.value (.tuple #[.bool true, .int .i64 pos, .int .i32 (Utf8.decode s pos).1])) {c.w with heap:=c.w.heap.setIfInBounds t.g (.stringIter s (pos+(Utf8.decode s pos).2))}:=by
  simp[execOp,ho,hrx,Instr.next,getObj,setObj,a3,hlt,goInt,Sem.run]
 have hset:c.μ.set id t=c.μ:=by
  obtain⟨_,rfl⟩:=List.getElem?_eq_some_iff.1 ht
  simp
 have hh:=hr.setMu (o':= .iter n s (pos+(Utf8.decode s pos).2)) ht rfl (.inl rfl) (w':={c.w with heap:=c.w.heap.setIfInBounds t.g (.stringIter s (pos+(Utf8.decode s pos).2))}) rfl ⟨rfl,fun _=>by first|exact Nat.le_refl _|exact Nat.le_succ _⟩ rfl (by simp)
  (fun b hb hne=>by simp[Array.getElem?_setIfInBounds,(hne a2).symm]) (fun lv=> .inl ⟨lv,rfl⟩) (fun hE=>⟨a1,a2,by simp[Array.getElem?_setIfInBounds,hblk]⟩)
 rw[hset]at hh
 unfold OpGoes
 rw[hrun]
 refine⟨_,rfl,hh.1,hh.2, .tuple _ _ rfl ?_⟩
 intro i p v hp hv
 match i with
 |0=>simp at hp hv;subst hp;subst hv;exact .g _ _ (.bool _)
 |1=>simp at hp hv;subst hp;subst hv;exact .g _ _ (.int _ _)
 |2=>simp at hp hv;subst hp;subst hv;exact .g _ _ (.int _ _)
 |i+3=>simp at hp
theorem PO_next_end{x:Operand}{id n pos:Nat}{s:ByteArray}(ho:o.op= .next x true)(hx':ρ x= .mref id n 0 0)(hm:H.mu[id]? =some (.iter n s pos))(hlt:s.size≤pos):PO P o ρ H (.tuple [.g (.bool false)]) H:=
 PO_val fun c ρr hr hx=>by
  have h1:=hx x (by simp[ho,Op.operands])
  rw[hx']at h1
  generalize hrx:ρr x=u at h1
  cases h1 with
  |mref _ _ _ _ a t ht hn hsp hv=>
  obtain⟨a1,a2,a3⟩:=hr.mu id t _ ht hm
  have ea:=hv a1.symm
  subst ea
  refine⟨.tuple #[.bool false], ?_, .tuple _ _ rfl ?_⟩
  ·have: ¬pos<s.size:=by omega
   simp[execOp,ho,hrx,Instr.next,getObj,a3,this,Sem.run]
  ·intro i p v hp hv
   cases i with
   |zero=>simp at hp hv;subst hp;subst hv;exact .g _ _ (.bool _)
   |succ i=>simp at hp
end
mutual
def bareV:VVal→VVal
 | .mk k y c e t l=> .mk k (if k=2 then y else false) (if k=3 then c else 0) (if k=3 then e else 0) (if k=4 then t else⟨#[]⟩) (if k=5 then bareVs l else [])
def bareVs:List VVal→List VVal
 |[]=>[]
 |v::r=>bareV v::bareVs r
end
def okV:VVal→Prop
 | .mk k _ _ _ _ l=>(k=1∨k=2∨k=3∨k=4∨k=5)∧(k=5→l.length≤200∧ ∀v∈l,okV v)
theorem okV_eq(k:Int)(y:Bool)(c e:Int)(t:ByteArray)(l:List VVal):okV (.mk k y c e t l)↔(k=1∨k=2∨k=3∨k=4∨k=5)∧(k=5→l.length≤200∧ ∀v∈l,okV v):=by rw[okV]
def tk(n:Int):Int:=if n=0 then 1 else 2
def wrongD(c e:Int):Int:=if 999999999999999999<c∨c< -999999999999999999∨40<e∨e< -40 then 3 else if c=0∧e≠0 then 2 else if c≠0∧c.tmod 10=0 then 2 else 0
section
variable(V:ByteArray→Bool)
mutual
def lookV:VVal→Nat→Nat→Nat×Int
 | .mk k _ c e t l,n,d=>if 2000<n+1∨20<d then(n+1,4)else if k=1∨k=2 then(n+1,0)else if k=3 then(n+1,wrongD c e)
  else if k=4 then(n+1,if 1000<t.size then 4 else if V t=true then 0 else 2)else if k=5 then(if 200<l.length then(n+1,5)else lookVs l (n+1) (d+1))else(n+1,1)
def lookVs:List VVal→Nat→Nat→Nat×Int
 |[],n,_=>(n,0)
 |v::r,n,d=>if(lookV v n d).2=0 then lookVs r (lookV v n d).1 d else lookV v n d
end
variable{V}
theorem lookV_eq(k:Int)(y:Bool)(c e:Int)(t:ByteArray)(l:List VVal)(n d:Nat):lookV V (.mk k y c e t l) n d=if 2000<n+1∨20<d then(n+1,4)else if k=1∨k=2 then(n+1,0)else if k=3 then(n+1,wrongD c e)
  else if k=4 then(n+1,if 1000<t.size then 4 else if V t=true then 0 else 2)else if k=5 then(if 200<l.length then(n+1,5)else lookVs V l (n+1) (d+1))else(n+1,1):=by rw[lookV]
mutual
theorem lookV_ok: ∀(v:VVal) (n d:Nat),(lookV V v n d).2=0→okV v∧(lookV V v n d).1≤2000
 | .mk k y c e t l,n,d,h=>by
  rw[lookV_eq]at h⊢
  rw[okV_eq]
  by_cases h1:2000<n+1∨20<d
  ·rw[if_pos h1]at h;cases h
  ·rw[if_neg h1]at h⊢
   by_cases h2:k=1∨k=2
   ·rw[if_pos h2]at h⊢
    exact⟨⟨by omega,by omega⟩,by simp only;omega⟩
   ·rw[if_neg h2]at h⊢
    by_cases h3:k=3
    ·rw[if_pos h3]at h⊢
     exact⟨⟨by omega,by omega⟩,by simp only;omega⟩
    ·rw[if_neg h3]at h⊢
     by_cases h4:k=4
     ·rw[if_pos h4]at h⊢
      exact⟨⟨by omega,by omega⟩,by simp only;omega⟩
     ·rw[if_neg h4]at h⊢
      by_cases h5:k=5
      ·rw[if_pos h5]at h⊢
       by_cases h6:200<l.length
       ·rw[if_pos h6]at h;cases h
       ·rw[if_neg h6]at h⊢
        obtain⟨q1,q2⟩:=lookVs_ok l (n+1) (d+1) (by omega) h
        exact⟨⟨by omega,fun _=>⟨by omega,q1⟩⟩,q2⟩
      ·rw[if_neg h5]at h;cases h
theorem lookVs_ok: ∀(l:List VVal) (n d:Nat),n≤2000→(lookVs V l n d).2=0→(∀v∈l,okV v)∧(lookVs V l n d).1≤2000
 |[],n,d,hn,h=>⟨by simp,hn⟩
 |v::r,n,d,hn,h=>by
  rw[lookVs]at h⊢
  by_cases h1:(lookV V v n d).2=0
  ·rw[if_pos h1]at h⊢
   obtain⟨q1,q2⟩:=lookV_ok v n d h1
   obtain⟨q3,q4⟩:=lookVs_ok r _ d q2 h
   refine⟨fun x hx=> ?_,q4⟩
   rcases List.mem_cons.1 hx with rfl|hx
   ·exact q1
   ·exact q3 x hx
  ·rw[if_neg h1]at h;exact absurd h h1
end
end
end Go.Pure
namespace Go.Pure
end Go.Pure
namespace Go.Pure
open Go
inductive VVar where
 |mk (name:ByteArray) (ty:VTy)
def VVar.g:VVar→GV
 | .mk name ty=> .agg (.str name::ty.g.cells)
def VVar.gs(l:List VVar):List GV:=l.map VVar.g
theorem VVar.cells(v:VVar):v.g.cells.length=3:=by obtain⟨n,⟨k,e⟩⟩:=v;rfl
/-! ### Right expressions -/
def kidsN(k:Int):Option (Int×Int):=
 if k=1∨k=2 then some (0,0)else if k=3 then some (1,0)else if(4≤k∧k≤16)∨(20≤k∧k≤22)then some (2,0)else if k=17 then some (3,0)else if k=18 then some (-1,8)else if k=19 then some (-1,200)else none
def hasName(k:Int):Bool:=decide (k=2∨k=18∨k=20∨k=21∨k=22)
def litE(V:ByteArray→Bool):VVal→Int
 | .mk k y c e t l=>if(lookV V (.mk k y c e t l) 0 1).2≠0 then(lookV V (.mk k y c e t l) 0 1).2 else if k=5∨(k=3∧c<0)then 8 else 0
mutual
def lookX(V nm:ByteArray→Bool):VExpr→Nat→Nat→Nat×Int
 | .mk k v name kids,n,d=>
  if 1000<n+1∨60<d then(n+1,4)
  else match kidsN k with
  |none=>(n+1,1)
  |some (m,most)=>
   if k=1∧litE V v≠0 then(n+1,litE V v)
   else if hasName k=true∧nm name=false then(n+1,7)
   else if(0≤m∧(kids.length:Int)≠m)∨(m<0∧most<(kids.length:Int))then(n+1,5)
   else lookXs V nm kids (n+1) (d+1)
def lookXs(V nm:ByteArray→Bool):List VExpr→Nat→Nat→Nat×Int
 |[],n,_=>(n,0)
 |x::r,n,d=>if(lookX V nm x n d).2≠0 then lookX V nm x n d else lookXs V nm r (lookX V nm x n d).1 d
end
theorem lookX_eq(V nm:ByteArray→Bool)(k:Int)(v:VVal)(name:ByteArray)(kids:List VExpr)(n d:Nat):lookX V nm (.mk k v name kids) n d=
  if 1000<n+1∨60<d then(n+1,4)
  else match kidsN k with
  |none=>(n+1,1)
  |some (m,most)=>
   if k=1∧litE V v≠0 then(n+1,litE V v)
   else if hasName k=true∧nm name=false then(n+1,7)
   else if(0≤m∧(kids.length:Int)≠m)∨(m<0∧most<(kids.length:Int))then(n+1,5)
   else lookXs V nm kids (n+1) (d+1):=lookX.eq_def V nm (.mk k v name kids) n d
theorem lookXs_cons(V nm:ByteArray→Bool)(x:VExpr)(r:List VExpr)(n d:Nat):lookXs V nm (x::r) n d=if(lookX V nm x n d).2≠0 then lookX V nm x n d else lookXs V nm r (lookX V nm x n d).1 d:=lookXs.eq_def V nm (x::r) n d
inductive okX:VExpr→Prop where
 |mk (k:Int) (v:VVal) (name:ByteArray) (kids:List VExpr) (m most:Int) (h:kidsN k=some (m,most)) (h1:0≤m→(kids.length:Int)=m) (h2:m<0→(kids.length:Int)≤most) (hk: ∀x∈kids,okX x):okX (.mk k v name kids)
theorem lookX_ok{V nm:ByteArray→Bool}: ∀(x:VExpr) (n d:Nat),(lookX V nm x n d).2=0→okX x∧(lookX V nm x n d).1≤1000:=by
 intro x
 induction x using VExpr.rec (motive_2:=fun l=> ∀n d,n≤1000→(lookXs V nm l n d).2=0→(∀x∈l,okX x)∧(lookXs V nm l n d).1≤1000)with
 |mk k v name kids ih=>
  intro n d h
  rw[lookX_eq]at h⊢
  split at h
  ·cases h
  ·rename_i h0
   rw[if_neg h0]
   cases hm:kidsN k with
   |none=>rw[hm]at h;cases h
   |some p=>
    obtain⟨m,most⟩:=p
    rw[hm]at h
    dsimp only at h⊢
    split at h
    ·rename_i h1;exact absurd h h1.2
    ·rename_i h1
     rw[if_neg h1]
     split at h
     ·cases h
     ·rename_i h2
      rw[if_neg h2]
      split at h
      ·cases h
      ·rename_i h3
       rw[if_neg h3]
       obtain⟨k1,k2⟩:=ih (n+1) (d+1) (by omega) h
       exact⟨.mk k v name kids m most hm (fun h4=>by omega) (fun h4=>by omega) k1,k2⟩
 |nil=>
  rename_i n d hn h
  exact⟨fun x hx=>absurd hx List.not_mem_nil,by simpa[lookXs]using hn⟩
 |cons x r h1 h2=>
  rename_i n d hn h
  rw[lookXs_cons]at h⊢
  split at h
  ·rename_i h3;exact absurd h h3
  ·rename_i h3
   rw[if_neg h3]
   have h4:(lookX V nm x n d).2=0:=by omega
   obtain⟨k1,k2⟩:=h1 n d h4
   obtain⟨k3,k4⟩:=h2 _ d k2 h
   refine⟨fun y hy=> ?_,k4⟩
   rcases List.mem_cons.1 hy with rfl|hy
   ·exact k1
   ·exact k3 y hy
/-! ### Types of expressions: of so many lists of something -/
abbrev TyP:=Nat×Int
def tyP(t:TyP):VTy:=tyL t.1 t.2
def kindP(t:TyP):Int:=if t.1=0 then t.2 else 5
def mayP(t:TyP)(ks:List Int):Bool:=decide (kindP t=1∨kindP t=6∨kindP t∈ks)
def elemP(t:TyP):TyP:=if t.1=0 then t else(t.1-1,t.2)
def litT:VVal→TyP
 | .mk k _ _ _ _ _=>(0,if k=1 then 1 else if k=2 then 2 else if k=3 then 3 else if k=4 then 4 else 0)
def findS:List (ByteArray×TyP)→ByteArray→Option TyP
 |[],_=>none
 |(m,t)::r,n=>match findS r n with
  |some u=>some u
  |none=>if m=n then some t else none
mutual
def lookT(R:Int→ByteArray→List TyP→TyP×Bool)(sg:ByteArray→Option Nat):VExpr→List (ByteArray×TyP)→TyP×Int
 | .mk k v name kids,s=>
  if k=1 then(litT v,0)
  else if k=2 then(match findS s name with|some t=>(t,0)|none=>((0,0),7))
  else if k=20∨k=21∨k=22 then overT R sg k name kids s
  else if k=18∧sg name=none then((0,0),7)
  else if k=18∧sg name≠some kids.length then((0,0),5)
  else if(lookTs R sg kids s).2≠0 then((0,0),(lookTs R sg kids s).2)
  else if(R k name (lookTs R sg kids s).1).2=true then((R k name (lookTs R sg kids s).1).1,0)else((0,0),9)
def overT(R:Int→ByteArray→List TyP→TyP×Bool)(sg:ByteArray→Option Nat)(k:Int)(name:ByteArray):List VExpr→List (ByteArray×TyP)→TyP×Int
 |[],_=>((0,0),0)
 |x::r,s=>
  if(lookT R sg x s).2≠0 then lookT R sg x s
  else if mayP (lookT R sg x s).1 [5]=false then((lookT R sg x s).1,9)
  else bodyT R sg k r (s++[(name,elemP (lookT R sg x s).1)])
def bodyT(R:Int→ByteArray→List TyP→TyP×Bool)(sg:ByteArray→Option Nat)(k:Int):List VExpr→List (ByteArray×TyP)→TyP×Int
 |[],_=>((0,0),0)
 |x::_,s=>
  if(lookT R sg x s).2≠0 then lookT R sg x s
  else if k=20 then(((lookT R sg x s).1.1+1,(lookT R sg x s).1.2),0)
  else if mayP (lookT R sg x s).1 [2]=false then((lookT R sg x s).1,9)else((0,2),0)
def lookTs(R:Int→ByteArray→List TyP→TyP×Bool)(sg:ByteArray→Option Nat):List VExpr→List (ByteArray×TyP)→List TyP×Int
 |[],_=>([],0)
 |x::r,s=>if(lookT R sg x s).2≠0 then([],(lookT R sg x s).2)else if(lookTs R sg r s).2≠0 then([],(lookTs R sg r s).2)else((lookT R sg x s).1::(lookTs R sg r s).1,0)
end
theorem findS_more{m:ByteArray×TyP}{s:List (ByteArray×TyP)}{n:ByteArray}{t:TyP}(h:findS s n=some t):findS (m::s) n=some t:=by
 obtain⟨a,b⟩:=m
 simp only[findS,h]
theorem lookT_more(R:Int→ByteArray→List TyP→TyP×Bool)(sg:ByteArray→Option Nat)(m:ByteArray×TyP): ∀(x:VExpr) (s:List (ByteArray×TyP)),(lookT R sg x s).2=0→lookT R sg x (m::s)=lookT R sg x s:=by
 intro x
 induction x using VExpr.rec (motive_2:=fun l=>(∀k s,(bodyT R sg k l s).2=0→bodyT R sg k l (m::s)=bodyT R sg k l s)∧(∀k n s,(overT R sg k n l s).2=0→overT R sg k n l (m::s)=overT R sg k n l s)∧ ∀s,(lookTs R sg l s).2=0→lookTs R sg l (m::s)=lookTs R sg l s)with
 |mk k v name kids ih=>
  obtain⟨i1,i2,i3⟩:=ih
  intro s h
  rw[lookT]at h⊢
  rw[lookT]
  split
  ·rfl
  ·rename_i h1
   rw[if_neg h1]at h
   split
   ·rename_i h2
    rw[if_pos h2]at h
    cases hf:findS s name with
    |none=>rw[hf]at h;cases h
    |some t=>rw[findS_more hf]
   ·rename_i h2
    rw[if_neg h2]at h
    split
    ·rename_i h3
     rw[if_pos h3]at h
     exact i2 k name s h
    ·rename_i h3
     rw[if_neg h3]at h
     split
     ·rfl
     ·rename_i h4
      rw[if_neg h4]at h
      split
      ·rfl
      ·rename_i h5
       rw[if_neg h5]at h
       by_cases h6:(lookTs R sg kids s).2=0
       ·rw[i3 s h6]
       ·rw[if_pos h6]at h;exact absurd h h6
 |nil=>exact⟨fun _ _ _=>by simp[bodyT],fun _ _ _ _=>by simp[overT],fun _ _=>by simp[lookTs]⟩
 |cons x r h1 h2=>
  obtain⟨i1,i2,i3⟩:=h2
  refine⟨fun k s h=> ?_,fun k n s h=> ?_,fun s h=> ?_⟩
  ·rw[bodyT]at h⊢
   rw[bodyT]
   by_cases h3:(lookT R sg x s).2=0
   ·rw[h1 s h3]
   ·rw[if_pos h3]at h;exact absurd h h3
  ·rw[overT]at h⊢
   rw[overT]
   by_cases h3:(lookT R sg x s).2=0
   ·have h3': ¬((lookT R sg x s).2≠0):=fun h=>h h3
    rw[h1 s h3]
    simp only[if_neg h3']at h⊢
    split
    ·rfl
    ·rename_i h4
     rw[if_neg h4]at h
     exact i1 k _ h
   ·rw[if_pos h3]at h;exact absurd h h3
  ·rw[lookTs]at h⊢
   rw[lookTs]
   by_cases h3:(lookT R sg x s).2=0
   ·have h3': ¬((lookT R sg x s).2≠0):=fun h=>h h3
    rw[h1 s h3]
    simp only[if_neg h3']at h⊢
    by_cases h4:(lookTs R sg r s).2=0
    ·rw[i3 s h4]
    ·rw[if_pos h4]at h;exact absurd h h4
   ·rw[if_pos h3]at h;exact absurd h h3
theorem decode_wide{s:ByteArray}{pos:Nat}(h:pos<s.size):1≤(Utf8.decode s pos).2:=Lib.decode_width_pos s pos h
def whileB(p:Int→Bool)(s:ByteArray)(pos:Nat):Nat:=
 if h:pos<s.size then(if p (Utf8.decode s pos).1=true then whileB p s (pos+(Utf8.decode s pos).2)else pos)else s.size
termination_by s.size-pos
decreasing_by have:=decode_wide h;omega
theorem whileB_end{p:Int→Bool}{s:ByteArray}{pos:Nat}(h:s.size≤pos):whileB p s pos=s.size:=by rw[whileB,dif_neg (by omega)]
theorem whileB_no{p:Int→Bool}{s:ByteArray}{pos:Nat}(h:pos<s.size)(hp:p (Utf8.decode s pos).1=false):whileB p s pos=pos:=by rw[whileB,dif_pos h,if_neg (by rw[hp];decide)]
theorem whileB_yes{p:Int→Bool}{s:ByteArray}{pos:Nat}(h:pos<s.size)(hp:p (Utf8.decode s pos).1=true):whileB p s pos=whileB p s (pos+(Utf8.decode s pos).2):=by rw[whileB,dif_pos h,if_pos hp]
theorem whileB_le(p:Int→Bool)(s:ByteArray)(pos:Nat):whileB p s pos≤s.size:=by
 induction hn:s.size-pos using Nat.strongRecOn generalizing pos with
 |ind n ih=>
  by_cases h:pos<s.size
  ·cases hp:p (Utf8.decode s pos).1 with
   |false=>rw[whileB_no h hp];omega
   |true=>
    rw[whileB_yes h hp]
    have:=decode_wide h
    exact ih _ (by omega) _ rfl
  ·rw[whileB_end (by omega)];exact Nat.le_refl _
theorem whileB_ge(p:Int→Bool)(s:ByteArray)(pos:Nat)(hpos:pos≤s.size):pos≤whileB p s pos:=by
 induction hn:s.size-pos using Nat.strongRecOn generalizing pos with
 |ind n ih=>
  by_cases h:pos<s.size
  ·cases hp:p (Utf8.decode s pos).1 with
   |false=>rw[whileB_no h hp];omega
   |true=>
    rw[whileB_yes h hp]
    have h1:=decode_wide h
    by_cases h2:pos+(Utf8.decode s pos).2≤s.size
    ·have:=ih _ (by omega) _ h2 rfl
     omega
    ·rw[whileB_end (by omega)];omega
  ·rw[whileB_end (by omega)];omega
theorem whileB_pos{p:Int→Bool}{s:ByteArray}(h:0<s.size)(hp:p (Utf8.decode s 0).1=true):1≤whileB p s 0:=by
 rw[whileB_yes h hp]
 have h1:=decode_wide h
 by_cases h2:0+(Utf8.decode s 0).2≤s.size
 ·have:=whileB_ge p s _ h2
  omega
 ·rw[whileB_end (by omega)];omega
def digB(r:Int):Bool:=decide (48≤r∧r≤57)
def fromB(s:ByteArray)(n:Nat):ByteArray:=s.extract n s.size
def uptoB(s:ByteArray)(n:Nat):ByteArray:=s.extract 0 n
theorem fromB_size(s:ByteArray)(n:Nat):(fromB s n).size=s.size-n:=by simp[fromB,ByteArray.size_extract]
theorem uptoB_size{s:ByteArray}{n:Nat}(h:n≤s.size):(uptoB s n).size=n:=by simp[uptoB,ByteArray.size_extract,h]
def numB(s:ByteArray):Nat:=
 if Lib.hasPrefix (fromB s (whileB digB s 0)).data.toList [46]=true then
  (if 0<whileB digB (fromB s (whileB digB s 0+1)) 0 then whileB digB s 0+1+whileB digB (fromB s (whileB digB s 0+1)) 0 else whileB digB s 0)
 else whileB digB s 0
theorem numB_ge(s:ByteArray):whileB digB s 0≤numB s:=by
 unfold numB
 split
 ·split<;>omega
 ·exact Nat.le_refl _
theorem numB_le(s:ByteArray):numB s≤s.size:=by
 have h1:=whileB_le digB s 0
 unfold numB
 split
 ·split
  ·have h2:=whileB_le digB (fromB s (whileB digB s 0+1)) 0
   rw[fromB_size]at h2
   omega
  ·exact h1
 ·exact h1
def escB(r:Int):Option UInt8:=if r=34 then some 34 else if r=92 then some 92 else if r=110 then some 10 else none
def escK(r:Int):Int:=if r=34 then 0 else if r=92 then 1 else if r=110 then 2 else -1
def quotB(s:ByteArray)(pos:Nat)(esc:Bool)(b:List UInt8):List UInt8×Nat×Nat:=
 if h:pos<s.size then
  (if esc=true then(match escB (Utf8.decode s pos).1 with
   |none=>([],0,pos+1)
   |some c=>quotB s (pos+(Utf8.decode s pos).2) false (b++[c]))
  else if(Utf8.decode s pos).1=92 then quotB s (pos+(Utf8.decode s pos).2) true b
  else if(Utf8.decode s pos).1=34 then(b,pos+2,0)
  else if(Utf8.decode s pos).1=10 then([],0,pos+1)
  else quotB s (pos+(Utf8.decode s pos).2) false (b++Lib.encodeRune (Utf8.decode s pos).1))
 else([],0,s.size+1)
termination_by s.size-pos
decreasing_by all_goals(have:=decode_wide h;omega)
theorem quotB_le(s:ByteArray)(pos:Nat)(esc:Bool)(b:List UInt8):(quotB s pos esc b).2.1≤s.size+1∧(quotB s pos esc b).2.2≤s.size+1:=by
 induction hn:s.size-pos using Nat.strongRecOn generalizing pos esc b with
 |ind n ih=>
  rw[quotB]
  by_cases h:pos<s.size
  ·rw[dif_pos h]
   have hw:=decode_wide h
   split
   ·split
    ·dsimp only;omega
    ·exact ih _ (by omega) _ _ _ rfl
   ·split
    ·exact ih _ (by omega) _ _ _ rfl
    ·split
     ·dsimp only;omega
     ·split
      ·dsimp only;omega
      ·exact ih _ (by omega) _ _ _ rfl
  ·rw[dif_neg h];dsimp only;omega
def signsB:List (List UInt8):=[[46,46],[60,61],[62,61],[33,61],[60],[62],[61],[43],[45],[42],[47],[40],[41],[91],[93],[44]]
def signB(s:List UInt8):List (List UInt8)→List UInt8
 |[]=>[]
 |x::r=>if Lib.hasPrefix s x=true then x else signB s r
structure VTok where
 kind:Int
 text:ByteArray
 c:Int
 e:Int
 at_:Int
def VTok.g(t:VTok):GV:= .agg [.int .i64 t.kind, .str t.text, .int .i64 t.c, .int .i64 t.e, .int .i64 t.at_]
def VTok.gs(l:List VTok):List GV:=l.map VTok.g
theorem VTok.cells(t:VTok):t.g.cells.length=5:=rfl
inductive Step where
 |blank
 |tok (t:VTok) (long:Nat)
 |bad (err:Int) (at_:Int)
def stepB(lt:Int→Bool)(pr:ByteArray→Int×Int×Int)(s:ByteArray)(a:Nat):Step:=
 let rest:=fromB s a
 let r:Int:=(Utf8.decode rest 0).1
 if r=32∨r=9∨r=10 then .blank
 else if lt r=true then .tok ⟨1,uptoB rest (whileB (fun r=>lt r||digB r) rest 0),0,0,a⟩ (whileB (fun r=>lt r||digB r) rest 0)
 else if digB r=true then(if(pr (uptoB rest (numB rest))).2.2≠0 then .bad (pr (uptoB rest (numB rest))).2.2 a else .tok ⟨2,uptoB rest (numB rest),(pr (uptoB rest (numB rest))).1,(pr (uptoB rest (numB rest))).2.1,a⟩ (numB rest))
 else if r=34 then(if(quotB (fromB rest 1) 0 false []).2.1=0 then .bad 2 (a+(quotB (fromB rest 1) 0 false []).2.2:Nat)else .tok ⟨3,⟨(quotB (fromB rest 1) 0 false []).1.toArray⟩,0,0,a⟩ (quotB (fromB rest 1) 0 false []).2.1)
 else if signB rest.data.toList signsB=[]then .bad 2 a
 else .tok ⟨4,⟨(signB rest.data.toList signsB).toArray⟩,0,0,a⟩ (signB rest.data.toList signsB).length
def toksB(lt:Int→Bool)(pr:ByteArray→Int×Int×Int)(s:ByteArray):Nat→Nat→List VTok→List VTok×Int×Int
 |0,_,_=>([],0,0)
 |n+1,a,out=>if a<s.size then(match stepB lt pr s a with
   | .blank=>toksB lt pr s n (a+1) out
   | .tok t long=>toksB lt pr s n (a+long) (out++[t])
   | .bad err p=>([],err,p))
  else(out,0,0)
def badB(n:ByteArray→Nat)(s:ByteArray)(pos:Nat):Option Nat:=
 if h:pos<s.size then(if(Utf8.decode s pos).1=65533∧n (fromB s pos)=1 then some pos else badB n s (pos+(Utf8.decode s pos).2))else none
termination_by s.size-pos
decreasing_by have:=decode_wide h;omega
def cutB(n:ByteArray→Nat)(lt:Int→Bool)(pr:ByteArray→Int×Int×Int)(s:ByteArray):List VTok×Int×Int:=
 match badB n s 0 with
 |some p=>([],2,p)
 |none=>toksB lt pr s (s.size+1) 0 []
theorem Rel.sel{P:Program}{c:Ctx}{H H0:PH}(hr:Rel P c H){I J L:List Nat}(hI:I.Nodup)(hJ:J.Nodup)(hL:L.Nodup)(hIl:H0.bx.length=I.length)
  (hI': ∀(j i:Nat),I[j]? =some i→ ∃cs,H.bx[i]? =some cs∧H0.bx[j]? =some (renL (posOf I) (posOf J) (posOf L) cs))
  (hJl:H0.tk.length=J.length) (hJ': ∀(j i:Nat),J[j]? =some i→ ∃x,H.tk[i]? =some x∧H0.tk[j]? =some x)
  (hLl:H0.mu.length=L.length) (hL': ∀(j i:Nat),L[j]? =some i→ ∃x,H.mu[i]? =some x∧H0.mu[j]? =some x):
  ∃c0:Ctx,c0.w=c.w∧c0.hid=c.hid∧Rel P c0 H0∧(∀p v,RV c p v→RV c0 (ren (posOf I) (posOf J) (posOf L) p) v)∧(∀b p,c.stab b p→c0.stab b p)∧
   c0.σ.length=I.length∧(∀(j i:Nat),I[j]? =some i→c0.σ[j]? =c.σ[i]?)∧(∀(j i:Nat),J[j]? =some i→c0.τ[j]? =c.τ[i]?)∧(∀(j i:Nat),L[j]? =some i→c0.μ[j]? =c.μ[i]?)∧(∀t∈c0.τ,t∈c.τ)∧(∀t∈c0.μ,t∈c.μ)∧ ∀b∈c0.σ,b∈c.σ:=by
 have hIb: ∀i∈I,i<c.σ.length:=fun i hi=>by
  obtain⟨j,hj⟩:=List.getElem?_of_mem hi
  obtain⟨cs,h1,_⟩:=hI' j i hj
  rw[hr.len];exact(List.getElem?_eq_some_iff.1 h1).1
 have htl:c.τ.length=H.tk.length:=by rw[←hr.tk];simp
 have hJb: ∀i∈J,i<c.τ.length:=fun i hi=>by
  obtain⟨j,hj⟩:=List.getElem?_of_mem hi
  obtain⟨x,h1,_⟩:=hJ' j i hj
  rw[htl];exact(List.getElem?_eq_some_iff.1 h1).1
 have hml:c.μ.length=H.mu.length:=hr.mlen
 have hLb: ∀i∈L,i<c.μ.length:=fun i hi=>by
  obtain⟨j,hj⟩:=List.getElem?_of_mem hi
  obtain⟨x,h1,_⟩:=hL' j i hj
  rw[hml];exact(List.getElem?_eq_some_iff.1 h1).1
 generalize hμ0:L.map (c.μ[·]!)=μ0
 have gμ: ∀(j i:Nat),L[j]? =some i→μ0[j]? =c.μ[i]? :=fun j i hj=>hμ0▸getElem_of_list hLb j i hj
 have lμ:μ0.length=L.length:=by rw[←hμ0];simp
 have mμ: ∀t∈μ0,t∈c.μ:=fun b hb=>by
  obtain⟨j,hj⟩:=List.getElem?_of_mem hb
  have hlt:j<L.length:=by rw[←lμ];exact(List.getElem?_eq_some_iff.1 hj).1
  rw[gμ j L[j] (List.getElem?_eq_getElem hlt)]at hj
  exact List.mem_of_getElem? hj
 have minj: ∀t∈c.μ,∀t'∈c.μ,t.live=true→t'.live=true→t.g=t'.g→t=t':=by
  intro t ht t' ht' lv lv' e
  obtain⟨i,hi⟩:=List.getElem?_of_mem ht
  obtain⟨j,hj⟩:=List.getElem?_of_mem ht'
  have hij:i=j:=hr.md i j t t' hi hj lv lv' e
  subst hij
  rw[hi]at hj
  exact Option.some.inj hj
 generalize hσ0:I.map (c.σ[·]!)=σ0
 generalize hτ0:J.map (c.τ[·]!)=τ0
 have gσ: ∀(j i:Nat),I[j]? =some i→σ0[j]? =c.σ[i]? :=fun j i hj=>hσ0▸getElem_of_list hIb j i hj
 have gτ: ∀(j i:Nat),J[j]? =some i→τ0[j]? =c.τ[i]? :=fun j i hj=>hτ0▸getElem_of_list hJb j i hj
 have lσ:σ0.length=I.length:=by rw[←hσ0];simp
 have lτ:τ0.length=J.length:=by rw[←hτ0];simp
 have mσ: ∀b∈σ0,b∈c.σ:=fun b hb=>by
  obtain⟨j,hj⟩:=List.getElem?_of_mem hb
  have hlt:j<I.length:=by rw[←lσ];exact(List.getElem?_eq_some_iff.1 hj).1
  rw[gσ j I[j] (List.getElem?_eq_getElem hlt)]at hj
  exact List.mem_of_getElem? hj
 have mτ: ∀t∈τ0,t∈c.τ:=fun b hb=>by
  obtain⟨j,hj⟩:=List.getElem?_of_mem hb
  have hlt:j<J.length:=by rw[←lτ];exact(List.getElem?_eq_some_iff.1 hj).1
  rw[gτ j J[j] (List.getElem?_eq_getElem hlt)]at hj
  exact List.mem_of_getElem? hj
 have tinj: ∀t∈c.τ,∀t'∈c.τ,t.live=true→t'.live=true→t.g=t'.g→t=t':=by
  intro t ht t' ht' lv lv' e
  obtain⟨i,hi⟩:=List.getElem?_of_mem ht
  obtain⟨j,hj⟩:=List.getElem?_of_mem ht'
  have hij:i=j:=hr.td i j t t' hi hj lv lv' e
  subst hij
  rw[hi]at hj
  exact Option.some.inj hj
 generalize hc0:(⟨σ0,τ0,μ0,c.hid,c.w⟩:Ctx)=c0
 have s0:c0.σ=σ0:=by rw[←hc0]
 have t0:c0.τ=τ0:=by rw[←hc0]
 have m0:c0.μ=μ0:=by rw[←hc0]
 have w0:c0.w=c.w:=by rw[←hc0]
 have h0:c0.hid=c.hid:=by rw[←hc0]
 have st0: ∀b p,c.stab b p→c0.stab b p:=by
  rintro b p ⟨q1,q2,q3,q4⟩
  exact⟨by rw[h0];exact q1,fun hb=>q2 (mσ b (s0▸hb)),fun t ht lv=>q3 t (mτ t (t0▸ht)) lv,fun t ht lv=>q4 t (mμ t (m0▸ht)) lv⟩
 have rv0: ∀p v,RV c p v→RV c0 (ren (posOf I) (posOf J) (posOf L) p) v:=fun p v h=>RV_ren w0 st0
  (fun b b' blk e hb=>by rw[s0,gσ b' b (posOf_some e)];exact hb) (fun i i' t e ht=>by rw[t0,gτ i' i (posOf_some e)];exact ht) (fun i i' t e ht=>by rw[m0,gμ i' i (posOf_some e)];exact ht) h
 have mok0: ∀t o,MOk P c t o→MOk P c0 t o:=by
  intro t o h
  have hg: ∀g v,RG c.w c.stab g v→RG c0.w c0.stab g v:=fun g v h=>h.mono fun a u _ hs hc=>⟨by rw[w0];exact hc,st0 _ _ hs⟩
  cases o with
  |gone n=>exact h
  |arr n e es=>
   obtain⟨a1,a2,a3,a4⟩:=h
   refine⟨a1,a2,a3,a4.imp id ?_⟩
   rintro⟨lv,cur,b1,b2,b3,b4,b5,b6⟩
   exact⟨lv,cur,by rw[w0];exact b1,b2,b3,b4,b5,fun i x j g v hx hg' hv=>⟨hg _ _ (b6 i x j g v hx hg' hv).1,(b6 i x j g v hx hg' hv).2⟩⟩
  |map es=>
   obtain⟨a1,lv,ents,es',hp,b1,b2,b3⟩:=h
   exact⟨a1,lv,ents,es',hp,by rw[w0];exact b1,b2,fun i k v n hk hn=>⟨hg _ _ (b3 i k v n hk hn).1,hg _ _ (b3 i k v n hk hn).2.1,(b3 i k v n hk hn).2.2⟩⟩
  |iter n s pos=>exact⟨h.1,h.2.1,by rw[w0];exact h.2.2⟩
 have rel0:Rel P c0 H0:=by
  refine⟨by rw[s0,lσ,hIl], ?_, ?_, ?_, ?_, ?_, ?_, ?_, ?_, ?_,fun t ht=>hr.dead t (mτ t (t0▸ht)),by rw[m0,lμ,hLl], ?_,fun t ht lv=>by rw[w0];exact hr.mlt t (mμ t (m0▸ht)) lv, ?_,fun t ht lv hb=>hr.ms t (mμ t (m0▸ht)) lv (mσ _ (s0▸hb)),fun t ht lv t' ht' lv'=>hr.mt t (mμ t (m0▸ht)) lv t' (mτ t' (t0▸ht')) lv', ?_,hr.gl.of_stab w0 st0⟩
  ·intro j b cs hb hcs
   rw[s0]at hb
   have hlt:j<I.length:=by rw[←lσ];exact(List.getElem?_eq_some_iff.1 hb).1
   have hj:=List.getElem?_eq_getElem hlt
   rw[gσ j _ hj]at hb
   obtain⟨cs',k1,k2⟩:=hI' j _ hj
   rw[k2]at hcs
   cases hcs
   obtain⟨vals,T,e1,e2,e3⟩:=hr.bx _ b cs' hb k1
   rw[w0]
   refine⟨vals,T,e1,by rw[renL_eq];simpa using e2,fun k p u hk hu=> ?_⟩
   rw[renL_eq]at hk
   simp only[List.getElem?_map,Option.map_eq_some_iff]at hk
   obtain⟨q,hq,rfl⟩:=hk
   exact⟨rv0 _ _ (e3 k q u hq hu).1,(e3 k q u hq hu).2⟩
  ·rw[t0]
   refine List.ext_getElem? fun j=> ?_
   by_cases hlt:j<J.length
   ·have hj:=List.getElem?_eq_getElem hlt
    obtain⟨x,k1,k2⟩:=hJ' j _ hj
    rw[k2,List.getElem?_map,gτ j _ hj,←List.getElem?_map,hr.tk]
    exact k1
   ·rw[List.getElem?_eq_none (by simp[lτ];omega),List.getElem?_eq_none (by omega)]
  ·intro t ht lv
   rw[w0]
   exact hr.tb t (mτ t (t0▸ht)) lv
  ·rw[s0,←hσ0]
   refine List.pairwise_map.2 (List.Pairwise.imp_of_mem ?_ hI)
   intro i i' hi hi' hne e
   have l1:=hIb i hi
   have l2:=hIb i' hi'
   simp only[getElem!_pos,l1,l2]at e
   exact hne (nodup_at hr.nd l1 l2 e)
  ·intro i j t t' hi hj lv lv' e
   rw[t0]at hi hj
   have li:i<J.length:=by rw[←lτ];exact(List.getElem?_eq_some_iff.1 hi).1
   have lj:j<J.length:=by rw[←lτ];exact(List.getElem?_eq_some_iff.1 hj).1
   rw[gτ i _ (List.getElem?_eq_getElem li)]at hi
   rw[gτ j _ (List.getElem?_eq_getElem lj)]at hj
   exact nodup_at hJ li lj (hr.td _ _ t t' hi hj lv lv' e)
  ·intro t ht lv hb
   exact hr.st t (mτ t (t0▸ht)) lv (mσ _ (s0▸hb))
  ·intro b p h
   rw[w0]
   rw[h0]at h
   exact hr.hidlt b p h
  ·intro t ht lv p h
   rw[h0]at h
   exact hr.thid t (mτ t (t0▸ht)) lv p h
  ·intro b hb
   rw[w0]
   exact hr.shid b (mσ b (s0▸hb))
  ·intro j t o hj ho
   rw[m0]at hj
   have hlt:j<L.length:=by rw[←lμ];exact(List.getElem?_eq_some_iff.1 hj).1
   have hj':=List.getElem?_eq_getElem hlt
   rw[gμ j _ hj']at hj
   obtain⟨x,k1,k2⟩:=hL' j _ hj'
   rw[k2]at ho
   cases ho
   exact mok0 t o (hr.mu _ t o hj k1)
  ·intro i j t t' hi hj lv lv' e
   rw[m0]at hi hj
   have li:i<L.length:=by rw[←lμ];exact(List.getElem?_eq_some_iff.1 hi).1
   have lj:j<L.length:=by rw[←lμ];exact(List.getElem?_eq_some_iff.1 hj).1
   rw[gμ i _ (List.getElem?_eq_getElem li)]at hi
   rw[gμ j _ (List.getElem?_eq_getElem lj)]at hj
   exact nodup_at hL li lj (hr.md _ _ t t' hi hj lv lv' e)
  ·intro t ht lv p h
   rw[h0]at h
   exact hr.mhid t (mμ t (m0▸ht)) lv p h
 exact⟨c0,w0,h0,rel0,rv0,st0,by rw[s0,lσ],fun j i h=>by rw[s0];exact gσ j i h,fun j i h=>by rw[t0];exact gτ j i h,fun j i h=>by rw[m0];exact gμ j i h,fun t ht=>mτ t (t0▸ht),fun t ht=>mμ t (m0▸ht),fun b hb=>mσ b (s0▸hb)⟩
theorem PC.sel{P:Program}{f:FuncId}{args:List PV}{H H1 H2:PH}{v v':PV}(hp:PC P f args H v H1)(I J L:List Nat)(hn:(nodupB I&&nodupB J&&nodupB L)=true)
  (i0:I.take H.bx.length=List.range H.bx.length) (j0:J.take H.tk.length=List.range H.tk.length) (l0:L.take H.mu.length=List.range H.mu.length)
  (hb:pickB I J L H1.bx I=some H2.bx) (ht:pickT H1.tk J=some H2.tk) (hm:pickM H1.mu L=some H2.mu) (hv:deepV (ren (posOf I) (posOf J) (posOf L) v)=some v'):PC P f args H v' H2:=by
 rw[deepV_eq]at hv
 cases hv
 simp only[Bool.and_eq_true]at hn
 obtain⟨b1,b2⟩:=pickB_spec hb
 obtain⟨t1,t2⟩:=pickT_spec ht
 obtain⟨m1,m2⟩:=pickM_spec hm
 have at0: ∀{X:List Nat} {n:Nat},X.take n=List.range n→ ∀i,i<n→X[i]? =some i:=by
  intro X n h i hi
  have:(X.take n)[i]? =some i:=by rw[h];simp[hi]
  rwa[List.getElem?_take,if_pos hi]at this
 intro c vs hr ha
 refine(hp c vs hr ha).mono fun e w' ⟨rv,c1,he,hw1,hr1,hE1,hv1⟩=> ?_
 obtain⟨c0,w0,h0,r0,rv0,st0,ls,gs,gt,gm,mt,mm,ms⟩:=hr1.sel (nodupB_spec hn.1.1) (nodupB_spec hn.1.2) (nodupB_spec hn.2) b1 b2 t1 t2 m1 m2
 have htl:c.τ.length=H.tk.length:=by rw[←hr.tk];simp
 obtain⟨n,hsn,hnb⟩:=hE1.sig
 refine⟨rv,c0,he,w0.trans hw1,r0,⟨by rw[w0];exact hE1.os,by rw[w0];exact hE1.tape,by rw[w0];exact hE1.output,by rw[w0];exact hE1.size,h0.trans hE1.hid,⟨c0.σ.drop c.σ.length, ?_, ?_⟩, ?_, ?_, ?_, ?_, ?_, ?_⟩,rv0 _ _ hv1⟩
 ·refine List.ext_getElem? fun i=> ?_
  by_cases hi:i<c.σ.length
  ·rw[List.getElem?_append_left hi,gs i i (at0 i0 i (by rw[←hr.len];exact hi)),hsn,List.getElem?_append_left hi]
  ·rw[List.getElem?_append_right (by omega),List.getElem?_drop]
   congr 1
   omega
 ·intro b hb
  obtain⟨k,hk⟩:=List.getElem?_of_mem hb
  rw[List.getElem?_drop]at hk
  have hlt:c.σ.length+k<I.length:=by rw[←ls];exact(List.getElem?_eq_some_iff.1 hk).1
  rw[gs _ _ (List.getElem?_eq_getElem hlt)]at hk
  have hge: ¬I[c.σ.length+k]<c.σ.length:=by
   intro hlt2
   have e1:=at0 i0 _ (by rw[←hr.len];exact hlt2)
   have hnd:=nodupB_spec hn.1.1
   have hb1:I[c.σ.length+k]<I.length:=(List.getElem?_eq_some_iff.1 e1).1
   have e2:I[I[c.σ.length+k]]=I[c.σ.length+k]:=(List.getElem?_eq_some_iff.1 e1).2
   have:=nodup_at hnd hb1 hlt e2
   omega
  rw[hsn,List.getElem?_append_right (by omega)]at hk
  exact hnb b (List.mem_of_getElem? hk)
 ·intro id t hid
  obtain⟨t',h1,h2⟩:=hE1.tok id t hid
  exact⟨t',(gt id id (at0 j0 id (by rw[←htl];exact(List.getElem?_eq_some_iff.1 hid).1))).trans h1,h2⟩
 ·intro id t hid
  obtain⟨t',h1,h2⟩:=hE1.mu id t hid
  exact⟨t',(gm id id (at0 l0 id (by rw[←hr.mlen];exact(List.getElem?_eq_some_iff.1 hid).1))).trans h1,h2⟩
 ·intro t ht lv
  exact hE1.munew t (mm t ht) lv
 ·intro t ht lv
  exact hE1.toknew t (mt t ht) lv
 ·intro a v hsp hst hc
  obtain⟨k1,k2⟩:=hE1.keep a v hsp hst hc
  exact⟨by rw[w0];exact k1,st0 _ _ k2⟩
 ·intro b hb h1 h2 h3
  rw[w0]
  exact hE1.frame b hb h1 h2 h3
theorem PC.frz{P:Program}{f:FuncId}{args:List PV}{H H1:PH}{v:PV}(hp:PC P f args H v H1)(id:Nat){n:Nat}{e:TypeId}{es:List GV}(hm:H1.mu[id]? =some (.arr n e es)):
  PC P f args H (Go.Pure.frz id n es v) ⟨frzB id n es H1.bx,H1.tk,H1.mu.set id (.gone (n+1))⟩:=fun c vs hr ha=>(hp c vs hr ha).mono fun e w' ⟨rv,c1,he,hw1,hr1,hE1,hv1⟩=>by
 obtain⟨c2,w2,r2,E2,rv2⟩:=hr1.freeze hm
 exact⟨rv,c2,he,w2.trans hw1,r2,hE1.trans E2,rv2 _ _ hv1⟩
theorem PC.out{P:Program}{f:FuncId}{args:List PV}{n e off len cap:Nat}{es es':List GV}(hp:PC P f args ⟨[],[],[]⟩ (.vw 0 n off len cap) ⟨[],[],[.arr n e es]⟩)(he:(es.drop off).take len=es'):PC P f args ⟨[],[],[]⟩ (.g (.sl es')) ⟨[],[],[]⟩:=by
 have h:=(hp.frz 0 rfl).sel (H2:=⟨[],[],[]⟩) (v':= .g (.sl es')) [] [] [] rfl rfl rfl rfl rfl rfl rfl (by simp[Go.Pure.frz,ren,deepV,he])
 exact h
end Go.Pure
namespace Go.Pure
open Go Go.RowKit
def vlit:GV→Option Value
 | .int k n=>some (.int k n)
 | .bool b=>some (.bool b)
 | .str s=>some (.string s)
 |_=>none
def vlits:List GV→Option (List Value)
 |[]=>some []
 |g::r=>match vlit g,vlits r with
  |some u,some l=>some (u::l)
  |_,_=>none
theorem RV_vlit{c:Ctx}{g:GV}{v u:Value}(h:RV c (.g g) v)(hl:vlit g=some u):v=u:=by
 cases g<;>simp only[vlit]at hl<;>first|(cases hl;done)|skip
 ·cases hl;exact RV_int h
 ·cases hl;exact RV_bool h
 ·cases hl;exact RV_str h
theorem vlits_ok{c:Ctx}: ∀{gs:List GV} {us:List Value} {vs:List Value},vlits gs=some us→gs.length=vs.length→(∀(i:Nat) (p:PV) (v:Value),(gs.map PV.g)[i]? =some p→vs[i]? =some v→RV c p v)→vs=us
 |[],us,vs,h,hl,_=>by
  cases h
  exact List.eq_nil_of_length_eq_zero hl.symm
 |g::r,us,[],h,hl,_=>by cases hl
 |g::r,us,v::vs,h,hl,hv=>by
  unfold vlits at h
  split at h
  ·rename_i u l h1 h2
   cases h
   have e1:v=u:=RV_vlit (hv 0 (.g g) v rfl rfl) h1
   have e2:=vlits_ok (c:=c) h2 (by simpa using hl) (fun i p w hp hw=>hv (i+1) p w (by simpa using hp) (by simpa using hw))
   rw[e1,e2]
  ·cases h
theorem PC_shelf{P:Program}{f:FuncId}{gs:List GV}{us:List Value}{v:PV}{ru:Value}(hu:vlits gs=some us)(hr: ∀c:Ctx,RV c v ru)
  (h: ∀c:Ctx,GL c→Calls P f us.toArray c.w fun e w'=>e= .returned ru∧Below c.w.heap.size c.w w'∧(gdrawn→c.w.drawn≤w'.drawn)):PC P f (gs.map .g) ⟨[],[],[]⟩ v ⟨[],[],[]⟩:=by
 intro c vs hrel ha
 obtain⟨hl,hv⟩:=ha
 obtain⟨l⟩:=vs
 have e:l=us:=vlits_ok (c:=c) hu (by simpa using hl) (fun i p v hp hv'=>hv i p v hp (by simpa using hv'))
 subst e
 refine(h c hrel.gl).mono fun e w' ⟨he,hb,hd⟩=> ?_
 obtain⟨r1,r2⟩:=hrel.grow ⟨hb.os,⟨hb.tape,hd⟩,hb.output,hb.size,hb.block⟩
 exact⟨ru,⟨c.σ,c.τ,c.μ,c.hid,w'⟩,he,rfl,r1,r2,hr _⟩
theorem PC_shelf0{P:Program}{f:FuncId}{gs:List GV}{us:List Value}{v:PV}{ru:Value}(hu:vlits gs=some us)(hr: ∀c:Ctx,RV c v ru)
  (h: ∀c:Ctx,GL c→Calls P f us.toArray c.w fun e w'=>e= .returned ru∧w'=c.w):PC P f (gs.map .g) ⟨[],[],[]⟩ v ⟨[],[],[]⟩:=
 PC_shelf hu hr fun c hg=>(h c hg).mono fun e w' ⟨he,hw⟩=>⟨he,by subst hw;exact⟨⟨rfl,rfl,rfl,Nat.le_refl _,fun _ _=>rfl⟩,fun _=>Nat.le_refl _⟩⟩
end Go.Pure
namespace Go.Pure
open Go
section
variable{P:Program}{N:Nat}{Q:Exit→Env→PH→Prop}{env:Env}{H:PH}
def Scp(Q:Exit→Env→PH→Prop):Exit→Env→PH→Prop
 | .goto _,_,_=>False
 |e,env,H=>Q e env H
theorem PW_scope{x:Code}(h:PW P N x (Scp Q) env H):PW P N (.scope x) Q env H:=by
 intro c a hr he
 refine wp_scope_straight (wp_mono (h c a hr he) ?_)
 rintro e a' w' ⟨c',env',H',q,rfl,hr',hE,he'⟩
 cases e<;>simp only[Scp]at q<;>simp only[Exit.noGoto]
 all_goals exact⟨c',env',H',q,rfl,hr',hE,he'⟩
end
abbrev WB:Nat:=18446744073709551616
def wG(n:Nat):GV:= .int .u64 n
def wsG(l:List Nat):List GV:=l.map wG
def okW(l:List Nat):Prop:= ∀w∈l,w<WB
def val:List Nat→Nat
 |[]=>0
 |w::r=>w+WB *val r
theorem wsG_length(l:List Nat):(wsG l).length=l.length:=by simp[wsG]
theorem wsG_cells{l:List Nat}: ∀x∈wsG l,x.cells=[x]:=by
 intro x hx
 obtain⟨n,_,rfl⟩:=List.mem_map.1 hx
 rfl
theorem wsG_get{l:List Nat}{i:Nat}{w:Nat}(h:l[i]? =some w):(wsG l)[i]? =some (wG w):=by simp[wsG,h]
theorem okW_nil:okW []:=by simp[okW]
theorem okW_cons{w:Nat}{l:List Nat}:okW (w::l)↔w<WB∧okW l:=by simp[okW]
theorem okW_append{a b:List Nat}:okW (a++b)↔okW a∧okW b:=by
 simp only[okW,List.mem_append]
 exact⟨fun h=>⟨fun w hw=>h w (.inl hw),fun w hw=>h w (.inr hw)⟩,fun h w hw=>hw.elim (h.1 w) (h.2 w)⟩
theorem okW.take{l:List Nat}(h:okW l)(n:Nat):okW (l.take n):=fun w hw=>h w (List.mem_of_mem_take hw)
theorem okW.drop{l:List Nat}(h:okW l)(n:Nat):okW (l.drop n):=fun w hw=>h w (List.mem_of_mem_drop hw)
theorem okW.at{l:List Nat}(h:okW l){i w:Nat}(hi:l[i]? =some w):w<WB:=h w (List.mem_of_getElem? hi)
theorem okW_rep(n:Nat):okW (List.replicate n 0):=fun w hw=>by rw[(List.mem_replicate.1 hw).2];decide
theorem val_nil:val []=0:=rfl
theorem val_cons(w:Nat)(l:List Nat):val (w::l)=w+WB *val l:=rfl
theorem val_append: ∀a b:List Nat,val (a++b)=val a+WB^a.length *val b
 |[],b=>by simp[val]
 |w::a,b=>by
  simp only[List.cons_append,val,val_append a b,List.length_cons,Nat.pow_succ]
  rw[Nat.mul_add,←Nat.add_assoc]
  congr 1
  rw[←Nat.mul_assoc,Nat.mul_comm WB]
theorem val_rep: ∀n:Nat,val (List.replicate n 0)=0
 |0=>rfl
 |n+1=>by simp[List.replicate_succ,val,val_rep n]
theorem val_lt: ∀{l:List Nat},okW l→val l<WB^l.length
 |[],_=>by simp[val]
 |w::l,h=>by
  obtain⟨h1,h2⟩:=okW_cons.1 h
  have:=val_lt h2
  simp only[val,List.length_cons,Nat.pow_succ]
  have h3:WB *(val l+1)≤WB *WB^l.length:=Nat.mul_le_mul_left _ this
  rw[Nat.mul_add,Nat.mul_one]at h3
  rw[Nat.mul_comm (WB^l.length)]
  omega
theorem val_inj: ∀{a b:List Nat},okW a→okW b→a.length=b.length→val a=val b→a=b
 |[],[],_,_,_,_=>rfl
 |[],_::_,_,_,h,_=>by cases h
 |_::_,[],_,_,h,_=>by cases h
 |x::a,y::b,ha,hb,hl,h=>by
  obtain⟨h1,h2⟩:=okW_cons.1 ha
  obtain⟨h3,h4⟩:=okW_cons.1 hb
  simp only[val]at h
  have e1:x=y:=by
   have:=congrArg (· %WB) h
   simpa[Nat.add_mul_mod_self_left,Nat.mod_eq_of_lt h1,Nat.mod_eq_of_lt h3]using this
  subst e1
  have e2:val a=val b:=Nat.eq_of_mul_eq_mul_left (show 0<WB by decide) (by omega)
  rw[val_inj h2 h4 (by simpa using hl) e2]
def dig(n:Nat):List Nat:=if h:n=0 then []else(n%WB)::dig (n/WB)
termination_by n
decreasing_by exact Nat.div_lt_self (Nat.pos_of_ne_zero h) (by decide)
theorem dig_zero:dig 0=[]:=by rw[dig];simp
theorem dig_pos{n:Nat}(h:n≠0):dig n=(n%WB)::dig (n/WB):=by rw[dig];simp[h]
theorem dig_nil{n:Nat}(h:dig n=[]):n=0:=by
 by_cases hn:n=0
 ·exact hn
 ·rw[dig_pos hn]at h;cases h
theorem val_dig(n:Nat):val (dig n)=n:=by
 induction n using Nat.strongRecOn with
 |ind n ih=>
  by_cases hn:n=0
  ·rw[hn,dig_zero];rfl
  ·rw[dig_pos hn,val,ih _ (Nat.div_lt_self (Nat.pos_of_ne_zero hn) (by decide))]
   exact Nat.mod_add_div n WB
theorem okW_dig(n:Nat):okW (dig n):=by
 induction n using Nat.strongRecOn with
 |ind n ih=>
  by_cases hn:n=0
  ·rw[hn,dig_zero];exact okW_nil
  ·rw[dig_pos hn]
   exact okW_cons.2 ⟨Nat.mod_lt _ (by decide),ih _ (Nat.div_lt_self (Nat.pos_of_ne_zero hn) (by decide))⟩
theorem dig_inj{a b:Nat}(h:dig a=dig b):a=b:=by rw[←val_dig a,h,val_dig]
theorem dig_one{n:Nat}(h0:n≠0)(h:n<WB):dig n=[n]:=by
 rw[dig_pos h0,Nat.mod_eq_of_lt h,Nat.div_eq_of_lt h,dig_zero]
def nlen:List Nat→Nat
 |[]=>0
 |w::r=>if nlen r=0 then(if w=0 then 0 else 1)else nlen r+1
theorem nlen_le: ∀l:List Nat,nlen l≤l.length
 |[]=>Nat.le_refl _
 |w::r=>by
  have:=nlen_le r
  simp only[nlen,List.length_cons]
  split
  ·split<;>omega
  ·omega
theorem nlen_zero: ∀{l:List Nat},nlen l=0→val l=0
 |[],_=>rfl
 |w::r,h=>by
  simp only[nlen]at h
  split at h
  ·rename_i h1
   split at h
   ·rename_i h2;subst h2;simp[val,nlen_zero h1]
   ·cases h
  ·cases h
theorem dig_val: ∀{l:List Nat},okW l→dig (val l)=l.take (nlen l)
 |[],_=>by simp[val,dig_zero,nlen]
 |w::r,h=>by
  obtain⟨h1,h2⟩:=okW_cons.1 h
  have ih:=dig_val h2
  simp only[val,nlen]
  by_cases hr:nlen r=0
  ·rw[if_pos hr,nlen_zero hr]
   by_cases hw:w=0
   ·subst hw;simp[dig_zero]
   ·rw[if_neg hw,Nat.mul_zero,Nat.add_zero,dig_one hw h1];simp
  ·rw[if_neg hr]
   have hv:val r≠0:=fun hv=>by
    rw[hv,dig_zero]at ih
    have:=congrArg List.length ih
    have hl:=nlen_le r
    simp at this
    omega
   rw[dig_pos (by have:0<WB *val r:=Nat.mul_pos (by decide) (Nat.pos_of_ne_zero hv);omega),List.take_succ_cons,←ih]
   rw[Nat.add_mul_mod_self_left,Nat.mod_eq_of_lt h1,Nat.add_mul_div_left _ _ (by decide),Nat.div_eq_of_lt h1,Nat.zero_add]
theorem nlen_dig{l:List Nat}(h:okW l):(dig (val l)).length=nlen l:=by
 rw[dig_val h,List.length_take]
 exact Nat.min_eq_left (nlen_le l)
theorem dig_length_le{n k:Nat}(h:n<WB^k):(dig n).length≤k:=by
  induction k generalizing n with
  | zero => have:n=0:=by simpa using h
            subst this;simp[dig_zero]
  |succ k ih=>
    by_cases hn:n=0
    · subst hn;simp[dig_zero]
    · rw[dig_pos hn,List.length_cons]
      have:n/WB<WB^k:=Nat.div_lt_of_lt_mul (by rw[Nat.pow_succ,Nat.mul_comm]at h;exact h)
      have:=ih this
      omega
theorem nlen_step{l:List Nat}{w:Nat}{k:Nat}(hk:l[k]? =some w)(hz: ∀j,k<j→ ∀x,l[j]? =some x→x=0)(hw:w≠0):nlen l=k+1:=by
 induction l generalizing k with
 |nil=>simp at hk
 |cons x r ih=>
  cases k with
  |zero=>
   simp at hk
   subst hk
   have:nlen r=0:=by
    have hall: ∀y∈r,y=0:=fun y hy=>by
     obtain⟨j,hj⟩:=List.getElem?_of_mem hy
     exact hz (j+1) (by omega) y (by simpa using hj)
    clear ih hz
    induction r with
    |nil=>rfl
    |cons y r ih2=>
     simp only[nlen]
     rw[ih2 fun z hz=>hall z (List.mem_cons_of_mem _ hz),if_pos rfl,if_pos (hall y List.mem_cons_self)]
   simp[nlen,this,hw]
  |succ k=>
   have:=ih (by simpa using hk) fun j hj y hy=>hz (j+1) (by omega) y (by simpa using hy)
   simp[nlen,this]
theorem nlen_none{l:List Nat}(h: ∀x∈l,x=0):nlen l=0:=by
 induction l with
 |nil=>rfl
 |cons y r ih=>
  simp only[nlen]
  rw[ih fun z hz=>h z (List.mem_cons_of_mem _ hz),if_pos rfl,if_pos (h y List.mem_cons_self)]
/-! ### A word times a number, and more -/
def mulAddW:List Nat→Nat→Nat→List Nat
 |[],_,_=>[]
 |x::r,y,c=>(x *y+c)%WB::mulAddW r y ((x *y+c)/WB)
def mulAddC:List Nat→Nat→Nat→Nat
 |[],_,c=>c
 |x::r,y,c=>mulAddC r y ((x *y+c)/WB)
theorem mulAddW_length: ∀(l:List Nat) (y c:Nat),(mulAddW l y c).length=l.length
 |[],_,_=>rfl
 |x::r,y,c=>by simp[mulAddW,mulAddW_length r]
theorem mulAddW_ok: ∀(l:List Nat) (y c:Nat),okW (mulAddW l y c)
 |[],_,_=>okW_nil
 |x::r,y,c=>okW_cons.2 ⟨Nat.mod_lt _ (by decide),mulAddW_ok r _ _⟩
theorem word_step{x y c:Nat}(hx:x<WB)(hy:y<WB)(hc:c<WB):(x *y+c)/WB<WB:=by
 refine Nat.div_lt_of_lt_mul ?_
 have:x *y≤(WB-1) *(WB-1):=Nat.mul_le_mul (by omega) (by omega)
 have:(WB-1) *(WB-1)+WB≤WB *WB:=by decide
 omega
theorem mulAddC_lt: ∀{l:List Nat} {y c:Nat},okW l→y<WB→c<WB→mulAddC l y c<WB
 |[],_,_,_,_,hc=>hc
 |x::r,y,c,h,hy,hc=>by
  obtain⟨h1,h2⟩:=okW_cons.1 h
  show mulAddC r y ((x *y+c)/WB)<WB
  exact mulAddC_lt h2 hy (word_step h1 hy hc)
theorem mulAdd_val: ∀(l:List Nat) (y c:Nat),val (mulAddW l y c)+WB^l.length *mulAddC l y c=val l *y+c
 |[],_,_=>by simp[mulAddW,mulAddC,val]
 |x::r,y,c=>by
  have ih:=mulAdd_val r y ((x *y+c)/WB)
  simp only[mulAddW,mulAddC,val,List.length_cons,Nat.pow_succ]
  have h1:WB *(val (mulAddW r y ((x *y+c)/WB))+WB^r.length *mulAddC r y ((x *y+c)/WB))=WB *(val r *y+(x *y+c)/WB):=by rw[ih]
  have h2:=Nat.mod_add_div (x *y+c) WB
  rw[Nat.mul_add,Nat.mul_add,←Nat.mul_assoc,←Nat.mul_assoc]at h1
  rw[Nat.add_mul,Nat.mul_comm (WB^r.length) WB]
  omega
def addMulW:List Nat→List Nat→Nat→Nat→List Nat
 |z::zs,y::ys,m,c=>(y *m+z+c)%WB::addMulW zs ys m ((y *m+z+c)/WB)
 |_,_,_,_=>[]
def addMulC:List Nat→List Nat→Nat→Nat→Nat
 |z::zs,y::ys,m,c=>addMulC zs ys m ((y *m+z+c)/WB)
 |_,_,_,c=>c
theorem addMulW_length: ∀{z y:List Nat} {m c:Nat},z.length=y.length→(addMulW z y m c).length=z.length
 |[],[],_,_,_=>rfl
 |[],_::_,_,_,h=>by cases h
 |_::_,[],_,_,h=>by cases h
 |z::zs,y::ys,m,c,h=>by simp[addMulW,addMulW_length (z:=zs) (y:=ys) (by simpa using h)]
theorem addMulW_ok: ∀(z y:List Nat) (m c:Nat),okW (addMulW z y m c)
 |[],_,_,_=>by simp[addMulW,okW_nil]
 |_::_,[],_,_=>by simp[addMulW,okW_nil]
 |z::zs,y::ys,m,c=>okW_cons.2 ⟨Nat.mod_lt _ (by decide),addMulW_ok zs ys _ _⟩
theorem word_step2{x y z c:Nat}(hx:x<WB)(hy:y<WB)(hz:z<WB)(hc:c<WB):(x *y+z+c)/WB<WB:=by
 refine Nat.div_lt_of_lt_mul ?_
 have:x *y≤(WB-1) *(WB-1):=Nat.mul_le_mul (by omega) (by omega)
 have:(WB-1) *(WB-1)+WB+WB≤WB *WB+1:=by decide
 omega
theorem addMulC_lt: ∀{z y:List Nat} {m c:Nat},okW z→okW y→m<WB→c<WB→addMulC z y m c<WB
 |[],_,_,_,_,_,_,hc=>by simpa[addMulC]using hc
 |_::_,[],_,_,_,_,_,hc=>by simpa[addMulC]using hc
 |z::zs,y::ys,m,c,hz,hy,hm,hc=>by
  obtain⟨h1,h2⟩:=okW_cons.1 hz
  obtain⟨h3,h4⟩:=okW_cons.1 hy
  show addMulC zs ys m ((y *m+z+c)/WB)<WB
  exact addMulC_lt h2 h4 hm (word_step2 h3 hm h1 hc)
theorem addMul_val: ∀{z y:List Nat} (m c:Nat),z.length=y.length→val (addMulW z y m c)+WB^z.length *addMulC z y m c=val z+val y *m+c
 |[],[],_,_,_=>by simp[addMulW,addMulC,val]
 |[],_::_,_,_,h=>by cases h
 |_::_,[],_,_,h=>by cases h
 |z::zs,y::ys,m,c,h=>by
  have ih:=addMul_val (z:=zs) (y:=ys) m ((y *m+z+c)/WB) (by simpa using h)
  simp only[addMulW,addMulC,val,List.length_cons,Nat.pow_succ]
  have h1:WB *(val (addMulW zs ys m ((y *m+z+c)/WB))+WB^zs.length *addMulC zs ys m ((y *m+z+c)/WB))=WB *(val zs+val ys *m+(y *m+z+c)/WB):=by rw[ih]
  have h2:=Nat.mod_add_div (y *m+z+c) WB
  rw[Nat.mul_add,Nat.mul_add,Nat.mul_add,←Nat.mul_assoc,←Nat.mul_assoc]at h1
  rw[Nat.add_mul,Nat.mul_comm (WB^zs.length) WB]
  omega
/-! ### Product, by lines -/
def putL(ws:List Nat)(off:Nat)(us:List Nat):List Nat:=ws.take off++us++ws.drop (off+us.length)
theorem putL_length{ws us:List Nat}{off:Nat}(h:off+us.length≤ws.length):(putL ws off us).length=ws.length:=by simp[putL];omega
theorem putL_ok{ws us:List Nat}(off:Nat)(h1:okW ws)(h2:okW us):okW (putL ws off us):=okW_append.2 ⟨okW_append.2 ⟨h1.take _,h2⟩,h1.drop _⟩
theorem putL_append{ws us vs:List Nat}{off:Nat}(h:off+us.length+vs.length≤ws.length):putL (putL ws off us) (off+us.length) vs=putL ws off (us++vs):=by
 unfold putL
 have e1:(ws.take off).length=off:=by simp;omega
 have e2:(ws.take off++us++ws.drop (off+us.length)).take (off+us.length)=ws.take off++us:=by
  rw[List.take_append_of_le_length (by simp;omega),List.take_of_length_le (by simp;omega)]
 have e3:(ws.take off++us++ws.drop (off+us.length)).drop (off+us.length+vs.length)=ws.drop (off+(us++vs).length):=by
  rw[List.drop_append,List.drop_of_length_le (by simp;omega),List.nil_append,List.drop_drop]
  congr 1
  simp
  omega
 rw[e2,e3]
 simp
theorem putL_part{ws us:List Nat}{off:Nat}(h:off+us.length≤ws.length):((putL ws off us).drop off).take us.length=us:=by
 unfold putL
 have e1:(ws.take off).length=off:=by simp;omega
 rw[List.append_assoc,List.drop_append,List.drop_of_length_le (by omega),List.nil_append,e1,Nat.sub_self,List.drop_zero,List.take_left']
 rfl
def rowW(zs x:List Nat)(i d:Nat):List Nat:=
 putL zs i (addMulW ((zs.drop i).take x.length) x d 0++[addMulC ((zs.drop i).take x.length) x d 0])
structure MulInv(x y zs:List Nat)(i:Nat):Prop where
 ok:okW zs
 len:zs.length=x.length+y.length
 v:val zs=val x *val (y.take i)
 z: ∀k,x.length+i≤k→ ∀w,zs[k]? =some w→w=0
theorem val_put{zs us:List Nat}{i:Nat}(h:i+us.length≤zs.length):val (putL zs i us)+WB^i *val ((zs.drop i).take us.length)=val zs+WB^i *val us:=by
 have e1:(zs.take i).length=i:=by simp;omega
 have hz:val zs=val (zs.take i)+WB^i *(val ((zs.drop i).take us.length)+WB^us.length *val (zs.drop (i+us.length))):=by
  conv=>lhs;rw[←List.take_append_drop i zs,←List.take_append_drop us.length (zs.drop i)]
  rw[val_append,val_append,e1,List.drop_drop]
  have:((zs.drop i).take us.length).length=us.length:=by simp;omega
  rw[this]
 have hp:val (putL zs i us)=val (zs.take i)+WB^i *(val us+WB^us.length *val (zs.drop (i+us.length))):=by
  unfold putL
  rw[List.append_assoc,val_append,val_append,e1]
 rw[hz,hp]
 simp only[Nat.mul_add]
 omega
theorem MulInv.start(x y:List Nat):MulInv x y (List.replicate (x.length+y.length) 0) 0:=
 ⟨okW_rep _,by simp,by simp[val_rep,val],fun k _ w hw=>by rw[List.getElem?_replicate]at hw;split at hw<;>simp_all⟩
theorem MulInv.skip{x y zs:List Nat}{i:Nat}(h:MulInv x y zs i)(hd:y[i]? =some 0):MulInv x y zs (i+1):=by
 refine⟨h.ok,h.len, ?_,fun k hk=>h.z k (by omega)⟩
 have hi:=(List.getElem?_eq_some_iff.1 hd).1
 rw[h.v,List.take_add_one,hd,Option.toList_some,val_append]
 simp[val]
theorem MulInv.step{x y zs:List Nat}{i d:Nat}(hx:okW x)(h:MulInv x y zs i)(hd:y[i]? =some d)(hdw:d<WB):MulInv x y (rowW zs x i d) (i+1):=by
 have hi:=(List.getElem?_eq_some_iff.1 hd).1
 have hl:=h.len
 have hp:((zs.drop i).take x.length).length=x.length:=by simp;omega
 have hokp:okW ((zs.drop i).take x.length):=(h.ok.drop i).take _
 have hul:(addMulW ((zs.drop i).take x.length) x d 0++[addMulC ((zs.drop i).take x.length) x d 0]).length=x.length+1:=by
  rw[List.length_append,addMulW_length hp,hp];rfl
 have hc:=addMulC_lt hokp hx hdw (show 0<WB by decide)
 have hfit:i+(addMulW ((zs.drop i).take x.length) x d 0++[addMulC ((zs.drop i).take x.length) x d 0]).length≤zs.length:=by rw[hul];omega
 have hzero: ∀k,x.length+i≤k→ ∀w,zs[k]? =some w→w=0:=h.z
 have hold:val ((zs.drop i).take (x.length+1))=val ((zs.drop i).take x.length):=by
  rw[List.take_add_one,val_append]
  have:((zs.drop i)[x.length]?).toList=[0]:=by
   rw[List.getElem?_drop]
   have hlt:i+x.length<zs.length:=by omega
   rw[List.getElem?_eq_getElem hlt]
   have:=hzero (i+x.length) (by omega) _ (List.getElem?_eq_getElem hlt)
   simp[this]
  rw[this]
  simp[val]
 have hnew:val (addMulW ((zs.drop i).take x.length) x d 0++[addMulC ((zs.drop i).take x.length) x d 0])=val ((zs.drop i).take x.length)+val x *d:=by
  have:=addMul_val (z:=(zs.drop i).take x.length) (y:=x) d 0 hp
  rw[val_append,addMulW_length hp]
  simp only[val,Nat.mul_zero,Nat.add_zero]at this⊢
  exact this
 refine⟨putL_ok _ h.ok (okW_append.2 ⟨addMulW_ok _ _ _ _,okW_cons.2 ⟨hc,okW_nil⟩⟩), ?_, ?_, ?_⟩
 ·unfold rowW
  rw[putL_length hfit,hl]
 ·have hv:=val_put hfit
  rw[hul,hold,hnew,h.v]at hv
  unfold rowW
  rw[List.take_add_one,hd,Option.toList_some,val_append,List.length_take,Nat.min_eq_left (by omega)]
  simp only[val,Nat.mul_zero,Nat.add_zero,Nat.mul_add]at hv⊢
  have:val x *(WB^i *d)=WB^i *(val x *d):=by rw[←Nat.mul_assoc,←Nat.mul_assoc,Nat.mul_comm (val x)]
  omega
 ·intro k hk w hw
  unfold rowW at hw
  generalize addMulW ((zs.drop i).take x.length) x d 0++[addMulC ((zs.drop i).take x.length) x d 0]=us at hul hfit hw
  unfold putL at hw
  have h1:(zs.take i++us).length=i+us.length:=by simp;omega
  rw[List.getElem?_append_right (by omega),List.getElem?_drop,h1]at hw
  exact hzero _ (by omega) w hw
/-! ### So many words -/
def padD:Nat→Nat→List Nat
 |0,_=>[]
 |k+1,v=>v%WB::padD k (v/WB)
theorem padD_length: ∀k v:Nat,(padD k v).length=k
 |0,_=>rfl
 |k+1,v=>by simp[padD,padD_length k]
theorem padD_ok: ∀k v:Nat,okW (padD k v)
 |0,_=>okW_nil
 |k+1,v=>okW_cons.2 ⟨Nat.mod_lt _ (by decide),padD_ok k _⟩
theorem padD_val: ∀{l:List Nat},okW l→padD l.length (val l)=l
 |[],_=>rfl
 |w::r,h=>by
  obtain⟨h1,h2⟩:=okW_cons.1 h
  simp only[List.length_cons,padD,val]
  rw[Nat.add_mul_mod_self_left,Nat.mod_eq_of_lt h1,Nat.add_mul_div_left _ _ (by decide),Nat.div_eq_of_lt h1,Nat.zero_add,padD_val h2]
theorem val_padD: ∀{k v:Nat},v<WB^k→val (padD k v)=v
  | 0, v, h => by have:v=0:=by simpa using h
                  subst this;rfl
  |k+1,v,h=>by
    have:v/WB<WB^k:=Nat.div_lt_of_lt_mul (by rw[Nat.pow_succ,Nat.mul_comm]at h;exact h)
    simp only[padD,val]
    rw[val_padD this]
    exact Nat.mod_add_div v WB
theorem nlen_padD{k v:Nat}(h:v<WB^k):nlen (padD k v)=(dig v).length:=by rw[←nlen_dig (padD_ok k v),val_padD h]
theorem take_padD{k v:Nat}(h:v<WB^k):(padD k v).take (dig v).length=dig v:=by
 have:=dig_val (padD_ok k v)
 rw[val_padD h,nlen_padD h]at this
 exact this.symm
theorem MulInv.pad{x y zs:List Nat}{i:Nat}(h:MulInv x y zs i):zs=padD (x.length+y.length) (val x *val (y.take i)):=by
 rw[←h.v,←h.len,padD_val h.ok]
end Go.Pure
namespace Go.Pure
theorem recip_guess{B d x1 x0 V:Nat}(h2:B≤2 *d)(hd:d<B)(hx1:x1<d)(hx0:x0<B)(hV:V=(B *B-1)/d):
  (V *x1+x0)/B *d≤x1 *B+x0∧x1 *B+x0<(V *x1+x0)/B *d+d+B:=by
 have hd0:0<d:=by omega
 have hB0:0<B:=by omega
 have hBB:1≤B *B:=Nat.mul_pos hB0 hB0
 have e1:=Nat.div_add_mod (B *B-1) d
 have e2:=Nat.mod_lt (B *B-1) hd0
 rw[←hV]at e1
 generalize(B *B-1)%d=e at e1 e2
 have t1:=Nat.div_add_mod (V *x1+x0) B
 have t2:=Nat.mod_lt (V *x1+x0) hB0
 generalize(V *x1+x0)/B=q at t1⊢
 generalize(V *x1+x0)%B=t0 at t1 t2
 -- d * (V * x1 + x0)
 have m1:d *(B *q)+d *t0=d *(V *x1)+d *x0:=by rw[←Nat.mul_add,←Nat.mul_add,t1]
 have m2:d *(V *x1)+(1+e) *x1=B *B *x1:=by
  rw[←Nat.mul_assoc,←Nat.add_mul]
  congr 1
  omega
 have m3:x0 *(B-d)+d *x0=x0 *B:=by
  rw[Nat.mul_comm d x0,←Nat.mul_add]
  congr 1
  omega
 have key:(x1 *B+x0) *B=q *d *B+((1+e) *x1+x0 *(B-d)+d *t0):=by
  have k1:(x1 *B+x0) *B=B *B *x1+x0 *B:=by rw[Nat.add_mul,Nat.mul_assoc,Nat.mul_comm x1]
  have k2:q *d *B=d *(B *q):=by rw[Nat.mul_comm q d,Nat.mul_assoc,Nat.mul_comm q B]
  rw[k1,k2]
  omega
 refine⟨Nat.le_of_mul_le_mul_right (c:=B) (by omega) hB0,Nat.lt_of_mul_lt_mul_right (a:=B) ?_⟩
 rw[key,Nat.add_assoc (q *d) d B,Nat.add_mul (q *d)]
 have u1:(1+e) *x1≤d *(d-1):=Nat.mul_le_mul (by omega) (by omega)
 have u2:x0 *(B-d)≤(B-1) *(B-d):=Nat.mul_le_mul_right _ (by omega)
 have u3:d *t0≤d *(B-1):=Nat.mul_le_mul_left _ (by omega)
 have u4:(B-1) *(B-d)+d *(B-1)=(B-1) *B:=by
  rw[Nat.mul_comm d,←Nat.mul_add]
  congr 1
  omega
 have u5:d *(d-1)<d *B:=Nat.mul_lt_mul_of_pos_left (by omega) hd0
 have u6:(B-1) *B≤B *B:=Nat.mul_le_mul_right _ (by omega)
 have u7:(d+B) *B=d *B+B *B:=Nat.add_mul _ _ _
 omega
theorem guess_over{B W v1 v2 vr h u2 ur g r:Nat}(hr:h=g *v1+r)(hur:ur<W)(hg:r *B+u2<g *v2):(h *B+u2) *W+ur<g *((v1 *B+v2) *W+vr):=by
 have e1:h *B=g *v1 *B+r *B:=by rw[hr,Nat.add_mul]
 have e2:g *(v1 *B+v2)=g *v1 *B+g *v2:=by rw[Nat.mul_add,Nat.mul_assoc]
 have h1:h *B+u2+1≤g *(v1 *B+v2):=by omega
 have h2:=Nat.mul_le_mul_right W h1
 rw[Nat.add_mul,Nat.one_mul]at h2
 have e3:g *((v1 *B+v2) *W+vr)=g *(v1 *B+v2) *W+g *vr:=by rw[Nat.mul_add,Nat.mul_assoc]
 omega
theorem guess_done{B v2 u2 g r:Nat}(hg:g≤B)(hv2:v2<B)(hr:B≤r):g *v2≤r *B+u2:=by
 have h1:g *v2≤B *v2:=Nat.mul_le_mul_right _ hg
 have h2:B *v2≤B *B:=Nat.mul_le_mul_left _ (by omega)
 have h3:B *B≤r *B:=Nat.mul_le_mul_right _ hr
 omega
theorem div_is{u v q:Nat}(h1:q *v≤u)(h2:u<q *v+v):u/v=q:=by
 have hv:0<v:=by omega
 refine Nat.le_antisymm ?_ ?_
 ·refine Nat.le_of_lt_succ ((Nat.div_lt_iff_lt_mul hv).2 ?_)
  rw[Nat.succ_mul];exact h2
 ·exact(Nat.le_div_iff_mul_le hv).2 h1
theorem mod_is{u v q:Nat}(h1:q *v≤u)(h2:u<q *v+v):u%v=u-q *v:=by
 have:=Nat.div_add_mod u v
 rw[div_is h1 h2,Nat.mul_comm]at this
 omega
end Go.Pure
namespace Go.Pure
open Go
def lz(y:Nat):Nat:=64-Lib.bitLen y
def upW(y:Nat):Nat:=y *2^lz y
def recW(y:Nat):Nat:=(WB *WB-1)/upW y-WB
theorem WB_two:WB=2^64:=by decide
theorem bitLen_ok{y:Nat}(h0:y≠0)(h:y<WB):1≤Lib.bitLen y∧Lib.bitLen y≤64∧2^(Lib.bitLen y-1)≤y∧y<2^Lib.bitLen y:=by
 obtain⟨a,b,c⟩:=Lib.bitLenAux_bounds 64 y h h0
 exact⟨a,Lib.bitLen_le y 64 (Nat.le_refl _) h,b,c⟩
theorem upW_ok{y:Nat}(h0:y≠0)(h:y<WB):WB≤2 *upW y∧upW y<WB∧lz y≤63∧2^lz y *2^(64-lz y)=WB:=by
 obtain⟨a,b,c,d⟩:=bitLen_ok h0 h
 have e1:lz y+Lib.bitLen y=64:=by unfold lz;omega
 unfold upW
 have p1:2^(Lib.bitLen y-1) *2^lz y≤y *2^lz y:=Nat.mul_le_mul_right _ c
 have p2:y *2^lz y<2^Lib.bitLen y *2^lz y:=Nat.mul_lt_mul_of_pos_right d (Nat.pow_pos (by decide))
 rw[←Nat.pow_add]at p1 p2
 rw[show Lib.bitLen y-1+lz y=63 by omega]at p1
 rw[show Lib.bitLen y+lz y=64 by omega]at p2
 refine⟨?_,p2,by omega, ?_⟩
 ·have:WB=2 *2^63:=by decide
  omega
 ·rw[←Nat.pow_add,show lz y+(64-lz y)=64 by omega]
theorem recW_ok{y:Nat}(h0:y≠0)(h:y<WB):recW y<WB∧recW y+WB=(WB *WB-1)/upW y:=by
  obtain⟨a,b,_,_⟩:=upW_ok h0 h
  have hpos : 0 < upW y := by have:0<WB:=by decide
                              omega
  have h1:WB≤(WB *WB-1)/upW y:=by
    refine(Nat.le_div_iff_mul_le hpos).2 ?_
    have:WB *upW y≤WB *(WB-1):=Nat.mul_le_mul_left _ (by omega)
    have e:WB *(WB-1)=WB *WB-WB:=by decide
    have:WB *WB-WB≤WB *WB-1:=by decide
    omega
  have h2:(WB *WB-1)/upW y<2 *WB:=by
    refine(Nat.div_lt_iff_lt_mul hpos).2 ?_
    have:WB *WB≤2 *WB *upW y:=by
      rw[Nat.mul_comm 2 WB,Nat.mul_assoc]
      exact Nat.mul_le_mul_left _ a
    have:0<WB *WB:=by decide
    omega
  unfold recW
  omega
theorem upped{y x1 x0:Nat}(h0:y≠0)(h:y<WB)(hx1:x1<y)(hx0:x0<WB):
  x1 *2^lz y+x0/2^(64-lz y)<upW y∧x0/2^(64-lz y)<2^lz y∧(x1 *2^lz y+x0/2^(64-lz y)) *WB+x0 *2^lz y%WB=(x1 *WB+x0) *2^lz y∧x1 *2^lz y<WB:=by
 obtain⟨a,b,c,d⟩:=upW_ok h0 h
 have h1:x0/2^(64-lz y)<2^lz y:=(Nat.div_lt_iff_lt_mul (Nat.pow_pos (by decide))).2 (by rw[d];exact hx0)
 have h2:(x1+1) *2^lz y≤y *2^lz y:=Nat.mul_le_mul_right _ hx1
 rw[Nat.add_mul,Nat.one_mul]at h2
 have h3:x0 *2^lz y/WB=x0/2^(64-lz y):=by
  conv=>lhs;rw[←d,Nat.mul_comm x0]
  exact Nat.mul_div_mul_left _ _ (Nat.pow_pos (by decide))
 have h4:=Nat.mod_add_div (x0 *2^lz y) WB
 rw[h3]at h4
 have h5:x1 *2^lz y *WB=x1 *WB *2^lz y:=by rw[Nat.mul_assoc,Nat.mul_comm (2^lz y),←Nat.mul_assoc]
 unfold upW at b⊢
 generalize 2^lz y=u at *
 generalize x0/2^(64-lz y)=v at *
 generalize y *u=w at *
 refine⟨by omega,h1, ?_,by omega⟩
 rw[Nat.add_mul,Nat.add_mul,h5,Nat.mul_comm v WB]
 omega
theorem guess_parts{m X1 X0 d:Nat}(hX0:X0<WB)(hX1:X1<d)(hd:d<WB)(h2:WB≤2 *d)(hm:m+WB=(WB *WB-1)/d):
  let g:=m *X1/WB+X1+(m *X1%WB+X0+0)/WB
  g<WB∧g=(m *X1+X0)/WB+X1∧g *d≤X1 *WB+X0∧X1 *WB+X0<g *d+d+WB∧(m *X1%WB+X0+0)/WB≤1:=by
 intro g
 have hg:g=(m *X1+X0)/WB+X1:=by
  have h1:=Nat.mod_add_div (m *X1) WB
  have e:(m *X1+X0)/WB=(m *X1%WB+X0+WB *(m *X1/WB))/WB:=by congr 1;omega
  rw[Nat.add_mul_div_left _ _ (by decide)]at e
  show m *X1/WB+X1+(m *X1%WB+X0+0)/WB=_
  rw[e,Nat.add_zero]
  omega
 have hV:=recip_guess (B:=WB) (d:=d) (x1:=X1) (x0:=X0) (V:=m+WB) h2 hd hX1 hX0 hm
 have e2:((m+WB) *X1+X0)/WB=(m *X1+X0)/WB+X1:=by
  rw[Nat.add_mul,show m *X1+WB *X1+X0=m *X1+X0+WB *X1 by omega,Nat.add_mul_div_left _ _ (by decide)]
 rw[e2,←hg]at hV
 refine⟨?_,hg,hV.1,hV.2, ?_⟩
 ·have hd0:0<d:=by omega
  refine Nat.lt_of_mul_lt_mul_right (a:=d) ?_
  have:(X1+1) *WB≤d *WB:=Nat.mul_le_mul_right _ hX1
  rw[Nat.add_mul,Nat.one_mul]at this
  rw[Nat.mul_comm WB d]
  omega
 ·have:=Nat.mod_lt (m *X1) (show 0<WB by decide)
  have h3:m *X1%WB+X0+0<2 *WB:=by omega
  have:=(Nat.div_lt_iff_lt_mul (show 0<WB by decide)).2 h3
  omega
theorem left_parts{g d X1 X0:Nat}(hX0:X0<WB)(hX1:X1<d)(hd:d<WB)(h1:g *d≤X1 *WB+X0)(h2:X1 *WB+X0<g *d+d+WB):
  let r0:=(X0+WB-d *g%WB-0)%WB
  let b:=if X0<d *g%WB+0 then 1 else 0
  let r1:=(X1+WB-d *g/WB-b)%WB
  r1 *WB+r0=X1 *WB+X0-g *d∧r1≤1∧r0<WB:=by
 intro r0 b r1
 have m0:=Nat.mod_add_div (d *g) WB
 have m1:=Nat.mod_lt (d *g) (show 0<WB by decide)
 rw[Nat.mul_comm g d]at h1 h2⊢
 have hr0:r0=(X0+WB-d *g%WB)%WB:=rfl
 have hb:b=if X0<d *g%WB then 1 else 0:=rfl
 have hr1:r1=(X1+WB-d *g/WB-b)%WB:=rfl
 generalize d *g%WB=l at *
 generalize d *g/WB=h at *
 generalize d *g=p at *
 clear_value r0 b r1
 have hw:WB=18446744073709551616:=rfl
 generalize WB=W at *
 subst hw
 have hh:h≤X1:=by omega
 by_cases hc:X0<l
 ·rw[if_pos hc]at hb
  subst hb
  rw[show X0+18446744073709551616-l=X0+18446744073709551616-l from rfl,Nat.mod_eq_of_lt (by omega)]at hr0
  have hh2:h+1≤X1:=by omega
  rw[show X1+18446744073709551616-h-1=X1-h-1+18446744073709551616 by omega,Nat.add_mod_right,Nat.mod_eq_of_lt (by omega)]at hr1
  omega
 ·rw[if_neg hc]at hb
  subst hb
  rw[show X0+18446744073709551616-l=X0-l+18446744073709551616 by omega,Nat.add_mod_right,Nat.mod_eq_of_lt (by omega)]at hr0
  rw[show X1+18446744073709551616-h-0=X1-h+18446744073709551616 by omega,Nat.add_mod_right,Nat.mod_eq_of_lt (by omega)]at hr1
  omega
/-! Two words by one, half a word at a time -/
abbrev HB:Nat:=4294967296
structure HInv(H u2 v1 v2 g r:Nat):Prop where
 h:H=g *v1+r
 q:(H *HB+u2)/(v1 *HB+v2)≤g
 b:g≤HB+1
theorem HInv.start{H u2 v1 v2:Nat}(hH:H<v1 *HB+v2)(hv1:2147483648≤v1)(hv1':v1<HB)(hv2:v2<HB)(hu:u2<HB):HInv H u2 v1 v2 (H/v1) (H%v1):=by
 refine⟨by rw[Nat.mul_comm];exact(Nat.div_add_mod H v1).symm, ?_, ?_⟩
 ·refine Nat.le_of_lt_succ ((Nat.div_lt_iff_lt_mul (by omega)).2 ?_)
  have h1:=Nat.div_add_mod H v1
  have h2:=Nat.mod_lt H (show 0<v1 by omega)
  generalize H/v1=g at *
  generalize H%v1=r at *
  rw[Nat.mul_comm (g.succ),show(v1 *HB+v2) *g.succ=(v1 *HB+v2) *g+(v1 *HB+v2)from Nat.mul_succ _ _]
  have e1:(v1 *HB+v2) *g=v1 *g *HB+v2 *g:=by rw[Nat.add_mul,Nat.mul_right_comm]
  have e2:(r+1) *HB≤v1 *HB:=Nat.mul_le_mul_right _ h2
  rw[e1]
  have e3:H *HB=v1 *g *HB+r *HB:=by rw[←h1,Nat.add_mul]
  rw[Nat.add_mul,Nat.one_mul]at e2
  generalize HB=B at *
  omega
 ·have:H<(HB+2) *v1:=by
   have:(v1+1) *HB≤(HB+2) *v1:=by unfold HB;omega
   rw[Nat.add_mul,Nat.one_mul]at this
   omega
  have:=(Nat.div_lt_iff_lt_mul (show 0<v1 by omega)).2 this
  omega
theorem HInv.over{H u2 v1 v2 g r:Nat}(hI:HInv H u2 v1 v2 g r)(hH:H<v1 *HB+v2)(hu:u2<HB)(hc:HB≤g∨r *HB+u2<g *v2):1≤g∧HInv H u2 v1 v2 (g-1) (r+v1):=by
 have hv:0<v1 *HB+v2:=by omega
 have hlt:(H *HB+u2)/(v1 *HB+v2)<g:=by
  rcases hc with hc|hc
  ·refine Nat.lt_of_lt_of_le ((Nat.div_lt_iff_lt_mul hv).2 ?_) hc
   have:(H+1) *HB≤(v1 *HB+v2) *HB:=Nat.mul_le_mul_right _ hH
   rw[Nat.add_mul,Nat.one_mul]at this
   rw[Nat.mul_comm HB]
   generalize HB=B at *
   omega
  ·refine(Nat.div_lt_iff_lt_mul hv).2 ?_
   have:=guess_over (B:=HB) (W:=1) (v1:=v1) (v2:=v2) (vr:=0) (h:=H) (u2:=u2) (ur:=0) (g:=g) (r:=r) hI.h (by decide) hc
   simpa using this
 have hg:1≤g:=Nat.lt_of_le_of_lt (Nat.zero_le _) hlt
 refine⟨hg,⟨?_,by omega,by have:=hI.b;omega⟩⟩
 have e:g *v1=(g-1) *v1+v1:=by
  conv=>lhs;rw[show g=g-1+1 by omega,Nat.add_mul,Nat.one_mul]
 have:=hI.h
 omega
theorem HInv.done{H u2 v1 v2 g r:Nat}(hI:HInv H u2 v1 v2 g r)(hv1:1≤v1)(hc:g *v2≤r *HB+u2):(H *HB+u2)/(v1 *HB+v2)=g:=by
  refine Nat.le_antisymm hI.q ((Nat.le_div_iff_mul_le (by have:1 *HB≤v1 *HB:=Nat.mul_le_mul_right _ hv1
                                                          unfold HB at *;omega)).2 ?_)
  have e1:H *HB=g *v1 *HB+r *HB:=by rw[hI.h,Nat.add_mul]
  have e2:g *(v1 *HB+v2)=g *v1 *HB+g *v2:=by rw[Nat.mul_add,Nat.mul_assoc]
  omega
theorem recW_div{y:Nat}(h0:y≠0)(h:y<WB):WB-1-upW y<upW y∧((WB-1-upW y) *WB+(WB-1))/upW y=recW y:=by
 obtain⟨a,b,_,_⟩:=upW_ok h0 h
 refine⟨by omega, ?_⟩
 unfold recW
 have e:(WB-1-upW y) *WB+(WB-1)=WB *WB-1-upW y *WB:=by
  rw[Nat.mul_sub_right_distrib]
  have h1:upW y *WB≤(WB-1) *WB:=Nat.mul_le_mul_right _ (by omega)
  have h2:(WB-1) *WB+(WB-1)=WB *WB-1:=by decide
  omega
 rw[e,Nat.sub_mul_div]
end Go.Pure
namespace Go.Pure
open Go Go.RowKit
section
variable{P:Program}{o:Oper}{ρ:Operand→PV}{H:PH}
theorem PO_unxor{x:Operand}{t:TypeId}{k:IntKind}{n:Int}(ho:o.op= .unOp .xor t x)(hx':ρ x= .g (.int k n)):PO P o ρ H (.g (.int k (k.wrap (BitVec.ofInt k.bits (if k.signed=true then -1 else k.max) ^^^ BitVec.ofInt k.bits n).toNat))) H:=
 PO_val fun c ρr hr hx=>by
  have h1:=hx x (by simp[ho,Op.operands])
  rw[hx']at h1
  exact⟨_,by simp[execOp,ho,RV_int h1,Op.unary,Op.intBits], .g _ _ (.int _ _)⟩
end
section
variable{P:Program}{N:Nat}{Q:Exit→Env→PH→Prop}{env:Env}{H:PH}
end
end Go.Pure
namespace Go.Pure
open Go
theorem val_dropB{l:List Nat}{k x:Nat}(h:l[k]? =some x):val (l.drop k)=x+WB *val (l.drop (k+1)):=by
 have hk:=(List.getElem?_eq_some_iff.1 h).1
 rw[List.drop_eq_getElem_cons hk,val]
 rw[List.getElem?_eq_getElem hk]at h
 rw[Option.some.inj h]
theorem div_stepB(D x X:Nat)(hD:0<D):(x+WB *X)/D=(x+WB *(X%D))/D+WB *(X/D)∧(x+WB *X)%D=(x+WB *(X%D))%D:=by
 have h1:=Nat.mod_add_div X D
 have e:x+WB *X=x+WB *(X%D)+D *(WB *(X/D)):=by
  have e2:WB *X=WB *(X%D)+D *(WB *(X/D)):=by
   rw[Nat.mul_left_comm D,←Nat.mul_add,h1]
  rw[e2,Nat.add_assoc]
 refine⟨?_, ?_⟩
 ·rw[e,Nat.add_mul_div_left _ _ hD]
 ·rw[e,Nat.add_mul_mod_self_left]
theorem digit_ltB{D x R:Nat}(hx:x<WB)(hR:R<D):(x+WB *R)/D<WB:=by
 refine(Nat.div_lt_iff_lt_mul (Nat.lt_of_le_of_lt (Nat.zero_le _) hR)).2 ?_
 have h1:WB *(R+1)≤WB *D:=Nat.mul_le_mul_left _ hR
 rw[Nat.mul_add,Nat.mul_one]at h1
 exact Nat.lt_of_lt_of_le (by rw[Nat.add_comm];exact Nat.add_lt_add_left hx _) h1
def quB(D:Nat)(ws l:List Nat)(k:Nat):List Nat:=ws.take k++(padD (l.length-k) (val (l.drop k)/D)++ws.drop l.length)
theorem quB_length{D k:Nat}{ws l:List Nat}(h:k≤l.length)(hw:l.length≤ws.length):(quB D ws l k).length=ws.length:=by
 unfold quB
 rw[List.length_append,List.length_append,List.length_take,List.length_drop,padD_length]
 omega
theorem quB_start(D:Nat){ws l:List Nat}(_h:l.length≤ws.length):quB D ws l l.length=ws:=by
 unfold quB
 rw[Nat.sub_self]
 simp[padD]
theorem quB_done(D:Nat)(ws l:List Nat):quB D ws l 0=putL ws 0 (padD l.length (val l/D)):=by
 unfold quB putL
 rw[padD_length]
 simp
theorem quB_step{D k x:Nat}{ws l:List Nat}(hD:0<D)(hx:x<WB)(h:l[k]? =some x)(hw:l.length≤ws.length):(quB D ws l (k+1)).set k ((x+WB *(val (l.drop (k+1))%D))/D)=quB D ws l k:=by
 have hk:=(List.getElem?_eq_some_iff.1 h).1
 have hs:=(div_stepB D x (val (l.drop (k+1))) hD).1
 have hd:=digit_ltB (x:=x) hx (Nat.mod_lt (val (l.drop (k+1))) hD)
 obtain⟨q,hq⟩: ∃q,q=(x+WB *(val (l.drop (k+1))%D))/D:=⟨_,rfl⟩
 have hqw:q<WB:=by rw[hq];exact hd
 have e:(ws.take k).length=k:=by simp;omega
 have hwk:ws.take (k+1)=ws.take k++[ws[k]'(by omega)]:=List.take_succ_eq_append_getElem (by omega)
 unfold quB
 rw[val_dropB h,hs,←hq,show l.length-k=(l.length-(k+1))+1 by omega,padD,Nat.add_mul_mod_self_left,Nat.mod_eq_of_lt hqw,Nat.add_mul_div_left _ _ (by decide),Nat.div_eq_of_lt hqw,Nat.zero_add]
 rw[hwk,List.append_assoc,List.set_append_right _ _ (by omega),e,Nat.sub_self]
 rfl
theorem rest_stepB{D k x:Nat}{l:List Nat}(hD:0<D)(h:l[k]? =some x):val (l.drop k)%D=(x+WB *(val (l.drop (k+1))%D))%D:=by
 rw[val_dropB h]
 exact(div_stepB D x _ hD).2
section
variable{P:Program}
def POx(P:Program)(o:Oper)(ρ:Operand→PV)(H:PH)(R:PV→PH→Prop):Prop:=
 ∀(c:Ctx) (ρr:Operand→Value),Rel P c H→(∀x∈o.op.operands.toList,RV c (ρ x) (ρr x))→
  OpGoes P ρr o c.w fun rv w'=> ∃v H' c',R v H'∧c'.w=w'∧Rel P c' H'∧Evo c c'∧RV c' v rv
theorem PCx_of_PW{f:FuncId}{fn:Func}{code:Code}{N:Nat}{rs:List ResultVar}{args:List PV}{H:PH}{R:PV→PH→Prop}(hf:P.funcs[f]? =some fn)(hb:fn.body=some code)(hn:fn.ntmps=N)
  (hrs:fn.results=rs.toArray) (hl:args.length≤N) (h:PW P N code (fun e env H2=> ∃v H',R v H'∧Ret P rs H v H' e env H2) (env0 args) H):PCx P f args H R:=by
 intro c vs hr ha
 refine calls_of_wp hf hb (wp_mono (h (c.wd []) _ (hr.wd []) (er_entry hn hl ha)) ?_)
 rintro e a w' ⟨c',env',H2,⟨v,H',hR,hret⟩,rfl,hr',hE,he'⟩
 have hdf:a.defers=[]:=he'.defers.trans (congrArg Hid.d hE.hid)
 obtain⟨v',e1,rv,c'',e2,e3,e4,e5,e6⟩:=ret_reads hr hrs hret hr' hE he'.size he'.slot
 rcases hret.1 with rfl|rfl
 ·exact⟨hdf,v',e1,v,H',rv,c'',hR,e2,e3,e4,e5,e6⟩
 ·exact⟨hdf,v',e1,v,H',rv,c'',hR,e2,e3,e4,e5,e6⟩
theorem wpList_app{all:Array Oper}{Q1 Q:Exit→Act→World→Prop}{l':List Oper}(hq: ∀e a w,Q1 e a w→e= .normal∧wpList P all Q l' a w): ∀{l:List Oper} {a:Act} {w:World},wpList P all Q1 l a w→wpList P all Q (l++l') a w
 |[],_,_,h=>(hq _ _ _ h).2
 |o::rest,a,w,h=>by
  show wpList P all Q (o::(rest++l')) a w
  unfold wpList at h⊢
  split
  ·rename_i hw
   rw[if_pos hw]at h
   refine h.imp ?_ ?_
   ·intro h
    have h1:=Oper.wp_mono (Q:=Q1) (fun a w h=>wpList_app hq (l:=rest) (a:=a) (w:=w) h) h
    unfold Oper.wp at *
    generalize(execOp a.eval o).run P w=r at *
    cases r with
    |ok n w'=>
     cases n<;>simp only[Oper.upon]at h1⊢ <;>
      first
       |exact h1
       |exact Calls.mono h1 (fun e w'' he=>by
         cases e
         ·exact he
         ·exact absurd (hq _ _ _ he).1 (by simp)
         ·obtain⟨a,w,h⟩:=he;exact absurd (hq _ _ _ h).1 (by simp))
    |halt x w'=>cases x<;>simp only[Oper.upon]at h1⊢ <;>first|exact h1|exact absurd (hq _ _ _ h1).1 (by simp)
   ·rintro⟨h1,a,w,h2⟩
    exact absurd (hq _ _ _ h2).1 (by simp)
  ·rename_i hw
   rw[if_neg hw]at h
   exact wpList_app hq h
variable{N:Nat}{Q:Exit→Env→PH→Prop}{env:Env}{H:PH}
theorem PW_region_x{id:Nat}{l1 l2:List Oper}{o:Oper}(hg:o.guard=none)(hd: ∀t,o.dst=some t→t<N)
  (h:POps P N (l1++o::l2).toArray (fun env H=> ∃R,POx P o env.eval H R∧ ∀v H',R v H'→POps P N (l1++o::l2).toArray (fun env H=>Q .normal env H) l2 (upd env o.dst v) H') l1 env H):
  PW P N (.region id (l1++o::l2).toArray false) Q env H:=by
 intro c a hr he
 refine wp_region_lit ?_
 have h1:=wpList_of_POps l1 env H h c a hr he
 refine wpList_app ?_ h1
 rintro e a1 w1 ⟨c1,env1,H1,⟨rfl,R,hp,hk⟩,rfl,hr1,hE1,he1⟩
 refine⟨rfl, ?_⟩
 unfold wpList
 have hw:Region.wanted o (yielded (l1++o::l2).toArray a1.tmps)=true:=by unfold Region.wanted;rw[hg]
 rw[if_pos hw]
 refine .inl ((hp c1 a1.eval hr1 (fun x _=>he1.eval x)).wp ?_)
 rintro rv w' ⟨v,H',c2,hR,rfl,hr2,hE2,hv⟩
 have h2:=wpList_of_POps l2 _ _ (hk v H' hR) c2 (a1.put o.dst rv) hr2 ((he1.mono hE2).put hd hv)
 refine wpList_of_POps.wpList_mono ?_ h2
 rintro e a w ⟨c3,env3,H3,⟨rfl,q⟩,hw3,hr3,hE3,he3⟩
 exact⟨c3,env3,H3,q,hw3,hr3,(hE1.trans hE2).trans hE3,he3⟩
theorem POx_call(ks:List Bool){o:Oper}{ρ:Operand→PV}{f:Operand}{args:Array Operand}{ts:Array TypeId}{id:FuncId}{ps:List PV}{R:PV→PH→Prop}(ho:o.op= .call {callee:= .value f,args:=args,argTypes:=ts})
  (hf:ρ f= .g (.raw (.func (.func id) #[] #[]))) (he:enterB P id=true) (ha:argsK ρ ks args.toList=ps) (hp:PCx P id ps H R):POx P o ρ H R:=by
 intro c ρr hr hx
 have hops: ∀x,x=f∨x∈args.toList→x∈o.op.operands.toList:=by
  intro x hx
  simp[ho,Op.operands,Call.operands]
  rcases hx with rfl|hx
  ·exact .inl rfl
  ·exact .inr (by simpa using hx)
 have hf1:=hx f (hops f (.inl rfl))
 rw[hf]at hf1
 have hf2:=RV_raw hf1
 have hrun:(execOp ρr o).run P c.w= .ok (.enter id (args.map ρr)) c.w:=by
  simp[execOp,ho,resolve,hf2,Deferred.ofValue,invoke,run_callFunc he]
 unfold OpGoes
 rw[hrun]
 refine(hp c _ hr ⟨by rw[←ha,argsK_length];simp,fun i p u hp' hu=> ?_⟩).mono ?_
 ·simp only[Array.getElem?_map,Option.map_eq_some_iff]at hu
  obtain⟨x,hx1,rfl⟩:=hu
  rw[←ha]at hp'
  exact argsK_get ks args.toList (fun z hz=>hx z (hops z (.inr hz))) i p x hp' (by simpa using hx1)
 ·rintro e w' ⟨v,H',rv,c',hR,rfl,rfl,hr',hE,hv'⟩
  exact⟨rv,rfl,v,H',c',hR,rfl,hr',hE,hv'⟩
theorem PCx_at{id:FuncId}{qs ps:List PV}{H0:PH}{R:PV→PH→Prop}(hp:PCx P id ps H0 R)(I J L:List Nat)(hn:(nodupB I&&nodupB J&&nodupB L)=true)(hb:pickB I J L H.bx I=some H0.bx)(ht:pickT H.tk J=some H0.tk)(hm:pickM H.mu L=some H0.mu)
  (ha:renL (posOf I) (posOf J) (posOf L) qs=ps):PCx P id qs H fun v' H'=> ∃v H1,R v H1∧v'=ren (backOf I H.bx.length) (backOf J H.tk.length) (backOf L H.mu.length) v∧H'=back I J L H H1:=by
 simp only[Bool.and_eq_true]at hn
 obtain⟨b1,b2⟩:=pickB_spec hb
 obtain⟨t1,t2⟩:=pickT_spec ht
 obtain⟨m1,m2⟩:=pickM_spec hm
 exact PCx_frame hp (nodupB_spec hn.1.1) (nodupB_spec hn.1.2) (nodupB_spec hn.2) b1 b2 t1 t2 m1 m2 ha
end
section
variable{P:Program}{o:Oper}{ρ:Operand→PV}{H:PH}
theorem run_append_make(w:World)(t u ty e:TypeId)(i:TypeInfo)(z:Value){k:IntKind}(ht:P.underlying t=some (.slice e))(hu:P.underlying u=some (.int k))(hi:P.info? e=some i)(hz:i.zero=some z)(hs:i.size=1)(n:Nat)(h0:0<n)(hn:n≤1000000)(hb:i.bytes≤1000):
  (Builtin.append_ #[t,u] ty #[.slice none 0 0, .int .i64 n]).run P w= .ok (.slice (some ⟨w.heap.size,0,none⟩) n (grownCap w n 0 e)) (w.drew.alloc (.cells (Builtin.zeroCells z.cells n++Builtin.zeroCells z.cells (grownCap w n 0 e-n)) e)):=by
 have hn0:n≠0:=by omega
 have hw:IntKind.i64.wrap (n:Int)=(n:Int):=by simp[IntKind.wrap,IntKind.bits,IntKind.signed];omega
 have h1: ¬((n:Int)<0):=by omega
 have hnb:n *i.bytes≤1000000 *1000:=Nat.mul_le_mul hn hb
 have h2: ¬(281474976710656<(n:Int) *(i.bytes:Int)):=by rw[←Int.natCast_mul];omega
 have h63: ¬(9223372036854775807<(n:Int)):=by omega
 have h48: ¬(281474976710656<Builtin.nextslicecap n 0 *i.bytes):=by rw[nextslicecap_zero h0];omega
 simp[Builtin.append_,run_underlying ht,run_underlying hu,sizeOf,typeInfo,zeroValue,hi,hz,asInt,asIntOf,hw,h1,h2,hs,hn0,h63,h48,Question.forced,run_firstCells_none,newRow,grownCap]
theorem zeroCells_one{z:Value}(hz:z.oneCell'=true)(n:Nat):Builtin.zeroCells z.cells n=Array.replicate n z:=by
 rw[cells_one hz]
 apply Array.ext
 ·simp[Builtin.zeroCells]
 ·intro i h1 h2
  simp[Builtin.zeroCells,Nat.mod_one]
theorem POx_growmake{x y:Operand}{t u e:TypeId}{m:Nat}{k:IntKind}{n:Nat}{z:Value}(ho:o.op= .call {callee:= .builtin .append,args:=⟨[x,y]⟩,argTypes:=⟨[t,u]⟩})(ht:P.underlying t=some (.slice e))(hu:P.underlying u=some (.int k))(hs:szB P e=some 1)(hz:zeroB P e=some z)(hz1:z.oneCell'=true)
  (hby:bytesB P e=some m) (hm:m≤1000) (hx':ρ x= .nils) (hy':ρ y= .g (.int .i64 n)) (h0:1≤n) (hn:n≤1000000):
  POx P o ρ H fun v H'=> ∃C,n≤C∧C≤maxLen∧v= .vw H.mu.length 0 0 n C∧H'=⟨H.bx,H.tk,H.mu++[.arr 0 e (List.replicate C (constG z))]⟩:=by
 intro c ρr hr hx
 have h1:=hx x (by simp[ho,Op.operands,Call.operands])
 have h2:=hx y (by simp[ho,Op.operands,Call.operands])
 rw[hx']at h1
 rw[hy']at h2
 have q2:=RV_int h2
 generalize hv:ρr x=v at h1
 cases h1
 obtain⟨i,hi,hsz⟩: ∃i,P.info? e=some i∧i.size=1:=by
  unfold szB at hs
  cases hu:P.info? e with
  |none=>rw[hu]at hs;cases hs
  |some i=>rw[hu]at hs;exact⟨i,rfl,by simpa using hs⟩
 have hiz:i.zero=some z:=by unfold zeroB at hz;rw[hi]at hz;simpa using hz
 have hib:i.bytes=m:=by unfold bytesB at hby;rw[hi]at hby;simpa using hby
 have hrun0:=run_append_make c.w t u o.type e i z ht hu hi hiz hsz n (by omega) hn (by omega)
 have hge:n≤grownCap c.w n 0 e:=grownCap_ge c.w n 0 e
 have hmax:grownCap c.w n 0 e≤maxLen:=grownCap_le_maxLen c.w n 0 e (by unfold maxLen;omega)
 generalize grownCap c.w n 0 e=C at *
 have hcells:Builtin.zeroCells z.cells n++Builtin.zeroCells z.cells (C-n)=Array.replicate C z:=by
  rw[zeroCells_one hz1,zeroCells_one hz1,Array.replicate_append_replicate,show n+(C-n)=C by omega]
 rw[hcells]at hrun0
 have hrun:(execOp ρr o).run P c.w= .ok (.value (.slice (some ⟨c.w.heap.size,0,none⟩) n C)) (c.w.drew.alloc (.cells (Array.replicate C z) e)):=by
  simp[execOp,ho,resolve,invoke,builtin,hv,q2,hrun0]
 unfold OpGoes
 rw[hrun]
 have hc1:(constG z).cells=[constG z]:=(constG_ok c.w c.stab z).cells_one hz1
 obtain⟨r1,r2⟩:=hr.addMu (Ext.trans (Ext.drew c.w) (Ext.alloc c.w.drew (.cells (Array.replicate C z) e))) (t:=⟨true,c.w.heap.size,1,0,C,C⟩) (o:= .arr 0 e (List.replicate C (constG z))) (fun _=>⟨Nat.le_refl _,by simp⟩)
  ⟨rfl,by simp,hs, .inr ⟨rfl,_,Go.heap_alloc_new c.w.drew _,by simp,by simp,hmax,fun x hx=>by rw[(List.mem_replicate.1 hx).2,hc1];rfl,fun k x j g v hx hg hv=>by
   rw[List.getElem?_replicate]at hx
   split at hx
   ·cases hx
    rw[hc1]at hg
    have hj:j=0:=by have:=(List.getElem?_eq_some_iff.1 hg).1;simpa using this
    subst hj
    simp at hg
    subst hg
    rw[Array.getElem?_replicate]at hv
    split at hv
    ·cases hv
     exact⟨constG_ok _ _ z,hz1⟩
    ·cases hv
   ·cases hx⟩⟩
 refine⟨_,_,_,⟨C,hge,hmax,rfl,rfl⟩,rfl,r1,r2, ?_⟩
 refine vw_mk (t:=⟨true,c.w.heap.size,1,0,C,C⟩) ?_ (Nat.le_refl _) rfl rfl hge hmax (by simp)
 show(c.μ++[_])[H.mu.length]? =_
 rw[←hr.mlen];simp
end
def subW:List Nat→List Nat→Nat→List Nat
 |x::xs,y::ys,c=>(x+WB-y-c)%WB::subW xs ys (if x<y+c then 1 else 0)
 |_,_,_=>[]
def subC:List Nat→List Nat→Nat→Nat
 |x::xs,y::ys,c=>subC xs ys (if x<y+c then 1 else 0)
 |_,_,c=>c
theorem subW_length: ∀{x y:List Nat} {c:Nat},x.length=y.length→(subW x y c).length=x.length
 |[],[],_,_=>rfl
 |[],_::_,_,h=>by cases h
 |_::_,[],_,h=>by cases h
 |x::xs,y::ys,c,h=>by simp[subW,subW_length (x:=xs) (y:=ys) (by simpa using h)]
theorem subW_ok: ∀(x y:List Nat) (c:Nat),okW (subW x y c)
 |x::xs,y::ys,c=>okW_cons.2 ⟨Nat.mod_lt _ (by decide),subW_ok xs ys _⟩
 |[],_,_=>by simp[subW,okW]
 |_::_,[],_=>by simp[subW,okW]
theorem subC_le: ∀(x y:List Nat) (c:Nat),c≤1→subC x y c≤1
 |x::xs,y::ys,c,_=>subC_le xs ys _ (by split<;>omega)
 |[],_,c,h=>by simpa[subC]using h
 |_::_,[],c,h=>by simpa[subC]using h
theorem sub_val: ∀{x y:List Nat} {c:Nat},x.length=y.length→okW x→okW y→c≤1→val (subW x y c)+val y+c=val x+WB^x.length *subC x y c
 |[],[],c,_,_,_,_=>by simp[subW,subC,val]
 |[],_::_,_,h,_,_,_=>by cases h
 |_::_,[],_,h,_,_,_=>by cases h
 |x::xs,y::ys,c,h,hx,hy,hc=>by
  obtain⟨a1,a2⟩:=okW_cons.1 hx
  obtain⟨b1,b2⟩:=okW_cons.1 hy
  have ih:=sub_val (x:=xs) (y:=ys) (c:=if x<y+c then 1 else 0) (by simpa using h) a2 b2 (by split<;>omega)
  simp only[subW,subC,val,List.length_cons,Nat.pow_succ]
  rw[Nat.mul_comm (WB^xs.length),Nat.mul_assoc]
  generalize WB^xs.length *subC xs ys (if x<y+c then 1 else 0)=P at *
  generalize val (subW xs ys (if x<y+c then 1 else 0))=Q at *
  generalize val xs=R at *
  generalize val ys=T at *
  by_cases hl:x<y+c
  ·rw[if_pos hl]at ih
   unfold WB at *
   omega
  ·rw[if_neg hl]at ih
   unfold WB at *
   omega
def addW:List Nat→List Nat→Nat→List Nat
 |x::xs,y::ys,c=>(x+y+c)%WB::addW xs ys ((x+y+c)/WB)
 |_,_,_=>[]
def addC:List Nat→List Nat→Nat→Nat
 |x::xs,y::ys,c=>addC xs ys ((x+y+c)/WB)
 |_,_,c=>c
theorem addW_length: ∀{x y:List Nat} {c:Nat},x.length=y.length→(addW x y c).length=x.length
 |[],[],_,_=>rfl
 |[],_::_,_,h=>by cases h
 |_::_,[],_,h=>by cases h
 |x::xs,y::ys,c,h=>by simp[addW,addW_length (x:=xs) (y:=ys) (by simpa using h)]
theorem addW_ok: ∀(x y:List Nat) (c:Nat),okW (addW x y c)
 |x::xs,y::ys,c=>okW_cons.2 ⟨Nat.mod_lt _ (by decide),addW_ok xs ys _⟩
 |[],_,_=>by simp[addW,okW]
 |_::_,[],_=>by simp[addW,okW]
theorem addC_le: ∀{x y:List Nat} {c:Nat},okW x→okW y→c≤1→addC x y c≤1
 |x::xs,y::ys,c,hx,hy,hc=>by
  obtain⟨a1,a2⟩:=okW_cons.1 hx
  obtain⟨b1,b2⟩:=okW_cons.1 hy
  rw[addC]
  exact addC_le (x:=xs) (y:=ys) a2 b2 (by unfold WB at *;omega)
 |[],_,c,_,_,h=>by simpa[addC]using h
 |_::_,[],c,_,_,h=>by simpa[addC]using h
theorem add_val: ∀{x y:List Nat} {c:Nat},x.length=y.length→val (addW x y c)+WB^x.length *addC x y c=val x+val y+c
 |[],[],c,_=>by simp[addW,addC,val]
 |[],_::_,_,h=>by cases h
 |_::_,[],_,h=>by cases h
 |x::xs,y::ys,c,h=>by
  have ih:=add_val (x:=xs) (y:=ys) (c:=(x+y+c)/WB) (by simpa using h)
  have e:=Nat.mod_add_div (x+y+c) WB
  simp only[addW,addC,val,List.length_cons,Nat.pow_succ]
  rw[Nat.mul_comm (WB^xs.length),Nat.mul_assoc]
  generalize(x+y+c)%WB=r at *
  generalize(x+y+c)/WB=q at *
  generalize WB^xs.length *addC xs ys q=P at *
  generalize val (addW xs ys q)=Q at *
  generalize val xs=R at *
  generalize val ys=T at *
  unfold WB at *
  omega
theorem sub_step: ∀{x y:List Nat} {c i a b:Nat},x[i]? =some a→y[i]? =some b→subW (x.take (i+1)) (y.take (i+1)) c=subW (x.take i) (y.take i) c++[(a+WB-b-subC (x.take i) (y.take i) c)%WB]∧subC (x.take (i+1)) (y.take (i+1)) c=if a<b+subC (x.take i) (y.take i) c then 1 else 0
 |a::x,b::y,c,0,_,_,h1,h2=>by simp at h1 h2;subst h1;subst h2;simp[subW,subC]
 |a::x,b::y,c,i+1,_,_,h1,h2=>by
  have ih:=sub_step (x:=x) (y:=y) (c:=if a<b+c then 1 else 0) (i:=i) (by simpa using h1) (by simpa using h2)
  simp only[List.take_succ_cons,subW,subC]at ih⊢
  rw[ih.1,ih.2]
  exact⟨rfl,rfl⟩
 |[],_,_,_,_,_,h,_=>by simp at h
 |_::_,[],_,_,_,_,_,h=>by simp at h
theorem add_step: ∀{x y:List Nat} {c i a b:Nat},x[i]? =some a→y[i]? =some b→addW (x.take (i+1)) (y.take (i+1)) c=addW (x.take i) (y.take i) c++[(a+b+addC (x.take i) (y.take i) c)%WB]∧addC (x.take (i+1)) (y.take (i+1)) c=(a+b+addC (x.take i) (y.take i) c)/WB
 |a::x,b::y,c,0,_,_,h1,h2=>by simp at h1 h2;subst h1;subst h2;simp[addW,addC]
 |a::x,b::y,c,i+1,_,_,h1,h2=>by
  have ih:=add_step (x:=x) (y:=y) (c:=(a+b+c)/WB) (i:=i) (by simpa using h1) (by simpa using h2)
  simp only[List.take_succ_cons,addW,addC]at ih⊢
  rw[ih.1,ih.2]
  exact⟨rfl,rfl⟩
 |[],_,_,_,_,_,h,_=>by simp at h
 |_::_,[],_,_,_,_,_,h=>by simp at h
end Go.Pure