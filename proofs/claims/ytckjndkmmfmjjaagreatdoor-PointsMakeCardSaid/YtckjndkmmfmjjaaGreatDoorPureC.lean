/- Steps to pointsMake_card. -/
import Derived.Test.YtckjndkmmfmjjaaGreatDoorPureB
import Derived.LaidEqlPtr
import Derived.Laws.Twins
import Derived.LoopN
set_option linter.all false
open Go.IntKind (i64)
set_option maxRecDepth 100000
set_option maxHeartbeats 32000000
namespace Go.Pure
open Go
mutual
def ue(id n:Nat)(es:List GV):PV->PV
 |.lK k7 n'=>bif Nat.beq k7 id&&Nat.beq n' n then .g (.sl es)else .lK k7 n'|.mU f a b=>.mU f (Bw id n es a) (Bw id n es b)|.agg cs=>.agg (Bw id n es cs)|.tuple cs=>.tuple (Bw id n es cs)|.g x=>.g x|.own o8 k7=>.own o8 k7|.ptr b off=>.ptr b off|.jx=>.jx|.iM=>.iM|.pat cs=>.pat cs|.lit o8=>.lit o8|.kE a b c d=>.kE a b c d|.mp a=>.mp a|.vw k7 n' off len cap=>bif Nat.beq k7 id&&Nat.beq n' n then .g (.sl ((es.drop off).take len))else .vw k7 n' off len cap|.qm k7 n' off len=>bif Nat.beq k7 id&&Nat.beq n' n then .g (.sl ((es.drop off).take len))else .qm k7 n' off len|.mV g off=>.mV g off|.kv g off=>.kv g off|.rz t p=>.rz t (ue id n es p)|.any=>.any
def Bw(id n:Nat)(es:List GV):List PV->List PV
 |[]=>[]|p::r=>ue id n es p::Bw id n es r
end
def Cv(id n:Nat)(es:List GV):∀l,Bw id n es l=l.map (ue id n es)
 |[]=>by simp[Bw]|p::r=>by simp[Bw,Cv id n es r]
def Gk(id n:Nat)(es:List GV):List (List PV)->List (List PV)
 |[]=>[]|l::r=>Bw id n es l::Gk id n es r
def Mo(id n:Nat)(es:List GV):∀l,Gk id n es l=l.map (·.map (ue id n es))
 |[]=>rfl|p::r=>by simp[Gk,Cv,Mo id n es r]
section
variable{P:Program}{c:Ctx}{H:PH}
variable{c c':Ctx}{n:Nat}{es:List GV}{p:PV}{v:Value}
def XQ(hE:kI c c'){id:Nat}(re:∀v,RV c (.lK id n) v->RG c'.w c'.jq (.sl es) v)(Ki:∀off len cap v,RV c (.vw id n off len cap) v->RG c'.w c'.jq (.sl ((es.drop off).take len)) v)(xH:∀off len v,RV c (.qm id n off len) v->RG c'.w c'.jq (.sl ((es.drop off).take len)) v)(h:RV c p v):RV c' (ue id n es p) v:=by
 induction h with
 |lK k7 n' v t ht hn h1 hv=>
  simp only[ue];cases hb:(Nat.beq k7 id&&Nat.beq n' n)with
  |true=>
   rw[cr];simp only[bI]at hb;have e1:=bl hb.1;have e2:=bl hb.2;subst e1;subst e2;exact .g _ _ (re v (.lK _ _ v t ht hn h1 hv))
  |false=>rw[de];exact(RV.lK k7 n' v t ht hn h1 hv).mono hE
 |g x v h=>simp only[ue];exact(RV.g x v h).mono hE|own es id v t h ht hs hl hv=>simp only[ue];exact(RV.own es id v t h ht hs hl hv).mono hE|ptr b off kh h=>simp only[ue];exact(RV.ptr b off kh h).mono hE|jx=>simp only[ue];exact .jx|iM=>simp only[ue];exact .iM|pat cs a f ha hf h=>simp only[ue];exact(RV.pat cs a f ha hf h).mono hE
 |mU fn ps qs us vs hp hq _ _ h1 h2=>
  simp only[ue,Cv];refine .mU fn _ _ us vs (by simpa using hp) (by simpa using hq) (λi p v kD hv=>?_) (λi p v kD hv=>?_);simp only[bj,bh]at kD;obtain⟨q,qH,rfl⟩:=kD;exact h1 i q v qH hv;simp only[bj,bh]at kD;obtain⟨q,qH,rfl⟩:=kD;exact h2 i q v qH hv
 |agg cs vs hl h1 _ ih=>
  simp only[ue,Cv];refine .agg _ vs (by simpa using hl) h1 λi p v kD hv=>?_;simp only[bj,bh]at kD;obtain⟨q,qH,rfl⟩:=kD;exact ih i q v qH hv
 |tuple cs vs hl _ ih=>
  simp only[ue,Cv];refine .tuple _ vs (by simpa using hl) λi p v kD hv=>?_;simp only[bj,bh]at kD;obtain⟨q,qH,rfl⟩:=kD;exact ih i q v qH hv
 |lit es a h=>simp only[ue];exact(RV.lit es a h).mono hE|kE id n i off a t ht hn h1 hv=>simp only[ue];exact(RV.kE id n i off a t ht hn h1 hv).mono hE|mp id v t ht h1 hv=>simp only[ue];exact(RV.mp id v t ht h1 hv).mono hE
 |vw k7 n' off len cap g t ht hn h1 h2 hv=>
  simp only[ue];cases hb:(Nat.beq k7 id&&Nat.beq n' n)with
  |true=>
   rw[cr];simp only[bI]at hb;have e1:=bl hb.1;have e2:=bl hb.2;subst e1;subst e2;exact .g _ _ (Ki off len cap _ (.vw _ _ off len cap g t ht hn h1 h2 hv))
  |false=>rw[de];exact(RV.vw k7 n' off len cap g t ht hn h1 h2 hv).mono hE
 |qm k7 n' off len g xw cap t ht hn h1 h2 hv=>
  simp only[ue];cases hb:(Nat.beq k7 id&&Nat.beq n' n)with
  |true=>
   rw[cr];simp only[bI]at hb;have e1:=bl hb.1;have e2:=bl hb.2;subst e1;subst e2;exact .g _ _ (xH off len _ (.qm _ _ off len g xw cap t ht hn h1 h2 hv))
  |false=>rw[de];exact(RV.qm k7 n' off len g xw cap t ht hn h1 h2 hv).mono hE
 |mV g off=>simp only[ue];exact .mV g off|kv g off v h hs h1=>simp only[ue];exact(RV.kv g off v h hs h1).mono hE|rz t p v _ ih=>simp only[ue];exact .rz t _ v ih|any v=>simp only[ue];exact .any v
def Rel.freeze(hr:Rel P c H){id:Nat}{e:TypeId}(hm:H.mu[id]?=some (.arr n e es)):
  ∃c',c'.w=c.w∧Rel P c' ⟨Gk id n es H.bx,H.tk,H.mu.set id (.gone (n+1))⟩∧kI c c'∧∀p v,RV c p v->RV c' (ue id n es p) v:=by
 have hid:id<c.μ.length:=by rw[hr.nq];exact(aR.1 hm).1
 have ht:=aS hid;generalize c.μ[id]=t at ht;have mq:=hr.mu id t _ ht hm;obtain⟨a1,a2,a3,a4⟩:=mq;obtain⟨r1,r2⟩:=hr.FZ ht (t':={t with live:=false,gen:=n+1}) (o':=.gone (n+1)) rfl (.inr ah) (w':=c.w) rfl ⟨rfl,λ_=>by first|exact aZ _|exact fc _⟩ rfl (aZ _) (λ_ _ _=>rfl) (λh=>by cases h) (λ_=>⟨rfl,rfl⟩);refine⟨⟨c.σ,c.τ,c.μ.set id {t with live:=false,gen:=n+1},c.hid,c.w⟩,rfl,?_,r2,?_⟩;all_goals
  have re:∀v,RV c (.lK id n) v->RG c.w (Ctx.jq ⟨c.σ,c.τ,c.μ.set id {t with live:=false,gen:=n+1},c.hid,c.w⟩) (.sl es) v:=by
   intro v hv;cases hv with
   |lK _ _ _ t2 sw hn h1 hv=>
    rw[ht]at sw;cases sw;rcases hv a1.symm with⟨lv,rfl⟩|⟨lv,rfl⟩
    refine yO.reads (hr.mu id t _ ht hm) lv (λ_=>rfl) (λp _=>?_) r2.kF;have su:=aY ht;refine⟨λh=>hr.sW t su lv p h,λh=>hr.ms t su lv h,λt3 h3 S5 e3=>absurd e3.symm (hr.mt t su lv t3 h3 S5),λt3 h3 S5 e3=>?_⟩;obtain⟨k,hk⟩:=bt h3;replace hk:(c.μ.set id {t with live:=false,gen:=n+1})[k]?=some t3:=hk;by_cases ek:k=id;subst ek;rw[bZ hid]at hk;cases hk;cases S5;rw[bP (λh=>ek h.symm)]at hk;exact ek (hr.md k id t3 t hk ht S5 lv e3)
    ·rcases a4 with⟨_,rfl⟩|⟨kj,_⟩
     exact .nil;rw[lv]at kj;cases kj
  have Ki:∀off len cap v,RV c (.vw id n off len cap) v->RG c.w (Ctx.jq ⟨c.σ,c.τ,c.μ.set id {t with live:=false,gen:=n+1},c.hid,c.w⟩) (.sl ((es.drop off).take len)) v:=by
   intro off len cap v hv;cases hv with
   |vw _ _ _ _ _ g t2 sw hn h1 h2 hv=>
    rw[ht]at sw;cases sw;obtain⟨lv,rfl,ls,l2⟩:=hv a1.symm;have Nj:=re (.slice (some ⟨t.g,0,none⟩) t.len t.cap) (.lK _ _ _ t ht hn rfl (λ_=>.inl ⟨lv,rfl⟩));have kl:∀x∈es,x.cells.length=t.size:=by
     rcases a4 with⟨kj,_⟩|⟨_,cur,b1,b2,b3,b4,b5,b6⟩
     rw[lv]at kj;cases kj;exact b5
    have:=Nj.sub kl h1 (by rw[<-a2];exact l2);have e1:off*t.size=off:=(by rw[ls,cU]);rw[e1]at this;exact this
  have xH:∀off len v,RV c (.qm id n off len) v->RG c.w (Ctx.jq ⟨c.σ,c.τ,c.μ.set id {t with live:=false,gen:=n+1},c.hid,c.w⟩) (.sl ((es.drop off).take len)) v:=by
   intro off len v hv;cases hv with
   |qm _ _ _ _ g xw cap t2 sw hn h1 h2 hv=>
    rw[ht]at sw;cases sw;obtain⟨lv,rfl,rfl,l2⟩:=hv a1.symm;have Nj:=re (.slice (some ⟨t.g,0,none⟩) t.len t.cap) (.lK _ _ _ t ht hn rfl (λ_=>.inl ⟨lv,rfl⟩));have kl:∀x∈es,x.cells.length=t.size:=by
     rcases a4 with⟨kj,_⟩|⟨_,cur,b1,b2,b3,b4,b5,b6⟩
     rw[lv]at kj;cases kj;exact b5
    exact Nj.alM kl h1 h2 (by rw[<-a2];exact l2)
 refine{r1 with len:=by rw[Mo];simpa using r1.len,bx:= ?_};intro i b cs hb kR;rw[Mo]at kR;simp only[bj,bh]at kR;obtain⟨ds,pO,rfl⟩:=kR;obtain⟨jJ,T,e1,e2,e3⟩:=hr.bx i b ds hb pO;refine⟨jJ,T,e1,by simpa using e2,λj p v hp hv=>?_⟩;simp only[bj,bh]at hp;obtain⟨q,hq,rfl⟩:=hp;exact⟨XQ r2 re Ki xH (e3 j q v hq hv).1,(e3 j q v hq hv).2⟩;exact λp v h=>XQ r2 re Ki xH h
end
section
variable{P:Program}{N:Nat}{Q:Exit->Env->PH->Prop}{env:Env}{H:PH}
variable{code:Code}{n:Nat}{es:List GV}
def jP(id:Nat){e:TypeId}(hm:H.mu[id]?=some (.arr n e es))(h:PW P N code Q (λt=>ue id n es (env t)) ⟨Gk id n es H.bx,H.tk,H.mu.set id (.gone (n+1))⟩):PW P N code Q env H:=by intro c a hr he;obtain⟨c',hw,r1,e1,r2⟩:=hr.freeze hm;have:=h c' a r1 ⟨he.defers.trans (aT Hid.d e1.hid).symm,he.size,λt=>r2 _ _ (he.slot t)⟩;rw[hw]at this;refine wp_mono this ?_;rintro x a' w' ⟨c2,env',H',q,rfl,kP,rX,mw⟩;exact⟨c2,env',H',q,rfl,kP,e1.trans rX,mw⟩
end
section
variable{P:Program}{o:Oper}{ρ:Operand->PV}{H:PH}
end
section
variable{P:Program}{o:Oper}{ρ:Operand->PV}{H:PH}
variable{i:Nat}
def Y0{α:Type}{l:List α}{x:α}(h:l[i]?=some x):l.set i x=l:=by refine eE λk=>?_;by_cases ek:k=i;subst ek;rw[h,bZ (aR.1 h).1];rw[bP (λe'=>ek e'.symm)]
variable{y:Operand}{es xs:List GV}{n size bytes:Nat}{z:Value}
def vg{x:Operand}{t e:TypeId}{id:Nat}(ho:o.op=.call {callee:=.builtin .append,args:=⟨[x,y]⟩,argTypes:=⟨[t,t]⟩})
  (ht:P.underlying t=some (.slice e)) (hs:kZ P e=some size) (yv:sF P e=some bytes) (hz:my P e=some z) (sP:Nat.beq z.cells.size size=true) (hx:ρ x=.lK id n) (hy:elems (ρ y)=some xs)
  (hm:H.mu[id]?=some (.arr n e es)) (vJ:∀x∈xs,x.cells.length=size) (mK:(es.length+xs.length)*bytes<=140737488355328) (se:es.length+xs.length<=maxLen):
  PO P o ρ H (.lK id (n+xs.length)) ⟨H.bx,H.tk,H.mu.set id (.arr (n+xs.length) e (es++xs))⟩:=by
 intro c ρr hr oH;have kf:=oH x (by simp[ho,Op.operands,Call.operands]);have pD:=tv (oH y (by simp[ho,Op.operands,Call.operands])) hy;rw[hx]at kf;have sP:=bl sP;obtain⟨i,hi⟩:∃i,P.info? e=some i:=by
  unfold kZ at hs;cases h:P.info? e with
  |none=>rw[h]at hs;cases hs|some i=>exact⟨i,rfl⟩
 have U6:i.size=size:=by unfold kZ at hs;rw[hi]at hs;simpa using hs
 have U7:i.bytes=bytes:=by unfold sF at yv;rw[hi]at yv;simpa using yv
 have QH:i.zero=some z:=by unfold my at hz;rw[hi]at hz;simpa using hz
 subst U6;subst U7
 generalize zd:ρr x=v at kf;generalize Kg:ρr y=u at pD;have pQ:(execOp ρr o).run P c.w=((Builtin.append_ #[t,t] o.type #[v,u]).run P c.w).andThen λr w=>.ok (.value r) w:=by simp[execOp,ho,resolve,invoke,builtin,zd,Kg]
 unfold kU;rw[pQ];cases kf with
 |lK _ _ _ tk lR hn Kf hv=>
 have mq:=hr.mu id tk _ lR hm;obtain⟨a1,a2,a3,a4⟩:=mq;have hid:=(aR.1 lR).1;have su:=aY lR;have wx:tk.size=i.size:=by rw[hi]at a3;simpa using a3.symm
 by_cases js:xs=[]
 ·subst js;have hu:u=.slice none 0 0∨∃a c',u=.slice (some a) 0 c':=by
   cases pD with
   |nil=>exact .inl rfl|sl _ a cap=>exact .inr ⟨a,cap,rfl⟩
  have kX:(Builtin.append_ #[t,t] o.type #[v,u]).run P c.w=.ok v c.w:=by
   rcases hv a1.symm with⟨lv,rfl⟩|⟨_,rfl⟩
   ·rcases a4 with⟨kj,_⟩|⟨_,cur,b1,b2,b3,b4,b5,b6⟩
    rw[lv]at kj;cases kj;exact py c.w ht hi _ _ _ (by rw[a2];exact b3) (.inr ⟨_,rfl⟩) u hu
   exact py c.w ht hi none 0 0 (aZ _) (.inl rfl) u hu
  rw[kX];refine⟨c,rfl,?_,kI.refl c,.lK id _ v tk lR hn Kf hv⟩;rw[cG];show Rel P c ⟨H.bx,H.tk,H.mu.set id (.arr n e es)⟩;rw[Y0 hm];exact hr
 ·obtain⟨a,m,news,rfl,ln,Bv,rZ,U9⟩:=rQ pD vJ js;have jX:0<xs.length:=gR.2 js;have fin:∀(w':World) (t':oZ) (olds rest:List Value) (cur:Array Value),
    t'.size=i.size->t'.gen=n+xs.length->t'.len=es.length+xs.length->t'.live=true->w'.os=c.w.os->(w'.tape=c.w.tape∧(xv->c.w.drawn<=w'.drawn))->w'.output=c.w.output->c.w.heap.size<=w'.heap.size->
    (∀b,b<c.w.heap.size->(tk.live=true->b≠tk.g)->w'.heap[b]?=c.w.heap[b]?)->((tk.live=true∧t'.g=tk.g)∨(c.w.heap.size<=t'.g∧t'.g<w'.heap.size))->
    w'.heap[t'.g]?=some (.cells cur e (0,0))->cur=(olds++news++rest).toArray->cur.size=t'.cap*i.size->t'.cap<=maxLen->es.length+xs.length<=t'.cap->olds.length=es.length*i.size->(∀x∈es,x.cells.length=i.size)->
    (∀(k:Nat) (x:GV) (j:Nat) (g:GV) (v:Value),es[k]?=some x->x.cells[j]?=some g->olds[k*i.size+j]?=some v->RG c.w c.jq g v∧v.oneCell'=true)->
    ∃c':Ctx,c'.w=w'∧Rel P c' ⟨H.bx,H.tk,H.mu.set id (.arr (n+xs.length) e (es++xs))⟩∧kI c c'∧RV c' (.lK id (n+xs.length)) (.slice (some ⟨t'.g,0,none⟩) (es.length+xs.length) t'.cap):=by
   intro w' t' olds rest cur e2 e3 e4 e5 o1 o2 o3 o4 o5 o7 hh ug kR ud uJ lo G4 C0;obtain⟨g1,g2⟩:=hr.FZ lR (t':=t') (o':=.arr (n+xs.length) e (es++xs)) (by rw[e2,wx]) (.inr ab) o1 o2 o3 o4 o5 (λ_=>o7) (λhE=>by
    refine⟨e3,by rw[e4];simp,by rw[e2,hi];rfl,.inr ⟨e5,cur,hh,by rw[e2];exact kR,by simpa using uJ,ud,?_,?_⟩⟩
    ·intro x hx;rw[e2];rcases bC.1 hx with h|h
     exact G4 x h;exact vJ x h
    ·intro k x j g v hx hg pr;rw[e2,ug]at pr;simp only[dV]at pr;have yT:=(aR.1 hg).1;by_cases hk:k<es.length
     ·rw[a8 hk]at hx;rw[G4 x (aY hx)]at yT;have iI:k*i.size+j<olds.length:=by
       have h1:(k+1)*i.size<=es.length*i.size:=bg _ hk;rw[bB,c8]at h1;omega
      rw[bV,a8 iI]at pr;exact⟨(C0 k x j g v hx hg pr).1.mono hE.kF,(C0 k x j g v hx hg pr).2⟩
     ·rw[a7 ab]at hx;have n9:=(aR.1 hx).1;rw[vJ x (aY hx)]at yT;have pI:k*i.size=es.length*i.size+(k-es.length)*i.size:=(by rw[<-bB];congr 1;omega);have iI:(k-es.length)*i.size+j<news.length:=by
       have h1:(k-es.length+1)*i.size<=xs.length*i.size:=bg _ n9;rw[bB,c8]at h1;omega
      rw[bV,a7 ab,a8 ab,show k*i.size+j-olds.length=(k-es.length)*i.size+j by omega]at pr;exact⟨(U9 (k-es.length) x j g v hx hg pr).mono hE.kF,rZ v (aY pr)⟩)
   refine⟨_,rfl,g1,g2,.lK id _ _ t' (bZ hid) ab rfl (λ_=>.inl ⟨e5,by rw[e4]⟩)⟩
  rcases hv a1.symm with⟨lv,rfl⟩|⟨lv,rfl⟩
  ·rcases a4 with⟨kj,_⟩|⟨_,cur,b1,b2,b3,b4,b5,b6⟩
   rw[lv]at kj;cases kj
   ·rw[a2];rw[wx]at b2 b5;have hle:es.length*i.size<=cur.size:=(by rw[b2];exact bg _ b3);have lo:(cur.toList.take (es.length*i.size)).length=es.length*i.size:=ad;have C0:∀(k:Nat) (x:GV) (j:Nat) (g:GV) (v:Value),es[k]?=some x->x.cells[j]?=some g->(cur.toList.take (es.length*i.size))[k*i.size+j]?=some v->RG c.w c.jq g v∧v.oneCell'=true:=by
     intro k x j g v hx hg pr;rw[bq]at pr;split at pr;have:=b6 k x j g v hx hg (by rw[wx];simpa using pr);exact this;cases pr
    by_cases ll:es.length+xs.length<=tk.cap
    ·have z6:es.length*i.size+news.length<=cur.size:=by
      rw[ln,b2,<-bB];exact bg _ ll
     rw[run_append_room c.w t o.type e i ht hi tk.g es.length tk.cap cur b1 a xs.length m news ln Bv rZ ll z6];have:=fin (c.w.setRow tk.g (cur.toList.take (es.length*i.size)++news++cur.toList.drop (es.length*i.size+news.length)).toArray) {tk with gen:=n+xs.length,len:=es.length+xs.length} (cur.toList.take (es.length*i.size)) (cur.toList.drop (es.length*i.size+news.length)) _ wx rfl rfl lv rfl ⟨rfl,λ_=>by first|exact aZ _|exact fc _⟩ rfl aa (λb hb h=>setRow_other c.w tk.g b _ (h lv)) (.inl ⟨lv,rfl⟩) (setRow_heap c.w tk.g cur _ e (0,0) b1) rfl ?_ b4 ll lo b5 C0;exact this;simp only[ga,bd,lo,eY,fA];rw[b2]at z6⊢;show _=tk.cap*i.size;omega
    ·have hg:tk.cap<es.length+xs.length:=ab;have QI:((es.length+xs.length:Nat):Int)<=9223372036854775807:=(by simp only[maxLen]at se;omega);have DO:∀j v,(cur.toList.take (es.length*i.size))[j]?=some v->c.w.cell? ((⟨tk.g,0,none⟩:Addr).add j)=some v:=by
      intro j v hj;rw[bq]at hj;split at hj;rw[add_eq _ _ rfl];rw[show((⟨tk.g,0,none⟩:Addr).off+j)=j by simp];show c.w.cell? ⟨tk.g,j,none⟩=some v;rw[cell_of_row c.w tk.g j cur e (0,0) b1];simpa using hj;cases hj
     rw[run_append_grow c.w t o.type e i z ht hi QH ⟨tk.g,0,none⟩ es.length tk.cap (cur.toList.take (es.length*i.size)) lo DO a xs.length m news ln Bv hg QI (growslice_fits hg mK)];have sC:=grownCap_ge c.w (es.length+xs.length) tk.cap e;have:=fin (c.w.drew.alloc (.cells ((cur.toList.take (es.length*i.size)).toArray++news.toArray++Builtin.zeroCells z.cells (grownCap c.w (es.length+xs.length) tk.cap e-(es.length+xs.length))) e)) ⟨true,c.w.heap.size,i.size,n+xs.length,es.length+xs.length,grownCap c.w (es.length+xs.length) tk.cap e⟩ (cur.toList.take (es.length*i.size)) (Builtin.zeroCells z.cells (grownCap c.w (es.length+xs.length) tk.cap e-(es.length+xs.length))).toList _ rfl rfl rfl rfl rfl ⟨rfl,λ_=>by first|exact aZ _|exact fc _⟩ rfl aa (λb hb _=>Go.heap_alloc_old c.w.drew _ b hb) (.inr ⟨aZ _,by simp⟩) (Go.heap_alloc_new c.w.drew _) aa ?_ (grownCap_le_maxLen _ _ _ _ se) sC lo b5 C0;exact this;simp only[ib,ga,size_zeroCells,sP,lo,ln];rw[<-bB,<-bB];congr 1;omega
  ·have XG:es=[]:=by
    rcases a4 with⟨_,h⟩|⟨kj,_⟩
    exact h;rw[lv]at kj;cases kj
   subst XG;have QI:(xs.length:Int)<=9223372036854775807:=(by simp only[maxLen,bH]at se;omega);have z6:xs.length*i.bytes<=140737488355328:=(by simpa using mK);rw[run_append_nil c.w t o.type e i z ht hi QH a xs.length m news ln Bv jX QI ab];have sC:=grownCap_ge c.w xs.length 0 e;have:=fin (c.w.drew.alloc (.cells (news.toArray++Builtin.zeroCells z.cells (grownCap c.w xs.length 0 e-xs.length)) e)) ⟨true,c.w.heap.size,i.size,n+xs.length,xs.length,grownCap c.w xs.length 0 e⟩ [] (Builtin.zeroCells z.cells (grownCap c.w xs.length 0 e-xs.length)).toList _ rfl rfl aa rfl rfl ⟨rfl,λ_=>by first|exact aZ _|exact fc _⟩ rfl aa (λb hb _=>Go.heap_alloc_old c.w.drew _ b hb) (.inr ⟨aZ _,by simp⟩) (Go.heap_alloc_new c.w.drew _) aa (by simp only[ib,ga,size_zeroCells,sP,ln];rw[<-bB];congr 1;omega) (grownCap_le_maxLen _ _ _ _ (by simpa using se)) (by simpa using sC) aa aa aa;simpa using this
end
section
variable{P:Program}{o:Oper}{env:Env}{H:PH}{K:List Nat}
variable{n e len:Nat}
def af5{x:Option MO}(h:M0 x=some (1,n,e,len)):∃es,x=some (.arr n e es)∧es.length=len:=by unfold M0 at h;split at h;cases h;cases h;cases h;exact⟨_,rfl,rfl⟩;cases h;cases h
def rA.set{id n e:Nat}{es o8:List GV}(hm:H.mu[id]?=some (.arr n e es))(hl:o8.length=es.length):∀K:List Nat,rA K H ⟨H.bx,H.tk,H.mu.set id (.arr n e o8)⟩
 |[]=>trivial
 |b::K=>by
  refine⟨?_,rA.set hm hl K⟩;unfold GZ;cases Nat.ble 30000 b
  ·cases Nat.ble 20000 b;cases Nat.ble 10000 b;trivial;simp only[cr,de];by_cases h:b-10000=id;rw[h,hm,bZ (aR.1 hm).1];simp[M0,hl];rw[bP (λe=>h e.symm)];rfl
  trivial
def rA.arr{H1:PH}(h:rA K H H1){id n e len:Nat}(hK:nv K (10000+id)=true)(Fw:Nat.ble 10000 id=false)(hm:M0 H.mu[id]?=some (1,n,e,len)):∃es,H1.mu[id]?=some (.arr n e es)∧es.length=len:=
 af5 ((h.at id (nQ.1 hK) Fw).symm.trans hm)
variable{y:Operand}{m:Nat}
def wH{x:Operand}{t e e':TypeId}{id:Nat}{k:IntKind}{i:Int}(hK:nv K (10000+id)=true)(ho:o.op=.indexAddr t x y)(ht:P.underlying t=some (.slice e))(hs:kZ P e=some m)(lY:env.eval x=.lK id n)(hi:env.eval y=.g (.int k i))
  (hm:M0 H.mu[id]?=some (1,n,e',len)) (he:kZ P e'=some m) (h0:0<=i) (iI:i<len) (Fw:Nat.ble 10000 id=false:=by rfl):lS P K o env H (.kE id n i.toNat 0) H:=
 J0 (hk:=by rw[ho];rfl) λH1 hq=>by obtain⟨es,h1,h2⟩:=hq.arr hK Fw hm;exact kO ho ht hs lY hi h1 he h0 (by rw[h2];exact iI)
def xI{x:Operand}{t e e':TypeId}{id:Nat}(hK:nv K (10000+id)=true)(ho:o.op=.call {callee:=.builtin .len,args:= #[x],argTypes:= #[t]})(ht:P.underlying t=some (.slice e))(lY:env.eval x=.lK id n)(hm:M0 H.mu[id]?=some (1,n,e',len))(Fw:Nat.ble 10000 id=false:=by rfl):
  lS P K o env H (.g (.int .i64 len)) H:=
 J0 (hk:=by rw[ho];rfl) λH1 hq=>by obtain⟨es,h1,h2⟩:=hq.arr hK Fw hm;rw[<-h2];exact Gj ho ht lY h1
variable{i off:Nat}{es:List GV}{x':GV}
def lU{t:TypeId}{x:Operand}{id:Nat}{e:TypeId}{g:GV}(hK:nv K (10000+id)=true)(ho:o.op=.load t x)(h1:qY P t=some false)(hp:env.eval x=.kE id n i off)
  (hm:H.mu[id]?=some (.arr n e es)) (lY:es[i]?=some x') (hg:x'.cells[off]?=some g) (Fw:Nat.ble 10000 id=false:=by rfl) (hf:zH K o=false:=by rfl):lS P K o env H (.g g) H:=
 J1 (λH1 hq=>yw ho h1 hp ((hq.mu id (nQ.1 hK) Fw)▸hm) lY hg) (by rw[ho];rfl) hf
variable{ps:List PV}
def tP{t:TypeId}{x:Operand}{id:Nat}{e:TypeId}{cs:List GV}(ho:o.op=.store t x y)(hs:kZ P t=some m)(hp:env.eval x=.kE id n i off)(hc:kc (env.eval y)=some ps)(hg:yz ps=some cs)(hn:cs.length=m)(jX:0<m)
  (hm:H.mu[id]?=some (.arr n e es)) (lY:es[i]?=some x') (mK:off+m<=x'.cells.length) (hf:JL K o=true:=by rfl):
  lS P K o env H mW ⟨H.bx,H.tk,H.mu.set id (.arr n e (es.set i (setCells x' off cs)))⟩:=
 XK (iP ho hs hp hc hg hn jX hm lY mK) (rA.set hm aa K) (by rw[ho];rfl) hf
end
def B6{nb nt nm:Nat}:∀{l:List (Nat×PV)},r8 nb nt nm (l.map (·.2))=true->∀t,lu nb nt nm (iL l t)
 |[],_,t=>by simp only[iL];exact .any|(k,p)::r,h,t=>by simp only[dx,r8,bI]at h;simp only[iL];cases Nat.beq t k;rw[de];exact B6 h.2 t;rw[cr];exact tO h.1
section
variable{P:Program}{N:Nat}{Q:Exit->Env->PH->Prop}{env:Env}{H:PH}
def lq(P:Program)(H1 H':PH):Prop:= ∃x y z,kW P H1 ⟨H'.bx++x,H'.tk++y,H'.mu++z⟩
variable{H1 H':PH}
def lq.mk(x:List (List PV))(y:List (TypeId×Nat))(z:List MO)(h:H1=⟨H'.bx++x,H'.tk++y,H'.mu++z⟩):lq P H1 H':=⟨x,y,z,kW.of_eq h⟩
def Vd(H H':PH)(E:List (Nat×PV)):Bool:=
 Nat.ble H.bx.length H'.bx.length&&(Nat.ble H.tk.length H'.tk.length&&(Nat.ble H.mu.length H'.mu.length&&(r8 H'.bx.length H'.tk.length H'.mu.length (E.map (·.2))&&yi H'.bx.length H'.tk.length H'.mu.length H'.bx)))
variable{c:Ctx}{H2:PH}{a:Act}
def Y1{c2:Ctx}{E:List (Nat×PV)}{Ga:Env}(hr:Rel P c H)(hf:Vd H H' E=true)(nh:Rel P c2 H2)(hE:kI c c2)(he:ER c2 N Ga a)(hle:qX Ga (iL E))(hd:lq P H2 H'):
  ∃c3,c3.w=c2.w∧Rel P c3 H'∧kI c c3∧ER c3 N (iL E) a:=by
 unfold Vd at hf;simp only[bI]at hf;obtain⟨f1,f2,f3,f4,f5⟩:=hf;obtain⟨x,y,z,hx⟩:=hd;have OL:=hx c2 nh;have he3:=hle.er he;refine⟨c2.cut H'.bx.length H'.tk.length H'.mu.length,rfl,OL.cut ⟨x,rfl⟩ ⟨y,rfl⟩ ⟨z,rfl⟩ (qq f5),hE.cut ?_ ?_ ?_,⟨he3.defers,he3.size,λt=>(he3.slot t).cut (B6 f4 t)⟩⟩;rw[hr.len];exact bz f1;have:=aT List.length hr.tk;simp at this;have:=bz f2;omega;rw[hr.nq];exact bz f3
variable{body:Code}
def jK{S:Type}(E:S->List (Nat×PV))(F:S->PH)(Inv:S->Prop)(μ:S->Nat)(s0:S)(hi:Inv s0)(h1:qX env (iL (E s0)))(h2:kW P H (F s0))(hf:∀s,Vd H (F s) (E s)=true)
  (round:∀s,Inv s->PW P N body (Next (λenv' H'=>∃s',Inv s'∧μ s'<μ s∧qX env' (iL (E s'))∧lq P H' (F s')) Q) (iL (E s)) (F s)):PW P N (.loop body) Q env H:=by
 intro c a hr he;refine wp_loop_ghost (λn a w=>∃s c',Inv s∧μ s=n∧c'.w=w∧Rel P c' (F s)∧kI c c'∧ER c' N (iL (E s)) a) (μ s0) ⟨s0,c,hi,rfl,rfl,h2 c hr,kI.refl c,h1.er he⟩ ?_;rintro n a w ⟨s,c1,aeN,rfl,rfl,nV,qT,he1⟩;refine wp_mono (round s aeN c1 a nV he1) ?_;rintro e a' w' ⟨c2,Ga,H2,q,rfl,nh,JE,MU⟩;cases e<;>simp only[Next]at q<;>simp only[Exit.then];case normal=>
  obtain⟨s',lk,iI,e1,e2⟩:=q;obtain⟨c3,w3,r3,v3,x3⟩:=Y1 hr (hf s') nh (qT.trans JE) MU e1 e2;exact⟨μ s',iI,s',c3,lk,rfl,w3,r3,v3,x3⟩
 all_goals exact⟨c2,Ga,H2,q,rfl,nh,qT.trans JE,MU⟩
end
section
variable{P:Program}{o:Oper}{ρ:Operand->PV}{H:PH}
variable{t n e size:Nat}{parts:Array (Nat×Operand)}{z:Value}{b:Bool}{cs:List PV}
def wU{gs:List GV}(ho:o.op=.buildSlice t n parts)(he:P.underlying t=some (.slice e))(hs:kZ P e=some size)(_ha:qY P e=some b)
  (hz:my P e=some z) (uc:z.cells.toList.all (·.oneCell')=true) (sP:Nat.beq z.cells.size size=true) (jX:Nat.ble 1 size=true) (hb:(b||Nat.beq size 1)=true) (hn:Nat.ble (n*size) 16777216=true)
  (zY:q8 (λi=>some (i*size,size)) (rD z n) (sD ρ parts.toList)=some cs) (hg:yz cs=some gs):PO P o ρ H (.own (group b size n gs) H.tk.length) ⟨H.bx,H.tk++[(e,n)],H.mu⟩:=by
 intro c ρr hr hx;have sP:=bl sP;have jX:=bz jX;have hn:=bz hn;subst sP;obtain⟨vs,lI,vI⟩:=Cn (c:=c) (sD ρ parts.toList) ((parts.map fun(i,x)=>(i,ρr x)).toList) (rD z n) _ cs (Hr c uc jX n) (by simp[qe]) (by intro k x y kf hy;rw[qe]at kf;simp only[bj,bh,gN]at kf hy;obtain⟨q,hq,rfl⟩:=kf;obtain⟨q',qH,rfl⟩:=hy;rw[hq]at qH;cases qH;exact⟨rfl,hx q.2 (by rw[ho];simpa[Op.operands]using⟨q.1,by simpa using aY hq⟩)⟩) zY;have lI:Instr.fill (λi=>some (i*z.cells.size,z.cells.size)) ((Array.range (n*z.cells.size)).map (z.cells[· %z.cells.size]!)) (List.map (λx=>(x.1,ρr x.2)) parts.toList)=some vs:=by simpa using lI
 have kX:(execOp ρr o).run P c.w=.ok (.value (.slice (some ⟨c.w.heap.size,0,none⟩) n n)) (c.w.alloc (.cells vs e)):=by
  have js:¬(n*z.cells.size>2^24):=by simp only[Nat.reducePow];omega
  by_cases h0:n*z.cells.size=0
  ·obtain rfl:n=0:=by
    rcases Nat.mul_eq_zero.1 h0 with h|h
    exact h;omega
   have e0:∀f:Nat->Value,(Array.range (0*z.cells.size)).map f= #[]:=λf=>aa;rw[e0]at lI;have e1:Array.map (λ_:Nat=>(default:Value)) (Array.range 0)= #[]:=aa;simp[execOp,ho,Instr.buildSlice,run_underlying he,run_sizeOf hs,newRow,newObj,e1,lI,Sem.run]
  simp[execOp,ho,Instr.buildSlice,run_underlying he,run_sizeOf hs,js,h0,qL hz,newRow,newObj,lI,Sem.run]
 unfold kU;rw[kX];have mC:gs.length=vs.size:=by rw[(qM (c:=c) hg).1,vI.1]
 have kR:∀(k:Nat) (g:GV) (v:Value),gs[k]?=some g->vs[k]?=some v->RG c.w c.jq g v∧v.oneCell'=true:=by
  intro k g v DK zM;have iI:k<cs.length:=by rw[<-(qM (c:=c) hg).1];exact(aR.1 DK).1
  obtain⟨r1,r2⟩:=vI.2 k cs[k] v (aS iI) zM;exact⟨(qM (c:=c) hg).2 k g cs[k] DK (aS iI) v r1,r2⟩
 have zA:vs.size=n*z.cells.size:=by
  rw[vI.1];have:∀(ps:List (Nat×PV)) (l l':List PV),q8 (λi=>some (i*z.cells.size,z.cells.size)) l ps=some l'->l'.length=l.length:=by
   intro ps;induction ps with
   |nil=>intro l l' h;simp[q8]at h;rw[h]
   |cons p ps ih=>
    obtain⟨i,p⟩:=p;intro l l' h;unfold q8 at h;split at h
    ·rename_i off n' ds p8 pO;cases hb:(Nat.beq ds.length n'&&Nat.ble (off+n') l.length)with
     |false=>rw[hb]at h;cases h
     |true=>
      rw[hb,cr]at h;rw[ih _ _ h];simp only[bI]at hb;have e1:=bl hb.1;have e2:=bz hb.2;simp[qF];omega
    cases h
  rw[this _ _ _ zY,rj]
 have jE:b=false->z.cells.size=1∧∀g∈gs,g.cells=[g]:=λe=>by
  subst e;refine⟨bl (by simpa using hb),λg sX=>?_⟩;obtain⟨k,hk⟩:=bt sX;have iI:k<vs.size:=by rw[<-mC];exact(aR.1 hk).1
  obtain⟨r1,r2⟩:=kR k g vs[k] hk (by simp[iI]);exact r1.cells_one r2
 have hlen:(group b z.cells.size n gs).length=n:=sE n gs b (λe=>(jE e).1) (by rw[mC,zA]);have ny:=xF n gs b jE (by rw[mC,zA]);have hle:n<=n*z.cells.size:=gj _ jX;obtain⟨kP,hE⟩:=hr.Xz (Ext.alloc c.w (.cells vs e)) (t:=⟨true,c.w.heap.size,e,z.cells.size,n,n⟩) rfl (aZ _) (Go.heap_alloc_new c.w _) zA (aZ _) (by simp only[maxLen];omega) hs;have hR:RG (c.w.alloc (.cells vs e)) (Ctx.jq ⟨c.σ,c.τ++[⟨true,c.w.heap.size,e,z.cells.size,n,n⟩],c.μ,c.hid,c.w.alloc (.cells vs e)⟩) (.sl (group b z.cells.size n gs)) (.slice (some ⟨c.w.heap.size,0,none⟩) n n):=by
  have:=Ka (w:=c.w.alloc (.cells vs e)) (S:=Ctx.jq ⟨c.σ,c.τ++[⟨true,c.w.heap.size,e,z.cells.size,n,n⟩],c.μ,c.hid,c.w.alloc (.cells vs e)⟩) (es:=group b z.cells.size n gs) (size:=z.cells.size) (cap:=n) (Go.heap_alloc_new c.w _) (λi x hx=>(ny i x hx).1) ab (by simp only[maxLen];omega) (by rw[hlen,zA];exact aZ _) (λp hp=>by
   rw[hlen]at hp;refine⟨λh=>?_,λh=>?_,λt ht lv e'=>?_,λt ht lv e'=>?_⟩;have:=hr.nu _ _ h;omega;have:=hr.pB _ h;omega
   ·rcases bC.1 ht with ht|ht
    have:=hr.Bd ht lv;omega;simp only[db]at ht;subst ht;exact hp
   have:=hr.mlt t ht lv;omega) (λk hk=>?_) (λi x j g v hx sX hv=>?_)
  rw[hlen]at this;exact this;rw[hlen,<-zA]at hk;refine⟨vs[k],by simp[hk],?_⟩;have yt:k<gs.length:=(by rw[mC];exact hk);exact(kR k gs[k] vs[k] (aS yt) (by simp[hk])).2;exact(kR _ g v ((ny i x hx).2 j g sX) hv).1.mono hE.kF
 refine⟨_,rfl,kP,hE,.own _ _ _ ⟨true,c.w.heap.size,e,z.cells.size,n,n⟩ hR ?_ (λi x hx=>(ny i x hx).1) (fJ hlen) (λ_=>.inl ⟨rfl,by rw[hlen]⟩)⟩;show(c.τ++[_])[H.tk.length]?=_;have:c.τ.length=H.tk.length:=by rw[<-hr.tk];simp
 rw[<-this];simp
end
section
variable{P:Program}{o:Oper}{ρ:Operand->PV}{H:PH}
variable{t n e size:Nat}{parts:Array (Nat×Operand)}{z:Value}{b:Bool}{cs:List PV}
def pJ{gs:List GV}(ho:o.op=.buildSlice t n parts)(he:P.underlying t=some (.slice e))(hs:kZ P e=some size)(_ha:qY P e=some b)
  (hz:my P e=some z) (uc:z.cells.toList.all (·.oneCell')=true) (sP:Nat.beq z.cells.size size=true) (jX:Nat.ble 1 size=true) (hb:(b||Nat.beq size 1)=true) (hn:Nat.ble (n*size) 16777216=true)
  (zY:q8 (λi=>some (i*size,size)) (rD z n) (sD ρ parts.toList)=some cs) (hg:yz cs=some gs):PO P o ρ H (.lit (group b size n gs)) H:=by
 intro c ρr hr hx;have sP:=bl sP;have jX:=bz jX;have hn:=bz hn;subst sP;obtain⟨vs,lI,vI⟩:=Cn (c:=c) (sD ρ parts.toList) ((parts.map fun(i,x)=>(i,ρr x)).toList) (rD z n) _ cs (Hr c uc jX n) (by simp[qe]) (by intro k x y kf hy;rw[qe]at kf;simp only[bj,bh,gN]at kf hy;obtain⟨q,hq,rfl⟩:=kf;obtain⟨q',qH,rfl⟩:=hy;rw[hq]at qH;cases qH;exact⟨rfl,hx q.2 (by rw[ho];simpa[Op.operands]using⟨q.1,by simpa using aY hq⟩)⟩) zY;have lI:Instr.fill (λi=>some (i*z.cells.size,z.cells.size)) ((Array.range (n*z.cells.size)).map (z.cells[· %z.cells.size]!)) (List.map (λx=>(x.1,ρr x.2)) parts.toList)=some vs:=by simpa using lI
 have kX:(execOp ρr o).run P c.w=.ok (.value (.slice (some ⟨c.w.heap.size,0,none⟩) n n)) (c.w.alloc (.cells vs e)):=by
  have js:¬(n*z.cells.size>2^24):=by simp only[Nat.reducePow];omega
  by_cases h0:n*z.cells.size=0
  ·obtain rfl:n=0:=by
    rcases Nat.mul_eq_zero.1 h0 with h|h
    exact h;omega
   have e0:∀f:Nat->Value,(Array.range (0*z.cells.size)).map f= #[]:=λf=>aa;rw[e0]at lI;have e1:Array.map (λ_:Nat=>(default:Value)) (Array.range 0)= #[]:=aa;simp[execOp,ho,Instr.buildSlice,run_underlying he,run_sizeOf hs,newRow,newObj,e1,lI,Sem.run]
  simp[execOp,ho,Instr.buildSlice,run_underlying he,run_sizeOf hs,js,h0,qL hz,newRow,newObj,lI,Sem.run]
 unfold kU;rw[kX];obtain⟨kP,hE⟩:=hr.grow (Ext.alloc c.w (.cells vs e));have mC:gs.length=vs.size:=by rw[(qM (c:=c) hg).1,vI.1]
 have kR:∀(k:Nat) (g:GV) (v:Value),gs[k]?=some g->vs[k]?=some v->RG c.w c.jq g v∧v.oneCell'=true:=by
  intro k g v DK zM;have iI:k<cs.length:=by rw[<-(qM (c:=c) hg).1];exact(aR.1 DK).1
  obtain⟨r1,r2⟩:=vI.2 k cs[k] v (aS iI) zM;exact⟨(qM (c:=c) hg).2 k g cs[k] DK (aS iI) v r1,r2⟩
 have zA:vs.size=n*z.cells.size:=by
  rw[vI.1];have:∀(ps:List (Nat×PV)) (l l':List PV),q8 (λi=>some (i*z.cells.size,z.cells.size)) l ps=some l'->l'.length=l.length:=by
   intro ps;induction ps with
   |nil=>intro l l' h;simp[q8]at h;rw[h]
   |cons p ps ih=>
    obtain⟨i,p⟩:=p;intro l l' h;unfold q8 at h;split at h
    ·rename_i off n' ds p8 pO;cases hb:(Nat.beq ds.length n'&&Nat.ble (off+n') l.length)with
     |false=>rw[hb]at h;cases h
     |true=>
      rw[hb,cr]at h;rw[ih _ _ h];simp only[bI]at hb;have e1:=bl hb.1;have e2:=bz hb.2;simp[qF];omega
    cases h
  rw[this _ _ _ zY,rj]
 have jE:b=false->z.cells.size=1∧∀g∈gs,g.cells=[g]:=λe=>by
  subst e;refine⟨bl (by simpa using hb),λg sX=>?_⟩;obtain⟨k,hk⟩:=bt sX;have iI:k<vs.size:=by rw[<-mC];exact(aR.1 hk).1
  obtain⟨r1,r2⟩:=kR k g vs[k] hk (by simp[iI]);exact r1.cells_one r2
 have hlen:(group b z.cells.size n gs).length=n:=sE n gs b (λe=>(jE e).1) (by rw[mC,zA]);have ny:=xF n gs b jE (by rw[mC,zA]);have hR:RG (c.w.alloc (.cells vs e)) (Ctx.jq ⟨c.σ,c.τ,c.μ,c.hid,c.w.alloc (.cells vs e)⟩) (.sl (group b z.cells.size n gs)) (.slice (some ⟨c.w.heap.size,0,none⟩) (group b z.cells.size n gs).length (group b z.cells.size n gs).length):=by have:=Ka (w:=c.w.alloc (.cells vs e)) (S:=Ctx.jq ⟨c.σ,c.τ,c.μ,c.hid,c.w.alloc (.cells vs e)⟩) (es:=group b z.cells.size n gs) (size:=z.cells.size) (cap:=n) (Go.heap_alloc_new c.w _) (λi x hx=>(ny i x hx).1) ab (by have:n<=n*z.cells.size:=gj _ jX;simp only[maxLen];omega) (by rw[hlen,zA];exact aZ _) (λp _=>H5 hr (aZ _) p) (λk hk=>?_) (λi x j g v hx sX hv=>?_);rw[hlen]at this⊢;exact this;rw[hlen,<-zA]at hk;refine⟨vs[k],by simp[hk],?_⟩;have yt:k<gs.length:=(by rw[mC];exact hk);exact(kR k gs[k] vs[k] (aS yt) (by simp[hk])).2;exact(kR _ g v ((ny i x hx).2 j g sX) hv).1.mono hE.kF
 have hv:RV ⟨c.σ,c.τ,c.μ,c.hid,c.w.alloc (.cells vs e)⟩ (.lit (group b z.cells.size n gs)) (.slice (some ⟨c.w.heap.size,0,none⟩) n n):=by have:=RV.lit (c:=⟨c.σ,c.τ,c.μ,c.hid,c.w.alloc (.cells vs e)⟩) _ _ hR;rw[hlen]at this;exact this
 exact⟨_,rfl,kP,hE,hv⟩
variable{y:Operand}{es xs:List GV}{bytes:Nat}
def tL{x:Operand}{t e:TypeId}(ho:o.op=.call {callee:=.builtin .append,args:=⟨[x,y]⟩,argTypes:=⟨[t,t]⟩})
  (ht:P.underlying t=some (.slice e)) (hs:kZ P e=some size) (yv:sF P e=some bytes) (hz:my P e=some z) (sP:Nat.beq z.cells.size size=true) (hx:ρ x=.lit es) (hy:elems (ρ y)=some xs)
  (G4:∀x∈es,x.cells.length=size) (vJ:∀x∈xs,x.cells.length=size) (jX:0<xs.length) (mK:(es.length+xs.length)*bytes<=140737488355328) (se:es.length+xs.length<=maxLen):
  PO P o ρ H (.own (es++xs) H.tk.length) ⟨H.bx,H.tk++[(e,es.length+xs.length)],H.mu⟩:=by
 intro c ρr hr oH;have kf:=oH x (by simp[ho,Op.operands,Call.operands]);have pD:=tv (oH y (by simp[ho,Op.operands,Call.operands])) hy;rw[hx]at kf;by_cases IM:ρr x=.slice none 0 0∧es=[]
 ·obtain⟨IM,rfl⟩:=IM;haveI:DecidableEq Operand:=λa b=>Classical.propDecidable (a=b);have OH:c.τ.length=H.tk.length:=by have:=aT List.length hr.tk;simpa using this
  obtain⟨r2,e2⟩:=hr.Gi (e:=e) hs;have q:=Az (o:=o) (ρ:=λq=>if q=x then .own [] H.tk.length else ρ q) (H:=⟨H.bx,H.tk++[(e,0)],H.mu⟩) (es:=[]) (xs:=xs) (id:=H.tk.length) (n:=0) ho ht hs yv hz sP (aW rfl) (by
    by_cases hq:y=x;subst hq;rw[hx]at hy;have h0:xs=[]:=(by simpa[elems]using hy.symm);subst h0;simp at jX;simp only[aV hq];exact hy) aa rfl vJ (by simpa using mK) (by simpa using se) _ ρr r2 (by
    intro q hq;by_cases hqx:q=x;subst hqx;simp only[gF];rw[IM];exact .own [] H.tk.length _ ⟨false,0,e,size,0,0⟩ .nil (by rw[<-OH];simp) aa (aZ _) (λ_=>.inr ⟨rfl,rfl⟩);simp only[aV hqx];exact(oH q hq).mono e2)
  have lG:(H.tk++[(e,0)]).set H.tk.length (e,0+xs.length)=H.tk++[(e,([]:List GV).length+xs.length)]:=aa
  rw[lG]at q;have key:∀(rv:Value) (w':World),(∃c',c'.w=w'∧Rel P c' ⟨H.bx,H.tk++[(e,([]:List GV).length+xs.length)],H.mu⟩∧kI ⟨c.σ,c.τ++[⟨false,0,e,size,0,0⟩],c.μ,c.hid,c.w⟩ c'∧RV c' (.own ([]++xs) H.tk.length) rv)->∃c',c'.w=w'∧Rel P c' ⟨H.bx,H.tk++[(e,([]:List GV).length+xs.length)],H.mu⟩∧kI c c'∧RV c' (.own ([]++xs) H.tk.length) rv:=by rintro rv w' ⟨c',rfl,kP,rX,hv⟩;exact⟨c',rfl,kP,e2.trans rX,hv⟩
  unfold kU at q⊢;have pQ:(execOp ρr o).run P c.w=((Builtin.append_ #[t,t] o.type #[ρr x,ρr y]).run P c.w).andThen λr w=>.ok (.value r) w:=by simp[execOp,ho,resolve,invoke,builtin]
  have aeW:(execOp ρr o).run P (⟨c.σ,c.τ++[⟨false,0,e,size,0,0⟩],c.μ,c.hid,c.w⟩:Ctx).w=((Builtin.append_ #[t,t] o.type #[ρr x,ρr y]).run P c.w).andThen λr w=>.ok (.value r) w:=pQ;rw[aeW]at q;rw[pQ];revert q;cases(Builtin.append_ #[t,t] o.type #[ρr x,ρr y]).run P c.w with
  |ok rv w'=>exact key rv w'
  |_=>exact λh=>h
 have sP:=bl sP;obtain⟨i,hi⟩:∃i,P.info? e=some i:=by
  unfold kZ at hs;cases h:P.info? e with
  |none=>rw[h]at hs;cases hs|some i=>exact⟨i,rfl⟩
 have U6:i.size=size:=by unfold kZ at hs;rw[hi]at hs;simpa using hs
 have U7:i.bytes=bytes:=by unfold sF at yv;rw[hi]at yv;simpa using yv
 have QH:i.zero=some z:=by unfold my at hz;rw[hi]at hz;simpa using hz
 subst U6;subst U7
 generalize zd:ρr x=v at kf;generalize Kg:ρr y=u at pD;have pQ:(execOp ρr o).run P c.w=((Builtin.append_ #[t,t] o.type #[v,u]).run P c.w).andThen λr w=>.ok (.value r) w:=by simp[execOp,ho,resolve,invoke,builtin,zd,Kg]
 unfold kU;rw[pQ];obtain⟨a,m,news,rfl,ln,Bv,rZ,U9⟩:=rQ pD vJ (by rintro rfl;simp at jX);cases kf with
 |lit _ b' Ji=>
 obtain⟨b,rfl⟩:∃b,b'=some b:=by
  cases b' with
  |some b=>exact⟨b,rfl⟩
  |none=>
   exfalso;generalize hn:es.length=n at Ji;cases Ji;exact IM ⟨zd,rfl⟩
 obtain⟨olds,lo,DO,XP,C0⟩:∃olds:List Value,olds.length=es.length*i.size∧(∀j v,olds[j]?=some v->c.w.cell? (b.add j)=some v)∧(∀v∈olds,v.oneCell'=true)∧
   ∀(k:Nat) (x:GV) (j:Nat) (g:GV) (v:Value),es[k]?=some x->x.cells[j]?=some g->olds[k*i.size+j]?=some v->RG c.w c.jq g v:=by
  by_cases Va:es=[];subst Va;exact⟨[],by simp,by simp,by simp,by simp⟩;obtain⟨a',m',olds,e1,l1,l2,l3,l4⟩:=rQ Ji G4 Va;cases e1;exact⟨olds,l1,l2,l3,l4⟩
 have hg:es.length<es.length+xs.length:=ab
 have QI:((es.length+xs.length:Nat):Int)<=9223372036854775807:=by simp only[maxLen]at se;omega
 rw[run_append_grow c.w t o.type e i z ht hi QH b es.length es.length olds lo DO a xs.length m news ln Bv hg QI (growslice_fits hg mK)];have sC:=grownCap_ge c.w (es.length+xs.length) es.length e;generalize hw':c.w.drew.alloc (.cells (olds.toArray++news.toArray++Builtin.zeroCells z.cells (grownCap c.w (es.length+xs.length) es.length e-(es.length+xs.length))) e)=w';have alN:Ext c.w w':=by rw[<-hw'];exact(Ext.drew c.w).trans (Ext.alloc _ _)
 have hblk:w'.heap[c.w.heap.size]?=some (.cells (olds.toArray++news.toArray++Builtin.zeroCells z.cells (grownCap c.w (es.length+xs.length) es.length e-(es.length+xs.length))) e (0,0)):=by rw[<-hw'];exact Go.heap_alloc_new c.w.drew _
 have kl:(olds.toArray++news.toArray++Builtin.zeroCells z.cells (grownCap c.w (es.length+xs.length) es.length e-(es.length+xs.length))).size=grownCap c.w (es.length+xs.length) es.length e*i.size:=by simp only[ib,ga,size_zeroCells,sP,lo,ln];rw[<-bB,<-bB];congr 1;omega
 have ud:=grownCap_le_maxLen c.w (es.length+xs.length) es.length e se;obtain⟨kP,hE⟩:=hr.Xz alN (t:=⟨true,c.w.heap.size,e,i.size,grownCap c.w (es.length+xs.length) es.length e,es.length+xs.length⟩) rfl (aZ _) hblk kl sC ud hs;have hR:=FA (w:=w') (S:=Ctx.jq ⟨c.σ,c.τ++[⟨true,c.w.heap.size,e,i.size,grownCap c.w (es.length+xs.length) es.length e,es.length+xs.length⟩],c.μ,c.hid,w'⟩) (es:=es) (xs:=xs) (size:=i.size) (olds:=olds) (news:=news)
  (rest:=(Builtin.zeroCells z.cells (grownCap c.w (es.length+xs.length) es.length e-(es.length+xs.length))).toList) hblk aa lo ln G4 vJ sC ud (λp hp=>by
   refine⟨λh=>?_,λh=>?_,λt ht lv e'=>?_,λt ht lv e'=>?_⟩;have:=hr.nu _ _ h;omega;have:=hr.pB _ h;omega
   ·rcases bC.1 ht with ht|ht
    have:=hr.Bd ht lv;omega;simp only[db]at ht;subst ht;exact hp
   have:=hr.mlt t ht lv;omega) (λk x j g v h1 h2 h3=>(C0 k x j g v h1 h2 h3).mono hE.kF) (λk x j g v h1 h2 h3=>(U9 k x j g v h1 h2 h3).mono hE.kF) XP rZ
 refine⟨_,rfl,kP,hE,.own _ _ _ ⟨true,c.w.heap.size,e,i.size,grownCap c.w (es.length+xs.length) es.length e,es.length+xs.length⟩ hR ?_ (λk x hx=>?_) aa (λ_=>.inl ⟨rfl,by simp⟩)⟩
 ·show(c.τ++[_])[H.tk.length]?=_;have:c.τ.length=H.tk.length:=by rw[<-hr.tk];simp
  rw[<-this];simp
 ·rcases bC.1 (aY hx)with h|h
  exact G4 x h;exact vJ x h
end
section
variable{P:Program}{o:Oper}{ρ:Operand->PV}{H:PH}
end
section
variable{P:Program}{o:Oper}{ρ:Operand->PV}{H:PH}
end
section
variable{P:Program}{o:Oper}{ρ:Operand->PV}{H:PH}
variable{H':PH}
def kg{v v':PV}(h:PO P o ρ H v H')(e:v=v'):PO P o ρ H v' H':=e▸h
end
section
variable{P:Program}{K:List Nat}{o:Oper}{env:Env}{H H':PH}{v:PV}
end
def qA:type_of% @Oq:= @Oq
def qB:type_of% @JZ:= @JZ
def oR:type_of% @Oo:= @Oo
def dR:type_of% @Ax:= @Ax
def cI:type_of% @FE:= @FE
def mF:type_of% @FC:= @FC
def bS:type_of% @BI:= @BI
def nC:type_of% @FF:= @FF
def xS:type_of% @uw:= @uw
def xU:type_of% @BK:= @BK
def xR:type_of% @JD:= @JD
def xK:type_of% @DI:= @DI
def xB:type_of% @Oi:= @Oi
def xN:type_of% @SY:= @SY
def xE:type_of% @S0:= @S0
def xT:type_of% @Xx:= @Xx
def xt:type_of% @J2:= @J2
def xf:type_of% @J3:= @J3
def cl:type_of% @J4:= @J4
def cb:type_of% @OJ:= @OJ
def cd:type_of% @Kh:= @Kh
def ck:type_of% @OK:= @OK
def cm:type_of% @H9:= @H9
def iA:type_of% @Du:= @Du
def aP:type_of% @Az:= @Az
def vC:type_of% @HS:= @HS
def vN:type_of% @JI:= @JI
def vT:type_of% @Ot:= @Ot
def vA:type_of% @Ou:= @Ou
def wC:type_of% @HT:= @HT
def wN:type_of% @JJ:= @JJ
def lB:type_of% @bz:= @bz
section
variable{P:Program}{T:DF}{N:Nat}{all:Array Oper}{Z:Env->PH->Prop}{l l' rest:List Oper}{env env':Env}{H H':PH}{v:PV}{d:Option Tmp}{op:Op}{ty:TypeId}{pos:String}{qG:Array Edge}{g:Option (Nat×Bool)}
def XR(hT:Bu P T)(h0:aaP T N all l env H=true)(h:Gg T N all 300 l env H=some (l',env',H'))(k:jQ P N all Z l' env' H'):jQ P N all Z l env H:=Mm hT 300 h0 h k
def XT(hT:Bu P T)(h0:aaP T N all l env H=true)(h:Gg T N all 6 l env H=some (l',env',H'))(k:jQ P N all Z l' env' H'):jQ P N all Z l env H:=Mm hT 6 h0 h k
def XU(hT:Bu P T)(h0:aaP T N all l env H=true)(h:Gg T N all 1 l env H=some (l',env',H'))(k:jQ P N all Z l' env' H'):jQ P N all Z l env H:=Mm hT 1 h0 h k
section
variable{K:List Nat}
def rd1(hT:Bu P T)(h0:aaQ T N all K l env H=true)(h:Gh T N all K 300 l env H=some (l',env',H'))(k:ju P N all K Z l' env' H'):ju P N all K Z l env H:=Mn hT 300 h0 h k
def rd2(hT:Bu P T)(h0:aaQ T N all K l env H=true)(h:Gh T N all K 6 l env H=some (l',env',H'))(k:ju P N all K Z l' env' H'):ju P N all K Z l env H:=Mn hT 6 h0 h k
def rd3(hT:Bu P T)(h0:aaQ T N all K l env H=true)(h:Gh T N all K 1 l env H=some (l',env',H'))(k:ju P N all K Z l' env' H'):ju P N all K Z l env H:=Mn hT 1 h0 h k
def Ia{x:Option Tmp}(h:x=none):yQ x=true:=by subst h;rfl
def dF(hg:gd all ⟨d,op,ty,pos,qG,g⟩ env=some true)(hd:tf N d=true)(hk:oV P op=0)(h:∀H1,PO P ⟨d,op,ty,pos,qG,g⟩ env.eval H1 v H1)(k:ju P N all K Z rest (qE env d v) H):ju P N all K Z (⟨d,op,ty,pos,qG,g⟩::rest) env H:=
 Ax hg hd (XI h hk) k (Ia (w6 (P:=P) (by show oV P op≠3;rw[hk];decide)))
def dC(hg:gd all ⟨d,op,ty,pos,qG,g⟩ env=some true)(hd:tf N d=true)(hk:oV P op=2)(hf:JL K ⟨d,op,ty,pos,qG,g⟩=true)(h:PO P ⟨d,op,ty,pos,qG,g⟩ env.eval H v H')(hq:pR K H H')(k:ju P N all K Z rest (qE env d v) H'):ju P N all K Z (⟨d,op,ty,pos,qG,g⟩::rest) env H:=
 Ax hg hd (XJ h hq hk hf) k (Ia (wZ hf).2.1)
def kQ(h:pR K H H':=by first|exact pR.refl _ _|(repeat(first|exact trivial|refine And.intro rfl ?_|refine And.intro trivial ?_))):pR K H H':=h
end
section
variable{id:Nat}{Q:Exit->Env->PH->Prop}{K0 K:List Nat}
def qxa(h0:N0 H.bx lits=some K0)(ha:DH l env (isNil H.mu) false false K0=some K)(hm:P.follows .mixedOrders=true)(h:ju P N l.toArray K (λenv H=>Q .normal env H) l env H)(hd:uI P K l=true:=by decide+kernel):PW P N (.region id l.toArray true) Q env H:=P6 false false h0 ha hm hd h
end
end
section
variable{P:Program}{o:Oper}{ρ:Operand->PV}{H:PH}
end
section
variable{P:Program}{o:Oper}{ρ:Operand->PV}{H:PH}
variable{y:Operand}{es:List GV}{size:Nat}
def AD{x:Operand}{t e:TypeId}(ho:o.op=.call {callee:=.builtin .append,args:=⟨[x,y]⟩,argTypes:=⟨[t,t]⟩})
  (ht:P.underlying t=some (.slice e)) (hs:kZ P e=some size) (hx:ρ x=.lit es) (hy:elems (ρ y)=some []):PO P o ρ H (.lit es) H:=by
 intro c ρr hr oH;have kf:=oH x (by simp[ho,Op.operands,Call.operands]);have pD:=tv (oH y (by simp[ho,Op.operands,Call.operands])) hy;rw[hx]at kf;obtain⟨i,hi⟩:∃i,P.info? e=some i:=by
  unfold kZ at hs;cases h:P.info? e with
  |none=>rw[h]at hs;cases hs|some i=>exact⟨i,rfl⟩
 generalize zd:ρr x=v at kf;generalize Kg:ρr y=u at pD;have pQ:(execOp ρr o).run P c.w=((Builtin.append_ #[t,t] o.type #[v,u]).run P c.w).andThen λr w=>.ok (.value r) w:=by simp[execOp,ho,resolve,invoke,builtin,zd,Kg]
 have hu:u=.slice none 0 0∨∃a c',u=.slice (some a) 0 c':=by
  cases pD with
  |nil=>exact .inl rfl|sl _ a cap=>exact .inr ⟨a,cap,rfl⟩
 unfold kU;rw[pQ];cases kf with
 |lit _ b Ji=>
 rw[py c.w ht hi b es.length es.length (aZ _) (by cases b with|none=>exact .inl rfl|some g=>exact .inr ⟨g,rfl⟩) u hu];exact⟨c,rfl,hr,kI.refl c,.lit _ _ Ji⟩
end
section
variable{P:Program}{o:Oper}{ρ:Operand->PV}{H:PH}
def yF{t:TypeId}(ho:o.op=.makeMap t none):PO P o ρ H (.mp H.mu.length) ⟨H.bx,H.tk,H.mu++[.map []]⟩:=by
 intro c ρr hr hx;have kX:(execOp ρr o).run P c.w=.ok (.value (.map (some c.w.heap.size))) (c.w.alloc (.map #[] 0)):=by simp[execOp,ho,Instr.makeMap,newObj,Sem.run]
 unfold kU;rw[kX];have alO:yO P ⟨c.σ,c.τ,c.μ++[⟨true,c.w.heap.size,0,0,0,0⟩],c.hid,c.w.alloc (.map #[] 0)⟩ ⟨true,c.w.heap.size,0,0,0,0⟩ (.map []):=
  ⟨rfl,rfl, #[],[],List.Perm.refl _,Go.heap_alloc_new c.w _,rfl,λi k v n h=>by simp at h⟩
 obtain⟨r1,r2⟩:=hr.Rb (Ext.alloc c.w (.map #[] 0)) (t:=⟨true,c.w.heap.size,0,0,0,0⟩) (o:=.map []) (λ_=>⟨aZ _,by simp⟩) alO;refine⟨_,rfl,r1,r2,.mp H.mu.length _ ⟨true,c.w.heap.size,0,0,0,0⟩ ?_ rfl (λ_=>rfl)⟩;show(c.μ++[_])[H.mu.length]?=_;rw[<-hr.nq];simp
variable{key:Operand}
def AE{t kt et:TypeId}{d:TypeDesc}{m val:Operand}{id:Nat}{k v:GV}{es:List (GV×GV)}(ho:o.op=.insert t m key val)(ht:P.underlying t=some (.map kt et))(MX:P.underlying kt=some d)(hf:xz d k=true)
  (e1:ρ m=.mp id) (e2:ρ key=.g k) (e3:ρ val=.g v) (hm:H.mu[id]?=some (.map es)) (hfr:mj k es=some none):PO P o ρ H mW ⟨H.bx,H.tk,H.mu.set id (.map (es++[(k,v)]))⟩:=by
 have h:=XA (x:=⟨id,k,v⟩) (P:=P) (o:=o) (ρ:=ρ) (H:=H) ⟨t,m,key,val,kt,et,d,ho,ht,MX,hf,e1,e2,e3⟩ hm hfr;have:Ins.ap ⟨id,k,v⟩ H=⟨H.bx,H.tk,H.mu.set id (.map (es++[(k,v)]))⟩:=by unfold Ins.ap;rw[hm]
 rwa[this]at h
def Kj:Value->Option GV
 |.int k n=>some (.int k n)|.bool b=>some (.bool b)|.string s=>some (.str s)|.slice none 0 0=>some (.sl [])|.nilFunc=>some (.raw .nilFunc)|_=>none
def Kk:List Value->Option (List GV)
 |[]=>some []
 |v::r=>match Kj v,Kk r with
  |some g,some l=>some (g::l)|_,_=>none
def Xe:Value->Option GV
 |.agg cs=>(Kk cs.toList).map .agg|v=>Kj v
variable{v:Value}
def Kl{g:GV}(h:Kj v=some g)(w:World)(S:Nat->Nat->Prop):RG w S g v∧v.oneCell'=true:=by unfold Kj at h;split at h<;>cases h;exact⟨.int _ _,rfl⟩;exact⟨.bool _,rfl⟩;exact⟨.str _,rfl⟩;exact⟨.nil,rfl⟩;exact⟨.raw _,rfl⟩
def Km(w:World)(S:Nat->Nat->Prop):∀{vs:List Value} {gs:List GV},Kk vs=some gs->gs.length=vs.length∧∀(i:Nat) (g:GV) (v:Value),gs[i]?=some g->vs[i]?=some v->RG w S g v∧v.oneCell'=true
 |[],gs,h=>by cases h;exact⟨rfl,λi g v hg=>by simp at hg⟩
 |v::r,gs,h=>by
  simp only[Kk]at h;split at h
  ·rename_i g l h1 h2;cases h;obtain⟨l1,l2⟩:=Km w S h2;refine⟨by simp[l1],λi g' v' hg hv=>?_⟩;cases i with
   |zero=>simp at hg hv;subst hg;subst hv;exact Kl h1 w S|succ i=>exact l2 i g' v' (by simpa using hg) (by simpa using hv)
  cases h
def Y2{g:GV}(h:Xe v=some g)(w:World)(S:Nat->Nat->Prop):RG w S g v:=by
 unfold Xe at h;split at h
 ·rename_i cs;rw[bh]at h;obtain⟨gs,h1,rfl⟩:=h;obtain⟨l1,l2⟩:=Km w S h1;refine .agg _ _ (by simpa using l1) (λu hu=>?_) (λi g v hg hv=>(l2 i g v hg (by simpa using hv)).1);obtain⟨i,hi⟩:=bt hu;have iI:i<gs.length:=by rw[l1];exact(aR.1 hi).1
  exact(l2 i gs[i] u (aS iI) hi).2
 exact(Kl h w S).1
def ab4(ok:Bool)(r:Option GV)(z:GV):PV:=match r with
 |some g=>bif ok then .tuple [.g g,.g (.bool true)]else .g g|none=>bif ok then .tuple [.g z,.g (.bool false)]else .g z
variable{z:Value}
def Kn{t kt et:TypeId}{d:TypeDesc}{m:Operand}{ok:Bool}{id:Nat}{k:GV}{es:List (GV×GV)}{r:Option GV}{zg:GV}(ho:o.op=.lookup t m key ok)(ht:P.underlying t=some (.map kt et))(MX:P.underlying kt=some d)
  (hz:my P et=some z) (hzg:Xe z=some zg) (e1:ρ m=.mp id) (e2:ρ key=.g k) (hf:xz d k=true) (hm:H.mu[id]?=some (.map es)) (hl:mj k es=some r):PO P o ρ H (ab4 ok r zg) H:=
 jr λc ρr hr oH=>by
  have x1:=oH m (by simp[ho,Op.operands]);have x2:=oH key (by simp[ho,Op.operands]);rw[e1]at x1;rw[e2]at x2;have hid:id<c.μ.length:=by rw[hr.nq];exact(aR.1 hm).1
  have lR:=aS hid;generalize c.μ[id]=tk at lR;obtain⟨g0,lv,n5,o8,hp,a1,a2,a3⟩:=hr.mu id tk _ lR hm;generalize hmr:ρr m=mv at x1;generalize hkr:ρr key=kv at x2;cases x1 with
  |mp _ _ t' kp h1 hv=>
  rw[lR]at kp;cases kp;have hmv:=hv g0;subst hmv;cases x2 with
  |g _ _ S6=>
  obtain⟨f1,f2⟩:=B0 hf S6 o8 n5.toList 0 (by simp[a2]) (λj e n he hn=>by obtain⟨k1,k2,_⟩:=a3 j e.1 e.2 n he (by simpa using hn);exact⟨k1,k2⟩);rw[<-Dw hp]at f1 f2;have two:∀(g:GV) (v:Value) (b:Bool),RG c.w c.jq g v->RV c (.tuple [.g g,.g (.bool b)]) (.tuple #[v,.bool b]):=λg v b h=>by
   refine .tuple _ _ rfl λi p u hp hu=>?_;match i with
   |0=>simp at hp hu;subst hp;subst hu;exact .g _ _ h|1=>simp at hp hu;subst hp;subst hu;exact .g _ _ (.bool b)|i+2=>simp at hp
  cases r with
  |none=>
   have Dx:=f1 hl;have hzr:=Y2 hzg c.w c.jq;cases ok with
   |true=>exact⟨.tuple #[z,.bool false],by simp[execOp,ho,hmr,hkr,Instr.lookup,Sem.run_bind,run_underlying ht,MapKept.run_getObj_map a1,oG MX hf S6,p9 MX Dx,qL hz],two _ _ _ hzr⟩|false=>exact⟨z,by simp[execOp,ho,hmr,hkr,Instr.lookup,Sem.run_bind,run_underlying ht,MapKept.run_getObj_map a1,oG MX hf S6,p9 MX Dx,qL hz],.g _ _ hzr⟩
  |some g=>
   obtain⟨j,val,Dx,tK⟩:=f2 g hl;cases ok with
   |true=>exact⟨.tuple #[val,.bool true],by simp[execOp,ho,hmr,hkr,Instr.lookup,Sem.run_bind,run_underlying ht,MapKept.run_getObj_map a1,oG MX hf S6,p9 MX Dx],two _ _ _ tK⟩|false=>exact⟨val,by simp[execOp,ho,hmr,hkr,Instr.lookup,Sem.run_bind,run_underlying ht,MapKept.run_getObj_map a1,oG MX hf S6,p9 MX Dx],.g _ _ tK⟩
end
section
variable{P:Program}{K:List Nat}{o:Oper}{env:Env}{H:PH}
end
def putAt(es:List GV)(off:Nat)(gs:List GV):List GV:=es.take off++gs++es.drop (off+gs.length)
variable{es:List GV}{off:Nat}
def sG{gs:List GV}(h:off+gs.length<=es.length):(putAt es off gs).length=es.length:=by simp[putAt];omega
section
variable{P:Program}{o:Oper}{ρ:Operand->PV}{H:PH}
variable{e size:Nat}
def Bl(h1:(P.info? e).map (·.size)=some size)(h2:kZ P e=some 1):size=1:=by unfold kZ at h2;rw[h2]at h1;exact(cE h1).symm
variable{c:Ctx}{n:Nat}
def Rel.OM(hr:Rel P c H){id:Nat}{gs:List GV}{t:oZ}{us:List Value}(ht:c.μ[id]?=some t)(hm:H.mu[id]?=some (.arr n e es))(hs:kZ P e=some 1)(lv:t.live=true)(hl:us.length=gs.length)(mK:off+gs.length<=es.length)
  (hg:∀(j:Nat) (g:GV) (v:Value),gs[j]?=some g->us[j]?=some v->RG c.w c.jq g v∧v.oneCell'=true):
  ∃cur,c.w.heap[t.g]?=some (.cells cur e (0,0))∧off+us.length<=cur.size∧t.size=1∧
   ∃c',c'.w=c.w.setRow t.g (cur.toList.take off++us++cur.toList.drop (off+us.length)).toArray∧Rel P c' ⟨H.bx,H.tk,H.mu.set id (.arr n e (putAt es off gs))⟩∧kI c c':=by
 have mq:=hr.mu id t _ ht hm;obtain⟨a1,a2,a3,a4⟩:=mq;have kl:=Bl a3 hs;rcases a4 with⟨kj,_⟩|⟨_,cur,b1,b2,b3,b4,b5,b6⟩
 rw[lv]at kj;cases kj
 ·rw[kl,cU]at b2;have hfc:off+us.length<=cur.size:=ab
  refine⟨cur,b1,hfc,kl,?_⟩;have jE:∀g∈gs,g.cells=[g]:=by intro g hgm;obtain⟨j,hj⟩:=bt hgm;have iI:j<us.length:=(by rw[hl];exact(aR.1 hj).1);obtain⟨r1,r2⟩:=hg j g _ hj (aS iI);exact r1.cells_one r2
  have DP:∀x∈es,x.cells.length=1:=λx hx=>by rw[b5 x hx,kl]
  generalize q7:(cur.toList.take off++us++cur.toList.drop (off+us.length)).toArray=new;have Vc:new.size=cur.size:=by rw[<-q7];simp;omega
  have:=hr.FZ ht (t':=t) (o':=.arr n e (putAt es off gs)) rfl (.inl rfl) (w':=c.w.setRow t.g new) rfl ⟨rfl,λ_=>by first|exact aZ _|exact fc _⟩ rfl aa (λb hb h=>setRow_other c.w t.g b _ (h lv)) (λ_=>.inl ⟨lv,rfl⟩) (λhE=>?_);exact⟨_,rfl,this.1,this.2⟩
  ·refine⟨a1,by rw[sG mK];exact a2,a3,.inr ⟨lv,new,setRow_heap c.w t.g cur new e (0,0) b1,by rw[Vc,kl,cU];exact b2,by rw[sG mK];exact b3,b4,?_,?_⟩⟩
   ·intro x hx;rw[kl];unfold putAt at hx;simp only[bC]at hx;rcases hx with(hx|hx)|hx
    exact DP x (cC hx);rw[jE x hx];rfl;exact DP x (fj hx)
   ·intro i x j g v hx AF hv;rw[kl,cU]at hv;rw[<-q7]at hv;simp only[dV]at hv;unfold putAt at hx;have sv:(cur.toList.take off).length=off:=ad;have Co:(es.take off).length=off:=ad;have yP:∀k,es[k]?=some x->cur.toList[k+j]?=some v->RG c.w c.jq g v∧v.oneCell'=true:=λk hk hv=>b6 k x j g v hk AF (by rw[kl,cU];simpa using hv);by_cases h1:i<off
    ·rw[bV,a8 (by rw[Co];exact h1)]at hx;have BL:es[i]?=some x:=(by rw[bq,aW h1]at hx;exact hx);have QJ:j=0:=by
      have:=(aR.1 AF).1;rw[DP x (aY BL)]at this;omega
     subst QJ;rw[bV,a8 (by rw[sv];omega)]at hv;rw[bq,aW ab]at hv;exact⟨(yP i BL hv).1.mono hE.kF,(yP i BL hv).2⟩
    ·by_cases h2:i<off+gs.length
     ·rw[bV,a7 (by rw[Co];omega),a8 (by rw[Co];omega),Co]at hx;have QJ:j=0:=by
       have:=(aR.1 AF).1;rw[jE x (aY hx)]at this;simpa using this
      subst QJ;rw[jE x (aY hx)]at AF;simp only[gi,cg]at AF;subst AF;rw[bV,a7 (by rw[sv];omega),a8 (by rw[sv,hl];omega),sv]at hv;exact⟨(hg _ x v hx hv).1.mono hE.kF,(hg _ x v hx hv).2⟩
     ·rw[a7 (by simp[Co];omega)]at hx;have l2:(es.take off++gs).length=off+gs.length:=(by simp[Co]);rw[l2,bD,show off+gs.length+(i-(off+gs.length))=i by omega]at hx;have QJ:j=0:=by
       have:=(aR.1 AF).1;rw[DP x (aY hx)]at this;omega
      subst QJ;rw[a7 (by simp[sv,hl];omega)]at hv;have l3:(cur.toList.take off++us).length=off+us.length:=(by simp[sv]);rw[l3,bD,hl,show off+gs.length+(i+0-(off+gs.length))=i by omega]at hv;exact⟨(yP i hx (by simpa using hv)).1.mono hE.kF,(yP i hx (by simpa using hv)).2⟩
variable{len cap:Nat}{v:Value}
def adU{id:Nat}(h:RV c (.vw id n off len cap) v):∃g,v=.slice (some ⟨g,off,none⟩) len cap:=by cases h;exact⟨_,rfl⟩
def QK(hr:Rel P c H){id:Nat}(h:RV c (.vw id n off len cap) v)(hm:H.mu[id]?=some (.arr n e es)):
  ∃t,c.μ[id]?=some t∧n<=t.gen∧t.live=true∧t.size=1∧v=.slice (some ⟨t.g,off,none⟩) len cap∧n=t.gen∧len<=cap∧off+cap<=t.len∧t.len=es.length∧cap<=maxLen:=by
 cases h with
 |vw _ _ _ _ _ g t ht hn h1 h2 hv=>
  obtain⟨a1,a2,a3,a4⟩:=hr.mu id t _ ht hm;obtain⟨lv,rfl,ls,l2⟩:=hv a1.symm;exact⟨t,ht,hn,lv,ls,rfl,a1.symm,h1,l2,a2,h2⟩
def adV{id:Nat}{t:oZ}(ht:c.μ[id]?=some t)(hn:n<=t.gen)(lv:t.live=true)(hs:t.size=1)(h1:len<=cap)(hm:cap<=maxLen)(h2:off+cap<=t.len):RV c (.vw id n off len cap) (.slice (some ⟨t.g,off,none⟩) len cap):=
 .vw id n off len cap t.g t ht hn h1 hm λ_=>⟨lv,rfl,hs,h2⟩
variable{t m:Nat}{y:Operand}{z:Value}
def ON{x:Operand}{k1 k2:IntKind}{l:Nat}(ho:o.op=.makeSlice t x y)(kf:ρ x=.g (.int k1 l))(pD:ρ y=.g (.int k2 n))(he:P.underlying t=some (.slice e))(hs:kZ P e=some 1)(hz:my P e=some z)(uc:z.oneCell'=true)
  (yv:sF P e=some m) (hl:l<=n) (hm:m*n<=281474976710656) (hn:n<=9223372036854775807):
  PO P o ρ H (.vw H.mu.length 0 0 l n) ⟨H.bx,H.tk,H.mu++[.arr 0 e (List.replicate n (mB z))]⟩:=by
 intro c ρr hr hx;have h1:=hx x (by simp[ho,Op.operands]);have h2:=hx y (by simp[ho,Op.operands]);rw[kf]at h1;rw[pD]at h2;have q1:=k6 h1;have q2:=k6 h2;obtain⟨i,hi,kl⟩:∃i,P.info? e=some i∧i.size=1:=by
  unfold kZ at hs;cases hu:P.info? e with
  |none=>rw[hu]at hs;cases hs|some i=>rw[hu]at hs;exact⟨i,rfl,by simpa using hs⟩
 have QH:i.zero=some z:=by unfold my at hz;rw[hi]at hz;simpa using hz
 have hib:i.bytes=m:=by unfold sF at yv;rw[hi]at yv;simpa using yv
 have hzc:z.cells= #[z]:=cells_one uc;have kX:(execOp ρr o).run P c.w=.ok (.value (.slice (some ⟨c.w.heap.size,0,none⟩) l n)) (c.w.alloc (.cells (madeCells #[z] n) e)):=by have hr:=run_make (P:=P) c.w t e i z he hi QH k1 k2 l n ab ab (by rw[hib,<-dJ];omega) ab;simp only[da,kl,cU,hzc]at hr;simp[execOp,ho,q1,q2,hr]
 unfold kU;rw[kX];have se:n<=maxLen:=by unfold maxLen;omega
 have hat:∀(k:Nat) (v:Value),(madeCells #[z] n)[k]?=some v->v=z:=by
  intro k v hv;have:(madeCells #[z] n).toList[k]?=some v:=by simpa using hv
  rw[toList_madeCells_one,eJ]at this;split at this;exact(cE this).symm;cases this
 have mM:(mB z).cells=[mB z]:=(o9 c.w c.jq z).cells_one uc;obtain⟨r1,r2⟩:=hr.Rb (Ext.alloc c.w (.cells (madeCells #[z] n) e)) (t:=⟨true,c.w.heap.size,1,0,n,n⟩) (o:=.arr 0 e (List.replicate n (mB z))) (λ_=>⟨aZ _,by simp⟩)
  ⟨rfl,by simp,hs,.inr ⟨rfl,_,Go.heap_alloc_new c.w _,by simp[size_madeCells],by simp,se,λx hx=>by rw[(fS.1 hx).2,mM];rfl,λk x j g v hx hg hv=>by rw[eJ]at hx;split at hx;cases hx;rw[mM]at hg;have hj:j=0:=(by have:=(aR.1 hg).1;simpa using this);subst hj;simp at hg;subst hg;rw[hat _ _ hv];exact⟨o9 _ _ z,uc⟩;cases hx⟩⟩
 refine⟨_,rfl,r1,r2,?_⟩;refine adV (t:=⟨true,c.w.heap.size,1,0,n,n⟩) ?_ (aZ _) rfl rfl hl se aa;show(c.μ++[_])[H.mu.length]?=_;rw[<-hr.nq];simp
variable{w:World}
def IQ(ht:P.underlying t=some (.slice e))(hs:kZ P e=some 1)(a:Addr)(len cap:Nat)(lo hi mx:Option Value)(L U M:Nat)(hb:(Instr.sliceBounds true len cap lo hi mx).run P w=.ok (L,U,M) w):
  (Instr.sliceAt t (.slice (some a) len cap) lo hi mx).run P w=.ok (.slice (if M=L then some a else some (a.add L)) (U-L) (M-L)) w:=by
 simp[Instr.sliceAt,Instr.slice,run_underlying ht,hb,run_sizeOf hs]
def qf(k:IntKind)(i:Nat)(y:Nat)(code:BoundsCode)(h:i<=y):(Instr.sliceBound (.int k i) y code).run P w=.ok i w:=by
 have h':0<=(i:Int)∧(i:Int)<=(y:Int):=ab
 simp only[Instr.sliceBound,asIntOf,Sem.run_bind,Sem.run_pure,Result.andThen_ok];rw[aW h'];simp
def B7(l h m:Option (IntKind×Int))(hhm:h=none->m=none){L U M:Nat}(hL:nS l=L)(hU:oo len h=U)(hM:oo cap m=M)(h1:L<=U)(h2:U<=M)(h3:M<=cap):
  (Instr.sliceBounds true len cap (l.map λp=>.int p.1 p.2) (h.map λp=>.int p.1 p.2) (m.map λp=>.int p.1 p.2)).run P w=.ok (L,U,M) w:=by
 cases m with
 |none=>
  have hMc:M=cap:=by simp only[oo]at hM;omega
  subst hMc;cases h with
  |none=>
   have hUc:U=len:=(by simp only[oo]at hU;omega);subst hUc;cases l with
   |none=>
    have:L=0:=(by simp only[nS]at hL;omega);subst this;simp[Instr.sliceBounds]
   |some p=>
    obtain⟨k,i⟩:=p;simp only[nS]at hL;subst hL;simp[Instr.sliceBounds,qf k L U _ h1]
  |some q=>
   obtain⟨kq,iq⟩:=q;simp only[oo]at hU;subst hU;cases l with
   |none=>
    have:L=0:=(by simp only[nS]at hL;omega);subst this;simp[Instr.sliceBounds,qf kq U M _ h2]
   |some p=>
    obtain⟨k,i⟩:=p;simp only[nS]at hL;subst hL;simp[Instr.sliceBounds,qf kq U M _ h2,qf k L U _ h1]
 |some r=>
  obtain⟨kr,ir⟩:=r;simp only[oo]at hM;subst hM;cases h with
  |none=>exact absurd (hhm rfl) aa
  |some q=>
   obtain⟨kq,iq⟩:=q;simp only[oo]at hU;subst hU;cases l with
   |none=>
    have:L=0:=(by simp only[nS]at hL;omega);subst this;simp[Instr.sliceBounds,qf kr M cap _ h3,qf kq U M _ h2]
   |some p=>
    obtain⟨k,i⟩:=p;simp only[nS]at hL;subst hL;simp[Instr.sliceBounds,qf kr M cap _ h3,qf kq U M _ h2,qf k L U _ h1]
variable{lo hi:Option Operand}{h:Option (IntKind×Int)}
def Ko(L U M:Nat){t e:TypeId}{x:Operand}{mx:Option Operand}{id:Nat}{l m:Option (IntKind×Int)}(ho:o.op=.slice t x lo hi mx)(ht:P.underlying t=some (.slice e))(hs:kZ P e=some 1)(hx:ρ x=.vw id n off len cap)
  (hl:oL ρ lo=some l) (hh:oL ρ hi=some h) (AH:oL ρ mx=some m) (hhm:h=none->m=none) (hL:nS l=L) (hU:oo len h=U) (hM:oo cap m=M) (h1:L<=U) (h2:U<=M) (h3:M<=cap):
  PO P o ρ H (.vw id n (if M=L then off else off+L) (U-L) (M-L)) H:=
 jr λc ρr hr oH=>by
  have e1:=oH x (by simp[ho,Op.operands]);rw[hx]at e1;have el:=oq (ρr:=ρr) hl λy hy=>oH y (by subst hy;simp[ho,Op.operands]);have eh:=oq (ρr:=ρr) hh λy hy=>oH y (by subst hy;simp[ho,Op.operands]);have em:=oq (ρr:=ρr) AH λy hy=>oH y (by subst hy;simp[ho,Op.operands]);generalize hv:ρr x=v at e1;cases e1 with
  |vw _ _ _ _ _ g tk g1 g2 g3 g4 g5=>
  have kX:(execOp ρr o).run P c.w=.ok (.value (.slice (if M=L then some ⟨g,off,none⟩else some (Addr.add ⟨g,off,none⟩ L)) (U-L) (M-L))) c.w:=by have hb:=B7 (P:=P) (w:=c.w) (len:=len) (cap:=cap) l h m hhm hL hU hM h1 h2 h3;have:=IQ (w:=c.w) ht hs ⟨g,off,none⟩ len cap _ _ _ L U M hb;simp only[execOp,ho,hv,el,eh,em];simp[this]
  refine⟨_,kX,?_⟩;by_cases hc:M=L;rw[aW hc,aW hc];exact .vw id n off (U-L) (M-L) g tk g1 g2 ab ab λe=>⟨(g5 e).1,(g5 e).2.1,(g5 e).2.2.1,by have:=(g5 e).2.2.2;omega⟩;rw[aV hc,aV hc,add_eq _ _ rfl];exact .vw id n (off+L) (U-L) (M-L) g tk g1 g2 ab ab λe=>⟨(g5 e).1,(g5 e).2.1,(g5 e).2.2.1,by have:=(g5 e).2.2.2;omega⟩
def Kp(i:Nat){x:Operand}{t e:TypeId}{id:Nat}{k:IntKind}{z:Int}(ho:o.op=.indexAddr t x y)(ht:P.underlying t=some (.slice e))(hs:kZ P e=some 1)(lY:ρ x=.vw id n off len cap)(hi:ρ y=.g (.int k z))(hz:z=i)(iI:i<len):
  PO P o ρ H (.kE id n (off+i) 0) H:=
 jr λc ρr hr hx=>by
  have h1:=hx x (by simp[ho,Op.operands]);have h2:=hx y (by simp[ho,Op.operands]);rw[lY]at h1;rw[hi,hz]at h2;have h2:=k6 h2;generalize hv:ρr x=v at h1;cases h1 with
  |vw _ _ _ _ _ g tk g1 g2 g3 g4 g5=>
  refine⟨.pointer (some ((⟨g,off,none⟩:Addr).add i)),?_,.kE id n (off+i) 0 _ tk g1 g2 (oT _ _ rfl) (λe=>by obtain⟨_,rfl,AI,_⟩:=g5 e;rw[add_eq _ _ rfl,AI];simp)⟩;have IL:0<=(i:Int)∧(i:Int)<(len:Int):=ab
  simp only[execOp,ho,hv,h2];simp[Instr.indexAt,asIntOf,run_underlying ht,iI,run_sizeOf hs]
def ab5{x:Operand}{t e:TypeId}{id:Nat}(ho:o.op=.call {callee:=.builtin .len,args:= #[x],argTypes:= #[t]})(ht:P.underlying t=some (.slice e))(lY:ρ x=.vw id n off len cap):
  PO P o ρ H (.g (.int .i64 len)) H:=
 jr λc ρr hr hx=>by have h1:=hx x (by simp[ho,Op.operands,Call.operands]);rw[lY]at h1;obtain⟨g,hv⟩:=adU h1;exact⟨.int .i64 len,by simp[execOp,ho,resolve,invoke,builtin,hv,Builtin.len_,run_underlying ht,goInt],.g _ _ (.int _ _)⟩
def Mp{x:Operand}{t e:TypeId}{id:Nat}(ho:o.op=.call {callee:=.builtin .cap,args:= #[x],argTypes:= #[t]})(ht:P.underlying t=some (.slice e))(lY:ρ x=.vw id n off len cap):
  PO P o ρ H (.g (.int .i64 cap)) H:=
 jr λc ρr hr hx=>by have h1:=hx x (by simp[ho,Op.operands,Call.operands]);rw[lY]at h1;obtain⟨g,hv⟩:=adU h1;exact⟨.int .i64 cap,by simp[execOp,ho,resolve,invoke,builtin,hv,Builtin.cap_,run_underlying ht,goInt],.g _ _ (.int _ _)⟩
def z7{x:Operand}{t e:TypeId}(ho:o.op=.call {callee:=.builtin .cap,args:= #[x],argTypes:= #[t]})(ht:P.underlying t=some (.slice e))(lY:ρ x=.iM):PO P o ρ H (.g (.int .i64 0)) H:=
 jr λc ρr hr hx=>by have h1:=hx x (by simp[ho,Op.operands,Call.operands]);rw[lY]at h1;generalize hv:ρr x=v at h1;cases h1;exact⟨.int .i64 0,by simp[execOp,ho,resolve,invoke,builtin,hv,Builtin.cap_,run_underlying ht,goInt],.g _ _ (.int _ _)⟩
def qh{t e size:TypeId}{x:Operand}{l:Option (IntKind×Int)}(ho:o.op=.slice t x lo hi none)(ht:P.underlying t=some (.slice e))(hs:kZ P e=some size)(hx:ρ x=.iM)(hl:oL ρ lo=some l)(hh:oL ρ hi=some h)(hL:nS l=0)(hU:oo 0 h=0):
  PO P o ρ H .iM H:=
 jr λc ρr hr oH=>by have e1:=oH x (by simp[ho,Op.operands]);rw[hx]at e1;have el:=oq (ρr:=ρr) hl λy hy=>oH y (by subst hy;simp[ho,Op.operands]);have eh:=oq (ρr:=ρr) hh λy hy=>oH y (by subst hy;simp[ho,Op.operands]);generalize hv:ρr x=v at e1;cases e1;have hb:=B7 (P:=P) (w:=c.w) (len:=0) (cap:=0) l h none (λ_=>rfl) (L:=0) (U:=0) (M:=0) hL hU rfl (aZ _) (aZ _) (aZ _);refine⟨.slice none 0 0,?_,.iM⟩;simp only[execOp,ho,hv,el,eh];simp only[Option.map_none]at hb⊢;simp[Instr.sliceAt,Instr.slice,run_underlying ht,hb,run_sizeOf hs]
def aaU(H:PH):PV->Option (List GV)
 |.vw id n off len _=>match H.mu[id]? with
  |some (.arr n' _ es)=>bif Nat.beq n' n&&Nat.ble (off+len) es.length then some ((es.drop off).take len)else none|_=>none
 |p=>elems p
variable{p:PV}{xs:List GV}
def Kq(hr:Rel P c H){u:Value}(h:RV c p u)(hx:aaU H p=some xs)(h1:∀id n off len cap,p=.vw id n off len cap->∀n' e es,H.mu[id]?=some (.arr n' e es)->kZ P e=some 1)(vJ:∀x∈xs,x.cells=[x]):
  (∃b cp,u=.slice b xs.length cp)∧∀k,k<=xs.length->∃us:List Value,us.length=k∧(Builtin.firstCells 1 k u).run P c.w=.ok us.toArray c.w∧∀(j:Nat) (g:GV) (v:Value),(xs.take k)[j]?=some g->us[j]?=some v->RG c.w c.jq g v∧v.oneCell'=true:=by
 have key:∀(a:Addr) (cap:Nat) (news:List Value),u=.slice (some a) xs.length cap->news.length=xs.length->(∀j v,news[j]?=some v->c.w.cell? (a.add j)=some v)->(∀v∈news,v.oneCell'=true)->
   (∀(i:Nat) (x:GV) (v:Value),xs[i]?=some x->news[i]?=some v->RG c.w c.jq x v)->
   (∃b cp,u=.slice b xs.length cp)∧∀k,k<=xs.length->∃us:List Value,us.length=k∧(Builtin.firstCells 1 k u).run P c.w=.ok us.toArray c.w∧∀(j:Nat) (g:GV) (v:Value),(xs.take k)[j]?=some g->us[j]?=some v->RG c.w c.jq g v∧v.oneCell'=true:=by
  intro a cap news hu hn oc jE Ji;refine⟨⟨_,_,hu⟩,λk hk=>⟨news.take k,by simp;omega,?_,λj g v hj hv=>?_⟩⟩;rw[hu];exact run_firstCells_some c.w 1 k a xs.length cap (news.take k) ad λj v hj=>by rw[bq]at hj;split at hj;exact oc j v hj;cases hj
  rw[bq]at hj hv;split at hj;rename_i iI;rw[aW iI]at hv;exact⟨Ji j g v hj hv,jE v (aY hv)⟩;cases hj
 have gnd:elems p=some xs->(∃b cp,u=.slice b xs.length cp)∧∀k,k<=xs.length->∃us:List Value,us.length=k∧(Builtin.firstCells 1 k u).run P c.w=.ok us.toArray c.w∧∀(j:Nat) (g:GV) (v:Value),(xs.take k)[j]?=some g->us[j]?=some v->RG c.w c.jq g v∧v.oneCell'=true:=by
  intro he;have nV:=tv h he;by_cases js:xs=[]
  ·subst js;obtain⟨a,cap,hv,_⟩:=Qv nV;refine⟨⟨a,cap,hv⟩,λk hk=>?_⟩;have Ez:k=0:=(by simpa using hk);subst Ez;refine⟨[],rfl,?_,by simp⟩;rw[hv];cases a with
   |none=>simp[Builtin.firstCells]|some a=>exact run_firstCells_some c.w 1 0 a _ cap [] aa aa
  obtain⟨a,cap,news,hu,hn,oc,jE,Ji⟩:=rQ nV (size:=1) (λx hx=>by rw[vJ x hx];rfl) js;exact key a cap news hu ab oc jE λi x v hi hv=>Ji i x 0 x v hi (by rw[vJ x (aY hi)];rfl) (by simpa using hv)
 cases p with
 |vw id n off len cap=>
  simp only[aaU]at hx;split at hx
  ·rename_i n' e es hm;cases hb:(Nat.beq n' n&&Nat.ble (off+len) es.length)with
   |false=>rw[hb]at hx;cases hx
   |true=>
    rw[hb,cr]at hx;cases hx;simp only[bI]at hb;have Je:=bl hb.1;have hle:=bz hb.2;subst Je;have hs:=h1 _ _ _ _ _ rfl _ _ _ hm;obtain⟨tk,g1,g2,g3,g4,hv,g5,g6,g7,g8,g9⟩:=QK hr h hm;obtain⟨a1,a2,a3,a4⟩:=hr.mu id tk _ g1 hm;rcases a4 with⟨kj,_⟩|⟨_,cur,b1,b2,b3,b4,b5,b6⟩
    rw[g3]at kj;cases kj
    ·rw[g4,cU]at b2;have hlen:((es.drop off).take len).length=len:=ad;have ny:∀(i:Nat) (x:GV),((es.drop off).take len)[i]?=some x->es[off+i]?=some x∧i<len:=by
      intro i x hi;rw[bq]at hi;split at hi;rename_i iI;rw[bD]at hi;exact⟨hi,iI⟩;cases hi
     have q7:∀(j:Nat) (v:Value),((cur.toList.drop off).take len)[j]?=some v->cur[off+j]?=some v∧j<len:=(by intro j v hj;rw[bq]at hj;split at hj;rename_i iI;rw[bD]at hj;exact⟨by simpa using hj,iI⟩;cases hj);have Ji:∀(i:Nat) (x:GV) (v:Value),((es.drop off).take len)[i]?=some x->((cur.toList.drop off).take len)[i]?=some v->RG c.w c.jq x v∧v.oneCell'=true:=(by intro i x v hi hv;have tN:=aY hi;exact b6 (off+i) x 0 x v (ny i x hi).1 (by rw[vJ x tN];rfl) (by rw[g4,cU,b9];exact(q7 i v hv).1));refine key ⟨tk.g,off,none⟩ cap ((cur.toList.drop off).take len) (by rw[hlen];exact hv) (by rw[hlen];simp;omega) (λj v hj=>?_) (λv XV=>?_) (λi x v hi hv=>(Ji i x v hi hv).1);rw[add_eq _ _ rfl,cell_of_row c.w tk.g _ cur e (0,0) b1];exact(q7 j v hj).1;obtain⟨j,hj⟩:=bt XV;have iI:j<((es.drop off).take len).length:=(by rw[hlen];exact(q7 j v hj).2);exact(Ji j _ v (aS iI) hj).2
  cases hx
 |_=>exact gnd hx
def DQ(w:World)(a:Option Addr)(n cap:Nat):(Builtin.lenOf (.slice a n cap)).run P w=.ok n w:=by simp[Builtin.lenOf]
def zO{x:Operand}{t u e e':TypeId}{id:Nat}{ys:List GV}(ho:o.op=.call {callee:=.builtin .copy,args:=⟨[x,y]⟩,argTypes:=⟨[t,u]⟩})(ht:P.underlying t=some (.slice e))(hs:kZ P e=some 1)(HY:kZ P e'=some 1)(lY:ρ x=.vw id n off len cap)
  (hm:H.mu[id]?=some (.arr n e' es)) (hy:aaU H (ρ y)=some ys) (pD:∀id n off len cap,ρ y=.vw id n off len cap->∀n' e es,H.mu[id]?=some (.arr n' e es)->kZ P e=some 1) (hys:∀x∈ys,x.cells=[x]) (mK:off+len<=es.length):
  PO P o ρ H (.g (.int .i64 (min ys.length len))) ⟨H.bx,H.tk,H.mu.set id (.arr n e' (putAt es off (ys.take len)))⟩:=by
 intro c ρr hr hx;have h1:=hx x (by simp[ho,Op.operands,Call.operands]);have h2:=hx y (by simp[ho,Op.operands,Call.operands]);rw[lY]at h1;obtain⟨tk,g1,g2,g3,g4,hv,g5,g6,g7,g8,g9⟩:=QK hr h1 hm;obtain⟨⟨yb,yc,hyv⟩,aeX⟩:=Kq hr h2 hy pD hys;obtain⟨us,ul,Ve,urg⟩:=aeX (min ys.length len) (Nat.min_le_left _ _);have Xd:ys.take (min ys.length len)=ys.take len:=by
  rcases Nat.le_total ys.length len with h|h
  rw[ec h,bR (aZ _),bR h];rw[Nat.min_eq_right h]
 rw[Xd]at urg;have pE:(ys.take len).length=min ys.length len:=by simp[Nat.min_comm]
 have alP:Nat.min ys.length len=min ys.length len:=rfl;obtain⟨cur,c1,c2,c3,c',w',r1,r2⟩:=hr.OM g1 hm HY g3 (us:=us) (gs:=ys.take len) (off:=off) (by rw[ul,pE]) (by rw[pE];have:=Nat.min_le_right ys.length len;omega) urg;have jE:∀v∈us,v.oneCell'=true:=by
  intro v XV;obtain⟨j,hj⟩:=bt XV;have iI:j<(ys.take len).length:=by rw[pE,<-ul];exact(aR.1 hj).1
  exact(urg j _ v (aS iI) hj).2
 have lT:=run_storeCells_at P tk.g off e' us 0 cur c.w c1 ab jE;simp only[b9]at lT;have kX:(execOp ρr o).run P c.w=.ok (.value (.int .i64 (min ys.length len))) c'.w:=by rw[w'];rw[hyv]at Ve;simp[execOp,ho,resolve,invoke,builtin,hv,hyv,Builtin.copy_,run_underlying ht,run_sizeOf hs,DQ,alP,Ve,lT,goInt];omega
 unfold kU;rw[kX];exact⟨c',rfl,r1,r2,.g _ _ (.int _ _)⟩
def AJ{x:Operand}{t e e':TypeId}{id:Nat}(ho:o.op=.call {callee:=.builtin .clear,args:=⟨[x]⟩,argTypes:=⟨[t]⟩})(ht:P.underlying t=some (.slice e))(hz:my P e=some z)(uc:z.oneCell'=true)(HY:kZ P e'=some 1)(lY:ρ x=.vw id n off len cap)
  (hm:H.mu[id]?=some (.arr n e' es)) (mK:off+len<=es.length):
  PO P o ρ H (.tuple []) ⟨H.bx,H.tk,H.mu.set id (.arr n e' (putAt es off (List.replicate len (mB z))))⟩:=by
 intro c ρr hr hx;have h1:=hx x (by simp[ho,Op.operands,Call.operands]);rw[lY]at h1;obtain⟨tk,g1,g2,g3,g4,hv,g5,g6,g7,g8,g9⟩:=QK hr h1 hm;obtain⟨cur,c1,c2,c3,c',w',r1,r2⟩:=hr.OM g1 hm HY g3 (us:=List.replicate len z) (gs:=List.replicate len (mB z)) (off:=off) aa (by simpa using mK) (λj g v hj hv=>by rw[eJ]at hj hv;split at hj;rename_i iI;rw[aW iI]at hv;cases hj;cases hv;exact⟨o9 _ _ z,uc⟩;cases hj);have lT:=run_storeCells_at P tk.g off e' (List.replicate len z) 0 cur c.w c1 (by simpa using c2) (λv XV=>by rw[(fS.1 XV).2];exact uc);simp only[b9]at lT;have kX:(execOp ρr o).run P c.w=.ok (.value (.tuple #[])) c'.w:=by
  rw[w'];cases len with
  |zero=>
   have:c.w.setRow tk.g (cur.toList.take off++List.replicate 0 z++cur.toList.drop (off+(List.replicate 0 z).length)).toArray=c.w:=(by simp only[gn,cG,bH,b9,cA,Array.toArray_toList];exact setRow_self c.w tk.g cur e' (0,0) c1);rw[this];simp[execOp,ho,resolve,invoke,builtin,hv,Builtin.clear_,run_underlying ht]
  |succ k=>
   have sv:(Builtin.zeroCells z.cells (k+1)).toList=List.replicate (k+1) z:=(by rw[cells_one uc];simp[Builtin.zeroCells,<-toList_madeCells_one,madeCells]);simp[execOp,ho,resolve,invoke,builtin,hv,Builtin.clear_,run_underlying ht,qL hz,sv,lT]
 unfold kU;rw[kX];exact⟨c',rfl,r1,r2,.tuple [] #[] rfl aa⟩
def Rs:PV->Option Bool
 |.jx=>some true|.ptr _ _=>some false|.kE _ _ _ _=>some false|.pat _=>some false|_=>none
def OO{r:Bool}(h:RV c p v)(hr:Rs p=some r):∃a:Option Addr,v=.pointer a∧a.isNone=r:=by cases p<;>simp only[Rs]at hr<;>first|(cases hr;done)|(cases hr;cases h;exact⟨_,rfl,rfl⟩)
variable{tp te:Nat}
def G8(hp:P.underlying tp=some (.pointer te))(a:Option Addr):(binOp .eql tp (.pointer a) (.pointer none)).run P w=.ok (.bool a.isNone) w:=by
 have h:∀d:Nat,(Op.equalIn (d+1) tp (.pointer a) (.pointer none)).run P w=.ok a.isNone w:=λd=>by cases a<;>simp[Op.equalIn,run_underlying hp]
 simp only[binOp];simp[Op.equal,Op.maxDepth,h 9999]
def G9(hp:P.underlying tp=some (.pointer te))(a:Option Addr):(binOp .neq tp (.pointer a) (.pointer none)).run P w=.ok (.bool (!a.isNone)) w:=by
 have h:∀d:Nat,(Op.equalIn (d+1) tp (.pointer a) (.pointer none)).run P w=.ok a.isNone w:=λd=>by cases a<;>simp[Op.equalIn,run_underlying hp]
 simp only[binOp];simp[Op.equal,Op.maxDepth,h 9999]
variable{u T:Nat}
def z8{x:Operand}{r:Bool}(ho:o.op=.binOp .eql t x y u)(ht:P.underlying t=some (.pointer T))(lY:Rs (ρ x)=some r)(Jk:ρ y=.jx):PO P o ρ H (.g (.bool r)) H:=
 jr λc ρr hr hx=>by obtain⟨a,h1,h3⟩:=OO (hx x (by simp[ho,Op.operands])) lY;have h2:=hx y (by simp[ho,Op.operands]);rw[Jk]at h2;generalize vI:ρr y=v2 at h2;cases h2;subst h3;exact⟨.bool a.isNone,by simp only[execOp,ho,h1,vI];simp[eqGuard,G8 ht],.g _ _ (.bool _)⟩
def Hs{x:Operand}{r:Bool}(ho:o.op=.binOp .neq t x y u)(ht:P.underlying t=some (.pointer T))(lY:Rs (ρ x)=some r)(Jk:ρ y=.jx):PO P o ρ H (.g (.bool (!r))) H:=
 jr λc ρr hr hx=>by obtain⟨a,h1,h3⟩:=OO (hx x (by simp[ho,Op.operands])) lY;have h2:=hx y (by simp[ho,Op.operands]);rw[Jk]at h2;generalize vI:ρr y=v2 at h2;cases h2;subst h3;exact⟨.bool (!a.isNone),by simp only[execOp,ho,h1,vI];simp[eqGuard,G9 ht],.g _ _ (.bool _)⟩
def run_neq_ptr_same{j:TypeInfo}(a:Addr)(hp:P.underlying tp=some (.pointer te))(U8:P.info? te=some j):
  (binOp .neq tp (.pointer (some a)) (.pointer (some a))).run P w=.ok (.bool false) w:=by
 have h:∀d:Nat,(Op.equalIn (d+1) tp (.pointer (some a)) (.pointer (some a))).run P w=.ok true w:=λd=>by simp[Op.equalIn,run_underlying hp,sizeOf,typeInfo,U8,run_sameAddr_same]
 simp only[binOp];simp[Op.equal,Op.maxDepth,h 9999]
variable{ca:Array Value}
def Ei{j:TypeInfo}{a b:Addr}{cb:Array Value}{ta tb:TypeId}(hp:P.underlying tp=some (.pointer te))(U8:P.info? te=some j)(kl:j.size≠0)
  (js:a≠b) (ha:w.heap[a.block]?=some (.cells ca ta (0,0))) (hb:w.heap[b.block]?=some (.cells cb tb (0,0))):
  (binOp .neq tp (.pointer (some a)) (.pointer (some b))).run P w=.ok (.bool true) w:=by
 have h:∀d:Nat,(Op.equalIn (d+1) tp (.pointer (some a)) (.pointer (some b))).run P w=.ok false w:=λd=>by simp[Op.equalIn,run_underlying hp,sizeOf,typeInfo,U8,kl,run_sameAddr_other w js ha hb]
 simp only[binOp];simp[Op.equal,Op.maxDepth,h 9999]
variable{k:Nat}{op:BinOp}
def FH{a b:Addr}{cb:Array Value}{ta tb:TypeId}{r:Bool}(hp:P.underlying tp=some (.pointer te))(hs:kZ P te=some (k+1))(pQ:op=.eql∨op=.neq)(hr:decide (a=b)=r)
  (ha:w.heap[a.block]?=some (.cells ca ta (0,0))) (hb:w.heap[b.block]?=some (.cells cb tb (0,0))):
  (binOp op tp (.pointer (some a)) (.pointer (some b))).run P w=.ok (.bool (if op=.eql then r else !r)) w:=by
 obtain⟨j,hj,kl⟩:∃j,P.info? te=some j∧j.size=k+1:=by
  unfold kZ at hs;cases hu:P.info? te with
  |none=>rw[hu]at hs;cases hs|some i=>rw[hu]at hs;exact⟨i,rfl,by simpa using hs⟩
 subst hr;by_cases he:a=b
 ·subst he;rcases pQ with rfl|rfl
  simpa using run_eql_ptr_same w a hp hj;simpa using run_neq_ptr_same (w:=w) a hp hj
 ·rcases pQ with rfl|rfl
  simpa[he]using run_eql_ptr_other w hp hj ab he ha hb;simpa[he]using Ei (w:=w) hp hj ab he ha hb
def Aa{x:Operand}{b1 o1 b2 o2:Nat}{cs1 cs2:List PV}(ho:o.op=.binOp op t x y u)(ht:P.underlying t=some (.pointer T))(hs:kZ P T=some (k+1))(pQ:op=.eql∨op=.neq)(lY:ρ x=.ptr b1 o1)(Jk:ρ y=.ptr b2 o2)
  (ri:H.bx[b1]?=some cs1) (G2:H.bx[b2]?=some cs2):PO P o ρ H (.g (.bool (if op=.eql then(Nat.beq b1 b2&&Nat.beq o1 o2)else !(Nat.beq b1 b2&&Nat.beq o1 o2)))) H:=
 jr λc ρr hr hx=>by
  have h1:=hx x (by simp[ho,Op.operands]);have h2:=hx y (by simp[ho,Op.operands]);rw[lY]at h1;rw[Jk]at h2;generalize lI:ρr x=v1 at h1;generalize vI:ρr y=v2 at h2;cases h1 with
  |ptr _ _ aeY e1=>
  cases h2 with
  |ptr _ _ aeZ e2=>
  obtain⟨aot,T1,f1,_⟩:=hr.bx b1 aeY cs1 e1 ri;obtain⟨aou,T2,f2,_⟩:=hr.bx b2 aeZ cs2 e2 G2;have mz:decide ((⟨aeY,o1,none⟩:Addr)=⟨aeZ,o2,none⟩)=(Nat.beq b1 b2&&Nat.beq o1 o2):=by
   by_cases hid:b1=b2;subst hid;rw[e1]at e2;cases e2;rw[fk,Bool.true_and];by_cases hk:o1=o2;rw[hk,fk];simp;rw[eD.2 λh=>hk (bl h)];simp[hk]
   ·have hg:aeY≠aeZ:=λh=>hid (by
     subst h;exact(List.getElem?_inj (aR.1 e1).1 hr.nd).1 (e1.trans e2.symm))
    rw[eD.2 λh=>hid (bl h),dN];simp[hg]
  refine⟨_,?_,.g _ _ (.bool _)⟩;simp only[execOp,ho,lI,vI];have:=FH ht hs pQ mz f1 f2;rcases pQ with rfl|rfl<;>simp[eqGuard,this]
variable{i id2 n2 i2 Gl e2:Nat}{HU:List GV}
def ab6{x:Operand}{id:Nat}(ho:o.op=.binOp op t x y u)(ht:P.underlying t=some (.pointer T))(hsT:kZ P T=some (k+1))(pQ:op=.eql∨op=.neq)(lY:ρ x=.kE id n i off)(Jk:ρ y=.kE id2 n2 i2 Gl)
  (hm:H.mu[id]?=some (.arr n e es)) (xJ:H.mu[id2]?=some (.arr n2 e2 HU)) (hs:kZ P e=some 1) (zf:kZ P e2=some 1) (js:es≠[]) (alQ:HU≠[]):
  PO P o ρ H (.g (.bool (if op=.eql then(Nat.beq id id2&&Nat.beq (i+off) (i2+Gl))else !(Nat.beq id id2&&Nat.beq (i+off) (i2+Gl))))) H:=
 jr λc ρr hr hx=>by
  have h1:=hx x (by simp[ho,Op.operands]);have h2:=hx y (by simp[ho,Op.operands]);rw[lY]at h1;rw[Jk]at h2;generalize lI:ρr x=v1 at h1;generalize vI:ρr y=v2 at h2;cases h1 with
  |kE _ _ _ _ a t1 yS rZ AI ah2=>
  cases h2 with
  |kE _ _ _ _ b t2 sw BM aqY alR=>
  obtain⟨a1,a2,a3,a4⟩:=hr.mu id t1 _ yS hm;obtain⟨b1,b2,b3,b4⟩:=hr.mu id2 t2 _ sw xJ;have z1:=Bl a3 hs;have z2:=Bl b3 zf;obtain⟨l1,aqZ,c1,_⟩:=a4.resolve_left λh=>js h.2;obtain⟨l2,aq0,c2,_⟩:=b4.resolve_left λh=>alQ h.2;have ea:=ah2 a1.symm;have eb:=alR b1.symm;rw[z1,cU]at ea;rw[z2,cU]at eb;subst ea;subst eb;have mz:decide ((⟨t1.g,i+off,none⟩:Addr)=⟨t2.g,i2+Gl,none⟩)=(Nat.beq id id2&&Nat.beq (i+off) (i2+Gl)):=by by_cases hid:id=id2;subst hid;rw[yS]at sw;cases sw;rw[fk,Bool.true_and];by_cases hk:i+off=i2+Gl;rw[hk,fk];simp;rw[eD.2 λh=>hk (bl h)];simp[hk];have hg:t1.g≠t2.g:=λh=>hid (hr.md id id2 t1 t2 yS sw l1 l2 h);rw[eD.2 λh=>hid (bl h),dN];simp[hg]
  refine⟨_,?_,.g _ _ (.bool _)⟩;simp only[execOp,ho,lI,vI];have:=FH ht hsT pQ mz c1 c2;rcases pQ with rfl|rfl<;>simp[eqGuard,this]
end
def Jl:List (Nat×List Value)->Nat->Nat->Option Value
 |[],_,_=>none|(b,vs)::r,g,off=>bif Nat.beq b g then vs[off]? else Jl r g off
def Cw:∀{l:List (Nat×List Value)} {g off:Nat} {v:Value},Jl l g off=some v->∃vs,(g,vs)∈l∧vs[off]?=some v
 |[],_,_,_,h=>by cases h
 |(b,vs)::r,g,off,v,h=>by
  unfold Jl at h;cases hb:Nat.beq b g with
  |true=>
   rw[hb,cr]at h;have:=bl hb;subst this;exact⟨vs,bE,h⟩
  |false=>
   rw[hb,de]at h;obtain⟨Td,h1,h2⟩:=Cw h;exact⟨Td,bw _ h1,h2⟩
section
variable{P:Program}{o:Oper}{ρ:Operand->PV}{H:PH}
variable{v:Value}
def xa{t:TypeId}{x:Operand}{g:Nat}(ho:o.op=.load t x)(h1:qY P t=some false)(lY:ρ x=.mV g off)(hv:(λβ=>Jl (om β) g off)=λ_=>some v):PO P o ρ H (.g (mB v)) H:=
 jr λc ρr hr hx=>by have kf:=hx x (by simp[ho,Op.operands]);rw[lY]at kf;generalize El:ρr x=u at kf;cases kf;obtain⟨⟨β,_,gl⟩,_⟩:=hr.gl;obtain⟨vs,hm,GW⟩:=Cw (congrFun hv β);have hc:=(gl _ hm off v GW).1;exact⟨v,by simp only[execOp,ho,El,Instr.loadAt,Instr.sureAddr];simp[px h1 _ _ hc],.g _ _ (o9 _ _ v)⟩
end
mutual
def zh(id2 n2 id n:Nat):PV->PV
 |.vw k7 n' off len cap=>bif Nat.beq k7 id2&&Nat.beq n' n2 then .vw id n off len cap else .vw k7 n' off len cap|.mU f a b=>.mU f (IS id2 n2 id n a) (IS id2 n2 id n b)|.agg cs=>.agg (IS id2 n2 id n cs)|.tuple cs=>.tuple (IS id2 n2 id n cs)|.lK k7 n'=>.lK k7 n'|.g x=>.g x|.own o8 k7=>.own o8 k7|.ptr b off=>.ptr b off|.jx=>.jx|.iM=>.iM|.pat cs=>.pat cs|.lit o8=>.lit o8|.kE a b c d=>.kE a b c d|.mp a=>.mp a|.qm _ _ _ _=>.any|.mV g off=>.mV g off|.kv g off=>.kv g off|.rz t p=>.rz t (zh id2 n2 id n p)|.any=>.any
def IS(id2 n2 id n:Nat):List PV->List PV
 |[]=>[]|p::r=>zh id2 n2 id n p::IS id2 n2 id n r
end
def Cx(id2 n2 id n:Nat):∀l,IS id2 n2 id n l=l.map (zh id2 n2 id n)
 |[]=>by simp[IS]|p::r=>by simp[IS,Cx id2 n2 id n r]
def aaV(id2 n2 id n:Nat):List (List PV)->List (List PV)
 |[]=>[]|l::r=>IS id2 n2 id n l::aaV id2 n2 id n r
def Mq(id2 n2 id n:Nat):∀l,aaV id2 n2 id n l=l.map (·.map (zh id2 n2 id n))
 |[]=>rfl|p::r=>by simp[aaV,Cx,Mq id2 n2 id n r]
variable{c c':Ctx}{id2 n2 n:Nat}{p:PV}{v:Value}
def XW(hE:CV c c'){id:Nat}(re:∀off len cap v,RV c (.vw id2 n2 off len cap) v->RV c' (.vw id n off len cap) v)(h:RV c p v):RV c' (zh id2 n2 id n p) v:=by
 induction h with
 |vw k7 n' off len cap g t ht hn h1 h2 hv=>
  simp only[zh];cases hb:(Nat.beq k7 id2&&Nat.beq n' n2)with
  |true=>
   rw[cr];simp only[bI]at hb;have e1:=bl hb.1;have e2:=bl hb.2;subst e1;subst e2;exact re off len cap _ (.vw _ _ off len cap g t ht hn h1 h2 hv)
  |false=>rw[de];exact(RV.vw k7 n' off len cap g t ht hn h1 h2 hv).kA hE
 |lK k7 n' v t ht hn h1 hv=>simp only[zh];exact(RV.lK k7 n' v t ht hn h1 hv).kA hE|g x v h=>simp only[zh];exact(RV.g x v h).kA hE|own es id v t h ht hs hl hv=>simp only[zh];exact(RV.own es id v t h ht hs hl hv).kA hE|ptr b off kh h=>simp only[zh];exact(RV.ptr b off kh h).kA hE|jx=>simp only[zh];exact .jx|iM=>simp only[zh];exact .iM|pat cs a f ha hf h=>simp only[zh];exact(RV.pat cs a f ha hf h).kA hE
 |mU fn ps qs us vs hp hq _ _ h1 h2=>
  simp only[zh,Cx];refine .mU fn _ _ us vs (by simpa using hp) (by simpa using hq) (λi p v kD hv=>?_) (λi p v kD hv=>?_);simp only[bj,bh]at kD;obtain⟨q,qH,rfl⟩:=kD;exact h1 i q v qH hv;simp only[bj,bh]at kD;obtain⟨q,qH,rfl⟩:=kD;exact h2 i q v qH hv
 |agg cs vs hl h1 _ ih=>
  simp only[zh,Cx];refine .agg _ vs (by simpa using hl) h1 λi p v kD hv=>?_;simp only[bj,bh]at kD;obtain⟨q,qH,rfl⟩:=kD;exact ih i q v qH hv
 |tuple cs vs hl _ ih=>
  simp only[zh,Cx];refine .tuple _ vs (by simpa using hl) λi p v kD hv=>?_;simp only[bj,bh]at kD;obtain⟨q,qH,rfl⟩:=kD;exact ih i q v qH hv
 |lit es a h=>simp only[zh];exact(RV.lit es a h).kA hE|kE id n i off a t ht hn h1 hv=>simp only[zh];exact(RV.kE id n i off a t ht hn h1 hv).kA hE|mp id v t ht h1 hv=>simp only[zh];exact(RV.mp id v t ht h1 hv).kA hE|qm k7 n' off len g xw cap t ht hn h1 h2 hv=>simp only[zh];exact .any _|mV g off=>simp only[zh];exact .mV g off|kv g off v h hs h1=>simp only[zh];exact(RV.kv g off v h hs h1).kA hE|rz t p v _ ih=>simp only[zh];exact .rz t _ v ih|any v=>simp only[zh];exact .any v
variable{P:Program}{H:PH}{e e2:Nat}{HU:List GV}
def Rel.move(hr:Rel P c H){id:Nat}(js:id≠id2)(hm:H.mu[id]?=some (.arr n e es))(xJ:H.mu[id2]?=some (.arr n2 e2 HU))(hs:kZ P e=some 1)(zf:kZ P e2=some 1):
  ∃c',c'.w=c.w∧c'.hid=c.hid∧Rel P c' ⟨aaV id2 n2 id (n+1) H.bx,H.tk,(H.mu.set id2 (.gone (n2+1))).set id (.arr (n+1) e2 HU)⟩∧kI c c'∧∀p v,RV c p v->RV c' (zh id2 n2 id (n+1) p) v:=by
 have hid:id<c.μ.length:=by rw[hr.nq];exact(aR.1 hm).1
 have Vf:id2<c.μ.length:=by rw[hr.nq];exact(aR.1 xJ).1
 have ht:=aS hid;have sw:=aS Vf;generalize c.μ[id]=t at ht;generalize c.μ[id2]=t2 at sw;have mq:=hr.mu id t _ ht hm;have ae0:=hr.mu id2 t2 _ sw xJ;obtain⟨a1,a2,a3,a4⟩:=mq;obtain⟨b1,b2,b3,b4⟩:=ae0;have s1:=Bl a3 hs;have s2:=Bl b3 zf;obtain⟨r1,r2⟩:=hr.FZ sw (t':={t2 with live:=false,gen:=n2+1}) (o':=.gone (n2+1)) rfl (.inr ah) (w':=c.w) rfl ⟨rfl,λ_=>by first|exact aZ _|exact fc _⟩ rfl (aZ _) (λ_ _ _=>rfl) (λh=>by cases h) (λ_=>⟨rfl,rfl⟩);generalize Vg:(c.μ.set id2 {t2 with live:=false,gen:=n2+1}).set id {t2 with gen:=n+1}=rk;have g0:rk[id]?=some {t2 with gen:=n+1}:=by rw[<-Vg,bZ (by simpa using hid)]
 have g2:rk[id2]?=some {t2 with live:=false,gen:=n2+1}:=by rw[<-Vg,bP js,bZ Vf]
 have gk:∀k,k≠id->k≠id2->rk[k]?=c.μ[k]? :=λk h1 h2=>by rw[<-Vg,bP (ij h1),bP (ij h2)]
 have qz:∀x∈rk,x.live=true->∃y∈c.μ,y.live=true∧y.g=x.g:=by intro x hx lv;obtain⟨k,hk⟩:=bt hx;by_cases h1:k=id;subst h1;rw[g0]at hk;cases hk;exact⟨t2,aY sw,lv,rfl⟩;by_cases h2:k=id2;subst h2;rw[g2]at hk;cases hk;cases lv;rw[gk k h1 h2]at hk;exact⟨x,aY hk,lv,rfl⟩
 have Xf:∀b p,c.jq b p->Ctx.jq ⟨c.σ,c.τ,rk,c.hid,c.w⟩ b p:=λb p h=>⟨h.1,h.2.1,h.2.2.1,λx hx lv e=>by obtain⟨y,hy,kj,e'⟩:=qz x hx lv;exact h.2.2.2 y hy kj (e'.trans e)⟩;have hk:yN c.w c.w c.jq (Ctx.jq ⟨c.σ,c.τ,rk,c.hid,c.w⟩):=λa v _ hs hc=>⟨hc,Xf _ _ hs⟩;have hE:kI c ⟨c.σ,c.τ,rk,c.hid,c.w⟩:=by refine⟨rfl,⟨rfl,λ_=>aZ _⟩,rfl,aZ _,rfl,⟨[],by simp⟩,λ_ t h=>⟨t,h,rfl,rfl,.inl rfl⟩,?_,λx hx lv=>.inl (qz x hx lv),λt h lv=>.inl ⟨t,h,lv,rfl⟩,hk,λ_ _ _ _ _=>rfl⟩;intro k x hx;by_cases h1:k=id;subst h1;rw[ht]at hx;cases hx;exact⟨_,g0,by rw[s1];exact s2,.inr ah⟩;by_cases h2:k=id2;subst h2;rw[sw]at hx;cases hx;exact⟨_,g2,rfl,.inr ah⟩;exact⟨x,by rw[gk k h1 h2];exact hx,rfl,.inl rfl⟩
 have re:∀off len cap v,RV c (.vw id2 n2 off len cap) v->RV ⟨c.σ,c.τ,rk,c.hid,c.w⟩ (.vw id (n+1) off len cap) v:=by
  intro off len cap v hv;cases hv with
  |vw _ _ _ _ _ g t3 OP hn h1 h2 hv=>
   rw[sw]at OP;cases OP;exact .vw id (n+1) off len cap g _ g0 (aZ _) h1 h2 λ_=>hv b1.symm
 refine⟨⟨c.σ,c.τ,rk,c.hid,c.w⟩,rfl,rfl,?_,hE,λp v h=>XW hE.kA re h⟩;refine{len:=by rw[Mq];simpa using hr.len,bx:= ?_,tk:=hr.tk,tb:=hr.tb,nd:=hr.nd,td:=hr.td,st:=hr.st,nu:=hr.nu,tG:=hr.tG,pB:=hr.pB,dead:=hr.dead,nq:= ?_,mu:= ?_,mlt:= ?_,md:= ?_,ms:= ?_,mt:= ?_,sW:= ?_,gl:=hr.gl.kF hk};intro i b cs hb kR;rw[Mq]at kR;simp only[bj,bh]at kR;obtain⟨ds,pO,rfl⟩:=kR;obtain⟨jJ,T,e1,e2,e3⟩:=hr.bx i b ds hb pO;refine⟨jJ,T,e1,by simpa using e2,λj p v hp hv=>?_⟩;simp only[bj,bh]at hp;obtain⟨q,hq,rfl⟩:=hp;exact⟨XW hE.kA re (e3 j q v hq hv).1,(e3 j q v hq hv).2⟩;show rk.length=_;rw[<-Vg];simpa using hr.nq;intro i x o hx ho;replace hx:rk[i]?=some x:=hx;by_cases h1:i=id;subst h1;rw[g0]at hx;cases hx;rw[bZ (by simpa using(aR.1 hm).1)]at ho;cases ho;refine⟨rfl,b2,b3,b4.imp (λh=>h) ?_⟩;rintro⟨lv,cur,c1,c2,c3,c4,c5,c6⟩;exact⟨lv,cur,c1,c2,c3,c4,c5,λi x j g v hx hg hv=>⟨(c6 i x j g v hx hg hv).1.mono hk,(c6 i x j g v hx hg hv).2⟩⟩;rw[bP (ij h1)]at ho;by_cases h2:i=id2;subst h2;rw[g2]at hx;cases hx;rw[bZ (aR.1 xJ).1]at ho;cases ho;exact⟨rfl,rfl⟩;rw[bP (ij h2)]at ho;rw[gk i h1 h2]at hx;exact yO.mono hE (λ_=>rfl) (hr.mu i x o hx ho);intro x hx lv;obtain⟨y,hy,kj,e⟩:=qz x hx lv;exact e▸hr.mlt y hy kj
 ·intro i j x y hx hy lx ly e;have key:∀(k:Nat) (z:oZ),rk[k]?=some z->z.live=true->∃k' z',c.μ[k']?=some z'∧z'.live=true∧z'.g=z.g∧((k=id∧k'=id2)∨(k≠id∧k≠id2∧k'=k)):=by
   intro k z hz lz;by_cases h1:k=id;subst h1;rw[g0]at hz;cases hz;exact⟨id2,t2,sw,lz,rfl,.inl ⟨rfl,rfl⟩⟩;by_cases h2:k=id2;subst h2;rw[g2]at hz;cases hz;cases lz;rw[gk k h1 h2]at hz;exact⟨k,z,hz,lz,rfl,.inr ⟨h1,h2,rfl⟩⟩
  obtain⟨i',x',lY,lx',ex,di⟩:=key i x hx lx;obtain⟨j',y',Jk,ly',ey,dj⟩:=key j y hy ly;have:=hr.md i' j' x' y' lY Jk lx' ly' (ex.trans (e.trans ey.symm));omega
 intro x hx lv;obtain⟨y,hy,kj,e⟩:=qz x hx lv;exact e▸hr.ms y hy kj;intro x hx lv;obtain⟨y,hy,kj,e⟩:=qz x hx lv;exact e▸hr.mt y hy kj;intro x hx lv;obtain⟨y,hy,kj,e⟩:=qz x hx lv;exact e▸hr.sW y hy kj
mutual
def swp(id2 n2 id n:Nat):PV->PV
 |.vw k7 n' off len cap=>bif Nat.beq k7 id2&&Nat.beq n' n2 then .vw id (n+1) off len cap else bif Nat.beq k7 id&&Nat.beq n' n then .vw id2 (n2+1) off len cap else .vw k7 n' off len cap|.mU f a b=>.mU f (IT id2 n2 id n a) (IT id2 n2 id n b)|.agg cs=>.agg (IT id2 n2 id n cs)|.tuple cs=>.tuple (IT id2 n2 id n cs)|.lK k7 n'=>.lK k7 n'|.g x=>.g x|.own o8 k7=>.own o8 k7|.ptr b off=>.ptr b off|.jx=>.jx|.iM=>.iM|.pat cs=>.pat cs|.lit o8=>.lit o8|.kE a b c d=>.kE a b c d|.mp a=>.mp a|.qm _ _ _ _=>.any|.mV g off=>.mV g off|.kv g off=>.kv g off|.rz t p=>.rz t (swp id2 n2 id n p)|.any=>.any
def IT(id2 n2 id n:Nat):List PV->List PV
 |[]=>[]|p::r=>swp id2 n2 id n p::IT id2 n2 id n r
end
def Cy(id2 n2 id n:Nat):∀l,IT id2 n2 id n l=l.map (swp id2 n2 id n)
 |[]=>by simp[IT]|p::r=>by simp[IT,Cy id2 n2 id n r]
def Vh(id2 n2 id n:Nat):List (List PV)->List (List PV)
 |[]=>[]|l::r=>IT id2 n2 id n l::Vh id2 n2 id n r
def Mr(id2 n2 id n:Nat):∀l,Vh id2 n2 id n l=l.map (·.map (swp id2 n2 id n))
 |[]=>rfl|p::r=>by simp[Vh,Cy,Mr id2 n2 id n r]
def XX(hE:CV c c'){id:Nat}(re:∀off len cap v,RV c (.vw id2 n2 off len cap) v->RV c' (.vw id (n+1) off len cap) v)(xH:∀off len cap v,RV c (.vw id n off len cap) v->RV c' (.vw id2 (n2+1) off len cap) v)(h:RV c p v):RV c' (swp id2 n2 id n p) v:=by
 induction h with
 |vw k7 n' off len cap g t ht hn h1 h2 hv=>
  simp only[swp];cases hb:(Nat.beq k7 id2&&Nat.beq n' n2)with
  |true=>
   rw[cr];simp only[bI]at hb;have e1:=bl hb.1;have e2:=bl hb.2;subst e1;subst e2;exact re off len cap _ (.vw _ _ off len cap g t ht hn h1 h2 hv)
  |false=>
   rw[de];cases G2:(Nat.beq k7 id&&Nat.beq n' n)with
   |true=>
    rw[cr];simp only[bI]at G2;have e1:=bl G2.1;have e2:=bl G2.2;subst e1;subst e2;exact xH off len cap _ (.vw _ _ off len cap g t ht hn h1 h2 hv)
   |false=>rw[de];exact(RV.vw k7 n' off len cap g t ht hn h1 h2 hv).kA hE
 |lK k7 n' v t ht hn h1 hv=>simp only[swp];exact(RV.lK k7 n' v t ht hn h1 hv).kA hE|g x v h=>simp only[swp];exact(RV.g x v h).kA hE|own es id v t h ht hs hl hv=>simp only[swp];exact(RV.own es id v t h ht hs hl hv).kA hE|ptr b off kh h=>simp only[swp];exact(RV.ptr b off kh h).kA hE|jx=>simp only[swp];exact .jx|iM=>simp only[swp];exact .iM|pat cs a f ha hf h=>simp only[swp];exact(RV.pat cs a f ha hf h).kA hE
 |mU fn ps qs us vs hp hq _ _ h1 h2=>
  simp only[swp,Cy];refine .mU fn _ _ us vs (by simpa using hp) (by simpa using hq) (λi p v kD hv=>?_) (λi p v kD hv=>?_);simp only[bj,bh]at kD;obtain⟨q,qH,rfl⟩:=kD;exact h1 i q v qH hv;simp only[bj,bh]at kD;obtain⟨q,qH,rfl⟩:=kD;exact h2 i q v qH hv
 |agg cs vs hl h1 _ ih=>
  simp only[swp,Cy];refine .agg _ vs (by simpa using hl) h1 λi p v kD hv=>?_;simp only[bj,bh]at kD;obtain⟨q,qH,rfl⟩:=kD;exact ih i q v qH hv
 |tuple cs vs hl _ ih=>
  simp only[swp,Cy];refine .tuple _ vs (by simpa using hl) λi p v kD hv=>?_;simp only[bj,bh]at kD;obtain⟨q,qH,rfl⟩:=kD;exact ih i q v qH hv
 |lit es a h=>simp only[swp];exact(RV.lit es a h).kA hE|kE id n i off a t ht hn h1 hv=>simp only[swp];exact(RV.kE id n i off a t ht hn h1 hv).kA hE|mp id v t ht h1 hv=>simp only[swp];exact(RV.mp id v t ht h1 hv).kA hE|qm k7 n' off len g xw cap t ht hn h1 h2 hv=>simp only[swp];exact .any _|mV g off=>simp only[swp];exact .mV g off|kv g off v h hs h1=>simp only[swp];exact(RV.kv g off v h hs h1).kA hE|rz t p v _ ih=>simp only[swp];exact .rz t _ v ih|any v=>simp only[swp];exact .any v
def Rel.swap(hr:Rel P c H){id:Nat}(js:id≠id2)(hm:H.mu[id]?=some (.arr n e es))(xJ:H.mu[id2]?=some (.arr n2 e2 HU))(hs:kZ P e=some 1)(zf:kZ P e2=some 1):
  ∃c',c'.w=c.w∧c'.hid=c.hid∧Rel P c' ⟨Vh id2 n2 id n H.bx,H.tk,(H.mu.set id2 (.arr (n2+1) e es)).set id (.arr (n+1) e2 HU)⟩∧kI c c'∧∀p v,RV c p v->RV c' (swp id2 n2 id n p) v:=by
 have hid:id<c.μ.length:=by rw[hr.nq];exact(aR.1 hm).1
 have Vf:id2<c.μ.length:=by rw[hr.nq];exact(aR.1 xJ).1
 have ht:=aS hid;have sw:=aS Vf;generalize c.μ[id]=t at ht;generalize c.μ[id2]=t2 at sw;have mq:=hr.mu id t _ ht hm;have ae0:=hr.mu id2 t2 _ sw xJ;obtain⟨a1,a2,a3,a4⟩:=mq;obtain⟨b1,b2,b3,b4⟩:=ae0;have s1:=Bl a3 hs;have s2:=Bl b3 zf;generalize Vg:(c.μ.set id2 {t with gen:=n2+1}).set id {t2 with gen:=n+1}=rk;have g0:rk[id]?=some {t2 with gen:=n+1}:=by rw[<-Vg,bZ (by simpa using hid)]
 have g2:rk[id2]?=some {t with gen:=n2+1}:=by rw[<-Vg,bP js,bZ Vf]
 have gk:∀k,k≠id->k≠id2->rk[k]?=c.μ[k]? :=λk h1 h2=>by rw[<-Vg,bP (ij h1),bP (ij h2)]
 have qz:∀x∈rk,x.live=true->∃y∈c.μ,y.live=true∧y.g=x.g:=by intro x hx lv;obtain⟨k,hk⟩:=bt hx;by_cases h1:k=id;subst h1;rw[g0]at hk;cases hk;exact⟨t2,aY sw,lv,rfl⟩;by_cases h2:k=id2;subst h2;rw[g2]at hk;cases hk;exact⟨t,aY ht,lv,rfl⟩;rw[gk k h1 h2]at hk;exact⟨x,aY hk,lv,rfl⟩
 have Xf:∀b p,c.jq b p->Ctx.jq ⟨c.σ,c.τ,rk,c.hid,c.w⟩ b p:=λb p h=>⟨h.1,h.2.1,h.2.2.1,λx hx lv e=>by obtain⟨y,hy,kj,e'⟩:=qz x hx lv;exact h.2.2.2 y hy kj (e'.trans e)⟩;have hk:yN c.w c.w c.jq (Ctx.jq ⟨c.σ,c.τ,rk,c.hid,c.w⟩):=λa v _ hs hc=>⟨hc,Xf _ _ hs⟩;have hE:kI c ⟨c.σ,c.τ,rk,c.hid,c.w⟩:=by refine⟨rfl,⟨rfl,λ_=>aZ _⟩,rfl,aZ _,rfl,⟨[],by simp⟩,λ_ t h=>⟨t,h,rfl,rfl,.inl rfl⟩,?_,λx hx lv=>.inl (qz x hx lv),λt h lv=>.inl ⟨t,h,lv,rfl⟩,hk,λ_ _ _ _ _=>rfl⟩;intro k x hx;by_cases h1:k=id;subst h1;rw[ht]at hx;cases hx;exact⟨_,g0,by rw[s1];exact s2,.inr ah⟩;by_cases h2:k=id2;subst h2;rw[sw]at hx;cases hx;exact⟨_,g2,by rw[s2];exact s1,.inr ah⟩;exact⟨x,by rw[gk k h1 h2];exact hx,rfl,.inl rfl⟩
 have re:∀off len cap v,RV c (.vw id2 n2 off len cap) v->RV ⟨c.σ,c.τ,rk,c.hid,c.w⟩ (.vw id (n+1) off len cap) v:=by
  intro off len cap v hv;cases hv with
  |vw _ _ _ _ _ g t3 OP hn h1 h2 hv=>
   rw[sw]at OP;cases OP;exact .vw id (n+1) off len cap g _ g0 (aZ _) h1 h2 λ_=>hv b1.symm
 have xH:∀off len cap v,RV c (.vw id n off len cap) v->RV ⟨c.σ,c.τ,rk,c.hid,c.w⟩ (.vw id2 (n2+1) off len cap) v:=by
  intro off len cap v hv;cases hv with
  |vw _ _ _ _ _ g t3 OP hn h1 h2 hv=>
   rw[ht]at OP;cases OP;exact .vw id2 (n2+1) off len cap g _ g2 (aZ _) h1 h2 λ_=>hv a1.symm
 refine⟨⟨c.σ,c.τ,rk,c.hid,c.w⟩,rfl,rfl,?_,hE,λp v h=>XX hE.kA re xH h⟩;refine{len:=by rw[Mr];simpa using hr.len,bx:= ?_,tk:=hr.tk,tb:=hr.tb,nd:=hr.nd,td:=hr.td,st:=hr.st,nu:=hr.nu,tG:=hr.tG,pB:=hr.pB,dead:=hr.dead,nq:= ?_,mu:= ?_,mlt:= ?_,md:= ?_,ms:= ?_,mt:= ?_,sW:= ?_,gl:=hr.gl.kF hk};intro i b cs hb kR;rw[Mr]at kR;simp only[bj,bh]at kR;obtain⟨ds,pO,rfl⟩:=kR;obtain⟨jJ,T,e1,e2,e3⟩:=hr.bx i b ds hb pO;refine⟨jJ,T,e1,by simpa using e2,λj p v hp hv=>?_⟩;simp only[bj,bh]at hp;obtain⟨q,hq,rfl⟩:=hp;exact⟨XX hE.kA re xH (e3 j q v hq hv).1,(e3 j q v hq hv).2⟩;show rk.length=_;rw[<-Vg];simpa using hr.nq;intro i x o hx ho;replace hx:rk[i]?=some x:=hx;by_cases h1:i=id;subst h1;rw[g0]at hx;cases hx;rw[bZ (by simpa using(aR.1 hm).1)]at ho;cases ho;refine⟨rfl,b2,b3,b4.imp (λh=>h) ?_⟩;rintro⟨lv,cur,c1,c2,c3,c4,c5,c6⟩;exact⟨lv,cur,c1,c2,c3,c4,c5,λi x j g v hx hg hv=>⟨(c6 i x j g v hx hg hv).1.mono hk,(c6 i x j g v hx hg hv).2⟩⟩;rw[bP (ij h1)]at ho;by_cases h2:i=id2;subst h2;rw[g2]at hx;cases hx;rw[bZ (aR.1 xJ).1]at ho;cases ho;refine⟨rfl,a2,a3,a4.imp (λh=>h) ?_⟩;rintro⟨lv,cur,c1,c2,c3,c4,c5,c6⟩;exact⟨lv,cur,c1,c2,c3,c4,c5,λi x j g v hx hg hv=>⟨(c6 i x j g v hx hg hv).1.mono hk,(c6 i x j g v hx hg hv).2⟩⟩;rw[bP (ij h2)]at ho;rw[gk i h1 h2]at hx;exact yO.mono hE (λ_=>rfl) (hr.mu i x o hx ho);intro x hx lv;obtain⟨y,hy,kj,e⟩:=qz x hx lv;exact e▸hr.mlt y hy kj
 ·intro i j x y hx hy lx ly e;have key:∀(k:Nat) (z:oZ),rk[k]?=some z->z.live=true->∃k' z',c.μ[k']?=some z'∧z'.live=true∧z'.g=z.g∧((k=id∧k'=id2)∨(k=id2∧k'=id)∨(k≠id∧k≠id2∧k'=k)):=by
   intro k z hz lz;by_cases h1:k=id;subst h1;rw[g0]at hz;cases hz;exact⟨id2,t2,sw,lz,rfl,.inl ⟨rfl,rfl⟩⟩;by_cases h2:k=id2;subst h2;rw[g2]at hz;cases hz;exact⟨id,t,ht,lz,rfl,.inr (.inl ⟨rfl,rfl⟩)⟩;rw[gk k h1 h2]at hz;exact⟨k,z,hz,lz,rfl,.inr (.inr ⟨h1,h2,rfl⟩)⟩
  obtain⟨i',x',lY,lx',ex,di⟩:=key i x hx lx;obtain⟨j',y',Jk,ly',ey,dj⟩:=key j y hy ly;have:=hr.md i' j' x' y' lY Jk lx' ly' (ex.trans (e.trans ey.symm));omega
 intro x hx lv;obtain⟨y,hy,kj,e⟩:=qz x hx lv;exact e▸hr.ms y hy kj;intro x hx lv;obtain⟨y,hy,kj,e⟩:=qz x hx lv;exact e▸hr.mt y hy kj;intro x hx lv;obtain⟨y,hy,kj,e⟩:=qz x hx lv;exact e▸hr.sW y hy kj
section
variable{P:Program}{N:Nat}{Q:Exit->Env->PH->Prop}{env:Env}{H:PH}
variable{code:Code}
def Cz(id id2:Nat)(js:Nat.beq id id2=false)(hm:H.mu[id]?=some (.arr n e es))(xJ:H.mu[id2]?=some (.arr n2 e2 HU))(hs:kZ P e=some 1)(zf:kZ P e2=some 1)
  (h:PW P N code Q (λt=>swp id2 n2 id n (env t)) ⟨Vh id2 n2 id n H.bx,H.tk,(H.mu.set id2 (.arr (n2+1) e es)).set id (.arr (n+1) e2 HU)⟩):PW P N code Q env H:=by
 intro c a hr he;obtain⟨c',hw,hh,r1,e1,r2⟩:=hr.swap (λh=>by rw[h,fk]at js;cases js) hm xJ hs zf;have:=h c' a r1 ⟨he.defers.trans (aT Hid.d hh).symm,he.size,λt=>r2 _ _ (he.slot t)⟩;rw[hw]at this;refine wp_mono this ?_;rintro x a' w' ⟨c2,env',H',q,rfl,kP,rX,mw⟩;exact⟨c2,env',H',q,rfl,kP,e1.trans rX,mw⟩
end
section
variable{P:Program}{o:Oper}{ρ:Operand->PV}{H H':PH}{v v':PV}
variable{id0:FuncId}{ps:List PV}
def Nk(ks:List Bool){f:Operand}{args:Array Operand}{ts:Array TypeId}{id:FuncId}(ho:o.op=.call {callee:=.value f,args:=args,argTypes:=ts})
  (hf:ρ f=.g (.raw (.func (.func id0) #[] #[]))) (he:∀(args:Array Value) (w:World),(callFunc id0 args).run P w=.ok (.enter id args) w) (ha:od ρ ks args.toList=ps) (hp:PC P id ps H v H'):PO P o ρ H v H':=by
 intro c ρr hr hx;have tI:∀x,x=f∨x∈args.toList->x∈o.op.operands.toList:=by
  intro x hx;simp[ho,Op.operands,Call.operands];rcases hx with rfl|hx
  exact .inl rfl;exact .inr (by simpa using hx)
 have xx:=hx f (tI f (.inl rfl));rw[hf]at xx;have S3:=Bc xx;have kX:(execOp ρr o).run P c.w=.ok (.enter id (args.map ρr)) c.w:=by simp[execOp,ho,resolve,S3,Deferred.ofValue,invoke,he]
 unfold kU;rw[kX];refine(hp c _ hr ⟨by rw[<-ha,nz];simp,λi p u kD hu=>?_⟩).mono ?_;simp only[ff,bh]at hu;obtain⟨x,kf,rfl⟩:=hu;rw[<-ha]at kD;exact uK ks args.toList (λz hz=>hx z (tI z (.inr hz))) i p x kD (by simpa using kf);rintro e w' ⟨rv,c',rfl,rfl,kP,hE,pr⟩;exact⟨rv,rfl,c',rfl,kP,hE,pr⟩
variable{H0 H1:PH}{I J L:List Nat}
def ct(ks:List Bool){f:Operand}{args:Array Operand}{ts:Array TypeId}{id:FuncId}{qs:List PV}{v1:PV}(ho:o.op=.call {callee:=.value f,args:=args,argTypes:=ts})
  (hf:ρ f=.g (.raw (.func (.func id0) #[] #[]))) (he:∀(args:Array Value) (w:World),(callFunc id0 args).run P w=.ok (.enter id args) w) (hp:PC P id ps H0 v1 H1) (hq:rR (od ρ ks args.toList)=some qs) (_hI:Bk H.bx 40 (tU qs) []=I) (_hJ:dedup [] (tV qs++tV (qN H.bx I))=J) (_hL:dedup [] (q9 qs++q9 (qN H.bx I))=L) (hn:(nodupB I&&nodupB J&&nodupB L)=true)
  (hb:tl I J L H.bx I=some H0.bx) (ht:tW H.tk J=some H0.tk) (hm:tX H.mu L=some H0.mu) (ha:pa (posOf I) (posOf J) (posOf L) qs=ps) (hv:l9 (rF (jw I H.bx.length) (jw J H.tk.length) (jw L H.mu.length) v1)=some v') (hH:w9 (back I J L H H1)=some H'):
  PO P o ρ H v' H':=by
 rw[pG]at hq;exact Nk ks ho hf he (cE hq) (I7 hp I J L hn hb ht hm ha hv hH)
def Nl(ks:List (IntKind×Int)):Array Value:=(ks.map λk=>Value.int k.1 k.2).toArray
def FI{f:Operand}{args:Array Operand}{ts:Array TypeId}{id:FuncId}{ks:List (IntKind×Int)}{u:Value}(ho:o.op=.call {callee:=.value f,args:=args,argTypes:=ts})
  (hf:ρ f=.g (.raw (.func (.func id) #[] #[]))) (ha:args.toList.map ρ=ks.map λk=>PV.g (.int k.1 k.2)) (h:∀w:World,(callFunc id (Nl ks)).run P w=.ok (.value u) w) (hv:∀c:Ctx,RV c p u):PO P o ρ H p H:=
 jr λc ρr hr hx=>by
  have tI:∀x,x=f∨x∈args.toList->x∈o.op.operands.toList:=by
   intro x hx;simp[ho,Op.operands,Call.operands];rcases hx with rfl|hx
   exact .inl rfl;exact .inr (by simpa using hx)
  have xx:=hx f (tI f (.inl rfl));rw[hf]at xx;have S3:=Bc xx;have I1:args.map ρr=Nl ks:=by
   apply Array.ext_getElem?;intro i;have h1:(args.toList.map ρ)[i]?=(ks.map λk=>PV.g (.int k.1 k.2))[i]? :=(by rw[ha]);simp only[bj]at h1;unfold Nl;simp only[ff,dV,bj];cases hi:args[i]? with
   |none=>
    have:args.toList[i]?=none:=(by simpa using hi);rw[this]at h1;cases hk:ks[i]? with
    |none=>rfl|some k=>rw[hk]at h1;cases h1
   |some x=>
    have lk:args.toList[i]?=some x:=(by simpa using hi);rw[lk]at h1;cases hk:ks[i]? with
    |none=>rw[hk]at h1;cases h1
    |some k=>
     rw[hk]at h1;simp only[eS,cg]at h1;have kf:=hx x (tI x (.inr (aY lk)));rw[h1]at kf;simp[k6 kf]
  refine⟨u,?_,hv c⟩;simp[execOp,ho,resolve,S3,Deferred.ofValue,invoke,I1,h]
end
structure Kr where
 fn:FuncId
 args:List PV
def Ab(c:Ctx):List Kr->List Deferred->Prop
 |[],l=>l=[]|d::ds,l=>∃x r,l=x::r∧x.target=.fn (.func d.fn) #[]∧Xw c d.args x.args∧Ab c ds r
def Ab.kA{c c':Ctx}(hE:CV c c'):∀{ds:List Kr} {l:List Deferred},Ab c ds l->Ab c' ds l
 |[],_,h=>h|_::_,_,⟨x,r,h1,h2,h3,h4⟩=>⟨x,r,h1,h2,⟨h3.1,λi p v hp hv=>(h3.2 i p v hp hv).kA hE⟩,h4.kA hE⟩
def PCd(P:Program)(f:FuncId)(args:List PV)(H:PH)(H':PH):Prop:=
 ∀(c:Ctx) (vs:Array Value),Rel P c H->Xw c args vs->
  CallsD P f vs .returning c.w λe u w'=>u=.returning∧∃rv c',e=.returned rv∧c'.w=w'∧Rel P c' H'∧kI c c'
section
variable{P:Program}
variable{f:FuncId}{fn:Func}{code:Code}{N:Nat}{rs:List ResultVar}{args:List PV}{H':PH}
def AK{v:PV}(hf:P.funcs[f]?=some fn)(hb:fn.body=some code)(hn:fn.ntmps=N)
  (vF:fn.results=rs.toArray) (hl:args.length<=N) (h:PW P N code (JF P rs H v H') (JG args) H):PCd P f args H H':=λc vs hr ha=>by
 refine CallsD.mono (callsD_of_wp (u:=.returning) hf hb (Om hn vF hl h hr ha)) ?_;rintro e u w' ⟨hu,rv,c',h1,h2,h3,h4,_⟩;exact⟨hu,rv,c',h1,h2,h3,h4⟩
def aaW(P:Program)(rs:List ResultVar)(H0:PH)(v:PV)(H':PH)(e:Exit)(env:Env):List Kr->PH->Prop
 |[],H2=>JF P rs H0 v H' e env H2|d::ds,H2=>∃H3,nI P d.fn=true∧PCd P d.fn d.args H2 H3∧aaW P rs H0 v H' e env ds H3
def kI.wd2(hE:kI c c')(d:List Deferred):kI (c.wd d) (c'.wd d):=
  { os:=hE.os,tape:=hE.tape,output:=hE.output,size:=hE.size,hid:=by
      show(⟨c'.hid.f,d⟩:Hid)=⟨c.hid.f,d⟩;rw[hE.hid]
    sig:=hE.sig,tok:=hE.tok,mu:=hE.mu,sA:=hE.sA,pq:=hE.pq,kF:=hE.kF,frame:=hE.frame}
def vz{fn:Func}{rs:List ResultVar}{H0 H':PH}{v:PV}{e:Exit}{env:Env}{N:Nat}{tmps:Array Value}(vF:fn.results=rs.toArray)(hN:tmps.size=N){c0:Ctx}(zP:Rel P c0 H0):
  ∀(ds:List Kr) (l:List Deferred) (H2:PH) (c:Ctx),aaW P rs H0 v H' e env ds H2->Rel P c H2->kI (c0.wd []) (c.wd [])->Ab c ds l->(∀t,RV c (env t) (tmps.getD t undef))->
   Leaves P fn tmps (λe w'=>∃rv c',e=.returned rv∧c'.w=w'∧Rel P c' H'∧kI c0 c'∧RV c' v rv) l .returning c.w
 |[],l,H2,c,hd,hr,hE,hl,hs=>by cases hl;have:=Em (a:=⟨tmps,[]⟩) zP vF hd (hr.wd []) hE hN (λt=>(hs t).wd []);exact this
 |d::ds,l,H2,c,hd,hr,hE,hl,hs=>by obtain⟨x,r,rfl,ht,ha,XE⟩:=hl;obtain⟨H3,he,hp,Ep⟩:=hd;have zZ:=hp c x.args hr ha;refine⟨(λh=>by cases h),.func d.fn, #[],d.fn,x.args,ht,?_,zZ.mono ?_⟩;rw[ht];simp[invoke,qn he];rintro e' u w' ⟨rfl,rv,c',rfl,rfl,kP,rX⟩;exact vz vF hN zP ds r H3 c' Ep kP (hE.trans (rX.wd2 [])) (XE.kA rX.kA) (λt=>(hs t).mono rX)
def PM(P:Program)(N:Nat)(rs:List ResultVar)(H0:PH)(v:PV)(H':PH)(code:Code)(K:List Kr->Env->PH->Prop)(ds:List Kr)(env:Env)(H:PH):Prop:=
 ∀(fn:Func) (c0 c:Ctx) (a:Act),fn.results=rs.toArray->Rel P c0 H0->Rel P c H->kI (c0.wd []) (c.wd [])->ER c N env a->Ab c ds a.defers->
  code.wp P (λe a' w'=>(e=.normal∧∃c' env' H1 XY,K XY env' H1∧c'.w=w'∧Rel P c' H1∧kI (c0.wd []) (c'.wd [])∧ER c' N env' a'∧Ab c' XY a'.defers)∨
   (e=.ret∧Leaves P fn a'.tmps (λe w'=>∃rv c',e=.returned rv∧c'.w=w'∧Rel P c' H'∧kI c0 c'∧RV c' v rv) a'.defers .returning w')) a c.w
section
variable{N:Nat}{rs:List ResultVar}{H0 H' H:PH}{v:PV}{ds:List Kr}{env:Env}{K:List Kr->Env->PH->Prop}
def qt{x:Code}(h:PW P N x (λe env' H1=>(e=.normal∧K ds env' H1)∨(e=.ret∧aaW P rs H0 v H' e env' ds H1)) env H):PM P N rs H0 v H' x K ds env H:=by
 intro fn c0 c a vF zP hr hE he hd;refine wp_mono (h c a hr he) ?_;rintro e a' w' ⟨c',env',H1,hx,rfl,kP,rX,mw⟩;have GU:a'.defers=a.defers:=by rw[mw.defers,he.defers,rX.hid]
 have Ep:Ab c' ds a'.defers:=by rw[GU];exact hd.kA rX.kA
 rcases hx with⟨rfl,hk⟩|⟨rfl,F1⟩
 exact .inl ⟨rfl,c',env',H1,ds,hk,rfl,kP,hE.trans (rX.wd2 []),mw,Ep⟩;exact .inr ⟨rfl,vz vF mw.size zP ds a'.defers H1 c' F1 kP (hE.trans (rX.wd2 [])) Ep mw.slot⟩
def tz{x y:Code}(h:PM P N rs H0 v H' x (PM P N rs H0 v H' y K) ds env H):PM P N rs H0 v H' (.seq x y) K ds env H:=by intro fn c0 c a vF zP hr hE he hd;refine wp_seq (wp_mono (h fn c0 c a vF zP hr hE he hd) ?_);rintro e a' w' (⟨rfl,c',env',H1,XY,hk,rfl,kP,rX,mw,Ep⟩|⟨rfl,hl⟩);exact hk fn c0 c' a' vF zP kP rX mw Ep;exact .inr ⟨rfl,hl⟩
def sR(h:K ds env H):PM P N rs H0 v H' .skip K ds env H:=λ_ _ c _ _ _ hr hE he hd=>wp_skip (.inl ⟨rfl,c,env,H,ds,h,rfl,hr,hE,he,hd⟩)
def pb{x:Operand}{t e:Code}(hx:env.eval x=.g (.bool true))(h:PM P N rs H0 v H' t K ds env H):PM P N rs H0 v H' (.cond x t e) K ds env H:=by
 intro fn c0 c a vF zP hr hE he hd;have hv:=he.eval x;rw[hx]at hv;cases hv with
 |g _ v hg=>
  generalize hv:a.eval x=v at hg;cases hg;exact wp_cond_split hv (λ_=>h fn c0 c a vF zP hr hE he hd) (λe=>by cases e)
def ot{x:Operand}{t e:Code}(hx:env.eval x=.g (.bool false))(h:PM P N rs H0 v H' e K ds env H):PM P N rs H0 v H' (.cond x t e) K ds env H:=by
 intro fn c0 c a vF zP hr hE he hd;have hv:=he.eval x;rw[hx]at hv;cases hv with
 |g _ v hg=>
  generalize hv:a.eval x=v at hg;cases hg;exact wp_cond_split hv (λe=>by cases e) (λ_=>h fn c0 c a vF zP hr hE he hd)
def yU{all:Array Oper}{o:Oper}{f:Operand}{args:Array Operand}{ts:Array TypeId}(ho:o.op=.defer {callee:=.value f,args:=args,argTypes:=ts})(hg:o.guard=none)(JX:∀t,o.dst=some t->t<N):∀(l:List Oper) (env:Env) (H:PH),
  jQ P N all (λenv' H1=>∃id,env'.eval f=.g (.raw (.func (.func id) #[] #[]))∧K (⟨id,args.toList.map env'.eval⟩::ds) (qE env' o.dst mW) H1) l env H->∀(c0 c:Ctx) (a:Act),Rel P c H->kI (c0.wd []) (c.wd [])->ER c N env a->Ab c ds a.defers->
  wpList P all (λe a' w'=>e=.normal∧∃c' env' H1 XY,K XY env' H1∧c'.w=w'∧Rel P c' H1∧kI (c0.wd []) (c'.wd [])∧ER c' N env' a'∧Ab c' XY a'.defers) (l++[o]) a c.w
 |[],env,H,h,c0,c,a,hr,hE,he,hd=>by
  obtain⟨id,hf,hk⟩:=h;have hfv:=he.eval f;rw[hf]at hfv;have hfv:=Bc hfv;show wpList P all _ [o] a c.w;unfold wpList;have hw:Region.wanted o (yielded all a.tmps)=true:=by unfold Region.wanted;rw[hg]
  rw[hw,aW rfl];refine .inl ?_;have kX:(execOp a.eval o).run P c.w=.ok (.defer {target:=.fn (.func id) #[],args:=args.map a.eval}) c.w:=by simp[execOp,ho,resolve,hfv,Deferred.ofValue]
  unfold Oper.wp;rw[kX];generalize hx:({target:=.fn (.func id) #[],args:=args.map a.eval}:Deferred)=x;rw[Oper.upon_defer];show wpList P all _ [] _ _;unfold wpList;have kl:a.tmps.size=N:=he.size;refine⟨rfl,c.wd (x::a.defers),_,H,_,hk,rfl,hr.wd _,hE,?_,?_⟩;have h1:ER (c.wd (x::a.defers)) N env {a with defers:=x::a.defers}:=⟨rfl,he.size,λt=>(he.slot t).wd _⟩;exact h1.put JX (.g _ _ (.raw _))
  ·have:(Act.put {a with defers:=x::a.defers} o.dst undef).defers=x::a.defers:=by unfold Act.put;cases o.dst<;>rfl
   rw[this];refine⟨x,a.defers,rfl,by rw[<-hx],⟨by rw[<-hx];simp,λi p u hp hu=>?_⟩,hd.kA (Mi c _)⟩;rw[<-hx]at hu;simp only[ff,bj,bh]at hp hu;obtain⟨y,hy,rfl⟩:=hp;obtain⟨z,hz,rfl⟩:=hu;have:y=z:=(by simpa[hz]using hy.symm);subst this;exact(he.eval y).wd _
 |o1::rest,env,H,h,c0,c,a,hr,hE,he,hd=>by obtain⟨Oz,h⟩:=h;show wpList P all _ (o1::(rest++[o])) a c.w;unfold wpList;split at h;rename_i BN;rw[Ra he BN,aW rfl];obtain⟨v1,H1,Ek,I0⟩:=h;refine .inl ((Ek c a.eval hr (λx _=>he.eval x)).wp ?_);rintro rv w' ⟨c',rfl,kP,rX,hv⟩;have GU:(a.put o1.dst rv).defers=a.defers:=(by unfold Act.put;cases o1.dst<;>rfl);exact yU ho hg JX rest _ _ I0 c0 c' (a.put o1.dst rv) kP (hE.trans (rX.wd2 [])) ((he.mono rX).put Oz hv) (by rw[GU];exact hd.kA rX.kA);rename_i BN;rw[Ra he BN,aV aa];have GU:(a.put o1.dst undef).defers=a.defers:=(by unfold Act.put;cases o1.dst<;>rfl);exact yU ho hg JX rest _ _ h c0 c (a.put o1.dst undef) hr hE (he.put Oz (.g _ _ (.raw _))) (by rw[GU];exact hd);exact h.elim
variable{o:Oper}
def C5{id:Nat}{l:List Oper}{f:Operand}{args:Array Operand}{ts:Array TypeId}{ops:Array Oper}(tI:ops=(l++[o]).toArray)(ho:o.op=.defer {callee:=.value f,args:=args,argTypes:=ts})(hg:o.guard=none)(JX:∀t,o.dst=some t->t<N)
  (h:jQ P N ops (λenv' H1=>∃id,env'.eval f=.g (.raw (.func (.func id) #[] #[]))∧K (⟨id,args.toList.map env'.eval⟩::ds) (qE env' o.dst mW) H1) l env H):PM P N rs H0 v H' (.region id ops false) K ds env H:=by
 subst tI;intro fn c0 c a vF zP hr hE he hd;refine wp_region_lit ?_;refine mX.rN ?_ (yU ho hg JX l env H h c0 c a hr hE he hd);rintro e a' w' ⟨rfl,hk⟩;exact .inl ⟨rfl,hk⟩
end
def qO{v:PV}(hf:P.funcs[f]?=some fn)(hb:fn.body=some code)(hn:fn.ntmps=N)
  (vF:fn.results=rs.toArray) (hl:args.length<=N) (h:PM P N rs H v H' code (λds env' H1=>aaW P rs H v H' .normal env' ds H1) [] (JG args) H):PC P f args H v H':=by
 intro c vs hr ha;refine calls_of_wp_defers hf hb (wp_mono (h fn c (c.wd []) _ vF hr (hr.wd []) (kI.refl _) (Hl hn hl ha) rfl) ?_);rintro e a' w' (⟨rfl,c',env',H1,XY,hk,rfl,kP,rX,mw,Ep⟩|⟨rfl,hl⟩);exact vz vF mw.size hr XY a'.defers H1 c' hk kP rX Ep mw.slot;exact hl
end
def jD{n:Int}(h: -9223372036854775808<=n∧n<9223372036854775808):i64.wrap n=n:=by rw[IntKind.wrap_i64];omega
section
variable{P:Program}{o:Oper}{ρ:Operand->PV}{H:PH}
variable{lo hi:Option Operand}{len cap:Nat}{h:Option (IntKind×Int)}
def qi(U:Nat){t e:TypeId}{x:Operand}{id:Nat}{l:Option (IntKind×Int)}(ho:o.op=.slice t x lo hi none)(ht:P.underlying t=some (.slice e))(hs:kZ P e=some 1)(hx:ρ x=.vw id n off len cap)
  (hl:oL ρ lo=some l) (hh:oL ρ hi=some h) (hL:nS l=0) (hU:oo len h=U) (h2:U<=cap):PO P o ρ H (.vw id n off U cap) H:=
 kg (Ko 0 U cap ho ht hs hx hl hh rfl (λ_=>rfl) (by rw[hL];rfl) hU rfl (bm _) h2 (aZ _)) aa
def N5(L U:Nat){t e:TypeId}{x:Operand}{id:Nat}{l:Option (IntKind×Int)}(ho:o.op=.slice t x lo hi none)(ht:P.underlying t=some (.slice e))(hs:kZ P e=some 1)(hx:ρ x=.vw id n off len cap)
  (hl:oL ρ lo=some l) (hh:oL ρ hi=some h) (hL:nS l=L) (hU:oo len h=U) (h1:L<=U) (h2:U<=cap) (h3:L<cap):PO P o ρ H (.vw id n (off+L) (U-L) (cap-L)) H:=
 kg (Ko L U cap ho ht hs hx hl hh rfl (λ_=>rfl) hL hU rfl h1 h2 (aZ _)) (by rw[aV ab])
variable{H':PH}
def jI{v:PV}{JP:PH}(h:PO P o ρ H v H')(e:H'=JP):PO P o ρ H v JP:=e▸h
end
section
variable{P:Program}{o:Oper}{env:Env}{H:PH}{K:List Nat}
variable{y:Operand}{t u T k i i2 Gl len:Nat}{op:BinOp}
def AL{x:Operand}{id EA:Nat}(hK:nv K (10000+id)=true)(hK2:nv K (10000+id2)=true)(ho:o.op=.binOp op t x y u)(ht:P.underlying t=some (.pointer T))(hsT:kZ P T=some (k+1))(pQ:op=.eql∨op=.neq)
  (lY:env.eval x=.kE id n i off) (Jk:env.eval y=.kE id2 n2 i2 Gl) (hm:M0 H.mu[id]?=some (1,n,e,len)) (xJ:M0 H.mu[id2]?=some (1,n2,e2,EA)) (hs:kZ P e=some 1) (zf:kZ P e2=some 1) (hl:0<len) (Jj:0<EA) (Fw:Nat.ble 10000 id=false:=by rfl) (alS:Nat.ble 10000 id2=false:=by rfl):
  lS P K o env H (.g (.bool (if op=.eql then(Nat.beq id id2&&Nat.beq (i+off) (i2+Gl))else !(Nat.beq id id2&&Nat.beq (i+off) (i2+Gl))))) H:=
 J0 (hk:=by rw[ho];rfl) λH1 hq=>by obtain⟨es,a1,a2⟩:=hq.arr hK Fw hm;obtain⟨HU,b1,b2⟩:=hq.arr hK2 alS xJ;exact ab6 ho ht hsT pQ lY Jk a1 b1 hs zf (λe=>by subst e;simp at a2;omega) (λe=>by subst e;simp at b2;omega)
end
variable{env:Env}{rs:List ResultVar}{ps:List PV}{H2:PH}
def Bx{e:Exit}{a b a' b':GV}(hs:tS P env H2 rs=some ps)(hp:ps=[.g a,.g b])(ha:a=a')(hb:b=b')
  (he:e=.normal∨e=.ret:=by first|exact .inl rfl|exact .inr rfl):JF P rs ⟨[],[],[]⟩ (.tuple [.g a',.g b']) ⟨[],[],[]⟩ e env H2:=by
 subst ha;subst hb;subst hp;refine CW hs rfl (.tuple _ λp hp=>?_) he;simp at hp;rcases hp with rfl|rfl<;>exact .g _
section
variable{P:Program}
variable{f:FuncId}{args:List PV}{H1:PH}
def PC.post{v:PV}(h:PC P f args H v H1)(hle:kW P H1 H2):PC P f args H v H2:=λc vs hr ha=>
 Calls.mono (h c vs hr ha) (λ_ _ ⟨rv,c',h1,h2,h3,h4,h5⟩=>⟨rv,c',h1,h2,hle c' h3,h4,h5⟩)
def kW.DR:kW P H ⟨H.bx.map (List.map pack),H.tk,H.mu⟩:=λc hr=>
  { hr with
    len:=by simpa using hr.len
    bx:=λi b cs hi kR=>by simp only[bj,bh]at kR;obtain⟨cs0,h0,rfl⟩:=kR;obtain⟨jJ,T,h1,h2,h3⟩:=hr.bx i b cs0 hi h0;refine⟨jJ,T,h1,by simpa using h2,λj p v hj hv=>?_⟩;simp only[bj,bh]at hj;obtain⟨p0,hp0,rfl⟩:=hj;obtain⟨k1,k2⟩:=h3 j p0 v hp0 hv;exact⟨ye k1,k2⟩}
variable{len cap:Nat}
def PC.adY{m0 m1:MO}{n1 e1:Nat}{es1:List GV}(hs:kZ P e=some 1)(zf:kZ P e2=some 1)
  (h:PC P f args ⟨[],[],[m0,m1]⟩ (.vw 2 n2 0 len cap) ⟨[],[],[.arr n e es,.arr n1 e1 es1,.arr n2 e2 HU]⟩):
  PC P f args ⟨[],[],[m0,m1]⟩ (.vw 0 (n+1) 0 len cap) ⟨[],[],[.arr (n+1) e2 HU,.arr n1 e1 es1]⟩:=λc vs hr ha=>
 Calls.mono (h c vs hr ha) (λ_ _ ⟨rv,c',h1,h2,h3,h4,h5⟩=>by obtain⟨c2,hw,_,r1,e1',r2⟩:=h3.move (id:=0) (id2:=2) af rfl rfl hs zf;refine⟨rv,c2.cut 0 0 2,h1,hw.trans h2,r1.cut (H':=⟨[],[],[.arr (n+1) e2 HU,.arr n1 e1 es1]⟩) ⟨[],rfl⟩ ⟨[],rfl⟩ ⟨[.gone (n2+1)],rfl⟩ (λ_ h=>by cases h),(h4.trans e1').cut ?_ ?_ ?_,RV.cut ?_ ?_⟩;have:=hr.len;simp at this;simp[this];have:=hr.tk;simp at this;simp[this];have:=hr.nq;simp at this;omega;have:=r2 _ _ h5;simpa[zh]using this;exact .vw _ _ _ _ _ af)
end
section
variable{P:Program}{N:Nat}{Q:Exit->Env->PH->Prop}{env:Env}{H:PH}
def PWR(P:Program)(N:Nat)(body:Code)(Q:Exit->Env->PH->Prop):Nat->Env->PH->Prop
 |0,_,_=>False|n+1,env,H=>PW P N body (Next (PWR P N body Q n) Q) env H
def Ib{body:Code}:∀(n:Nat) (env:Env) (H:PH) (c0 c:Ctx) (a:Act),PWR P N body Q n env H->kI c0 c->Rel P c H->ER c N env a->Code.rounds P body (QR P c0 N Q) n a c.w
 |0,_,_,_,_,_,h,_,_,_=>h.elim
 |n+1,env,H,c0,c,a,h,hE0,hr,he=>by
  rw[rounds_succ];refine wp_mono (h c a hr he) ?_;rintro e a' w' ⟨c',env',H',q,rfl,kP,hE,mw⟩;cases e<;>simp only[Next]at q<;>simp only[Exit.then];case normal=>exact Ib n env' H' c0 c' a' q (hE0.trans hE) kP mw
  all_goals exact⟨c',env',H',q,rfl,kP,hE0.trans hE,mw⟩
variable{body:Code}
def me(n:Nat)(h:PWR P N body Q n env H):PW P N (.loop body) Q env H:=
 λc a hr he=>wp_loop_rounds n (Ib n env H c c a h (kI.refl c) hr he)
end
structure NV where
 at_:Nat
 t:TypeId
 x:Tmp
 z:Value
def AM(d m j:Nat):Nat:=bif Nat.blt j d then j else j+m
def Tq(d m:Nat)(e:Edge):Edge:=⟨AM d m e.on,e.ground⟩
def shG(d m:Nat):Option (Nat×Bool)->Option (Nat×Bool)
 |some (g,b)=>some (AM d m g,b)|none=>none
def wA(d:Nat):Nat->List Edge
 |0=>[]|r+1=>⟨d+r,.data⟩::wA d r
def FJ(d m:Nat)(x:List Edge)(o:Oper):Oper:=⟨o.dst,o.op,o.type,o.pos,(o.after.toList.map (Tq d m)++x).toArray,shG d m o.guard⟩
def QL(d m:Nat)(D:Oper)(r:Nat)(s:NV):Oper:=⟨none,.store s.t (.tmp s.x) (.const s.z),0, "",(D.after.toList.map (Tq d m)++wA d r).toArray,none⟩
def Ks(d m:Nat)(D:Oper):Nat->List NV->List Oper
 |_,[]=>[]|r,s::ss=>QL d m D r s::Ks d m D (r+1) ss
def lV(d:Nat)(ss:List NV)(D:Oper)(l:List Oper):List Oper:=
 (l.take d).map (FJ d ss.length [])++(Ks d ss.length D 0 ss++FJ d ss.length (wA d ss.length) D::(l.drop (d+1)).map (FJ d ss.length []))
variable{d m j:Nat}
def DS(h:j<d):AM d m j=j:=by
 have:Nat.blt j d=true:=by simpa[fh]using h
 unfold AM;rw[this];rfl
def wB(h:d<=j):AM d m j=j+m:=by
 have:Nat.blt j d=false:=by
  cases hb:Nat.blt j d with
  |false=>rfl
  |true=>
   have:j<d:=(by simpa[fh]using hb);omega
 unfold AM;rw[this];rfl
def QM:AM d m j<d∨d+m<=AM d m j:=by
 rcases dG j d with h|h
 rw[DS h];exact .inl h;rw[wB h];omega
variable{k:Nat}
def XZ(h:AM d m j=AM d m k):j=k:=by rcases dG j d with h1|h1<;>rcases dG k d with h2|h2<;>simp only[DS,wB, *]at h<;>omega
def OQ(d m p:Nat):(d<=p∧p<d+m)∨∃j,p=AM d m j:=by
 rcases dG p d with h|h
 exact .inr ⟨p,(DS h).symm⟩;by_cases e:p<d+m;exact .inl ⟨h,e⟩;exact .inr ⟨p-m,by rw[wB ab];omega⟩
def xL{d:Nat}{e:Edge}:∀{r:Nat},e∈wA d r->∃q,q<r∧e.on=d+q
 |0,h=>by cases h
 |r+1,h=>by
  rcases bN.1 h with rfl|h
  exact⟨r,Nat.lt_succ_self r,rfl⟩;obtain⟨q,h1,h2⟩:=xL h;exact⟨q,by omega,h2⟩
def pV{d m:Nat}{D:Oper}:∀(r:Nat) (ss:List NV),(Ks d m D r ss).length=ss.length
 |_,[]=>rfl|r,s::ss=>by simp[Ks,pV (r+1) ss]
def OR{d m:Nat}{D:Oper}:∀(r:Nat) (ss:List NV) (k:Nat),(Ks d m D r ss)[k]?=(ss[k]?).map (QL d m D (r+k))
 |_,[],k=>by simp[Ks]|r,s::ss,0=>by simp[Ks]|r,s::ss,k+1=>by unfold Ks;rw[c7,c7,OR (r+1) ss k,show r+1+k=r+(k+1) by omega]
section
variable{P:Program}{N:Nat}{l:List Oper}{d:Nat}{ss:List NV}{D:Oper}{K:List Nat}{T:Tr}{F:Nat->Option Ins}
def rS(hd:d<l.length):(lV d ss D l).length=l.length+ss.length:=by simp[lV,pV];omega
variable{r:Nat}
def OS(hd:d<l.length)(hr:r<ss.length):(lV d ss D l)[d+r]?=(ss[r]?).map (QL d ss.length D r):=by
 unfold lV;have e1:(List.map (FJ d ss.length []) (List.take d l)).length=d:=by simp;omega
 rw[a7 ab,e1,ew,a8 (by rw[pV];exact hr),OR];rw[bc]
variable{o:Oper}
def qj(hD:l[d]?=some D)(ho:l[j]?=some o):(lV d ss D l)[AM d ss.length j]?=some (FJ d ss.length (if j=d then wA d ss.length else []) o):=by
 have hd:=(aR.1 hD).1;unfold lV;have e1:(List.map (FJ d ss.length []) (List.take d l)).length=d:=by simp;omega
 rcases fF j d with h|h|h
 rw[DS h,aV ab,a8 ab,bj,List.getElem?_take_of_lt h,ho];rfl;subst h;rw[hD]at ho;cases ho;rw[wB (aZ _),aW rfl,a7 ab,e1,ew,a7 (by rw[pV];exact aZ _),pV,dA];rfl
 ·rw[wB ab,aV ab,a7 ab,e1,a7 (by rw[pV];omega),pV,show j+ss.length-d-ss.length=(j-(d+1))+1 by omega,
   c7,bj,bD,show d+1+(j-(d+1))=j by omega,ho];rfl
def Kt(hD:l[d]?=some D){o':Oper}(ho:(lV d ss D l)[AM d ss.length j]?=some o'):∃o,l[j]?=some o∧o'=FJ d ss.length (if j=d then wA d ss.length else []) o:=by
 have hd:=(aR.1 hD).1;have iI:=(aR.1 ho).1;rw[rS hd]at iI;have hj:j<l.length:=by
  rcases dG j d with h|h
  omega;rw[wB h]at iI;omega
 have h1:=qj (ss:=ss) hD (aS hj);rw[h1]at ho;cases ho;exact⟨_,aS hj,rfl⟩
def qu{e e':Edge}(h:e'.ground=e.ground):Region.binds .any e'=Region.binds .any e:=by unfold Region.binds;rw[h]
def SR(d m:Nat)(S:Nat->Prop)(r:Nat):Nat->Prop:=λk'=>(∃k,k'=AM d m k∧S k)∨(d<=k'∧k'<d+r)
variable{S:Nat->Prop}
def uh(hr:r<=m):SR d m S r (AM d m j)↔S j:=by
 constructor;rintro(⟨k,h1,h2⟩|⟨h1,h2⟩);rw[XZ h1];exact h2;rcases QM (d:=d) (m:=m) (j:=j)with h|h<;>omega
 exact λh=>.inl ⟨j,rfl,h⟩
def agc{q:Nat}(hq:q<m):SR d m S r (d+q)↔q<r:=by
 constructor
 ·rintro(⟨k,h1,h2⟩|⟨h1,h2⟩);rcases QM (d:=d) (m:=m) (j:=k)with h|h<;>omega
  omega
 exact λh=>.inr ⟨by omega,by omega⟩
def Ts:(λk=>SR d m S r k∨k=d+r)=SR d m S (r+1):=by funext k;apply propext;unfold SR;constructor;rintro((h|⟨h1,h2⟩)|rfl);exact .inl h;exact .inr ⟨h1,by omega⟩;exact .inr ⟨by omega,by omega⟩;rintro(h|⟨h1,h2⟩);exact .inl (.inl h);by_cases e:k=d+r;exact .inr e;exact .inl (.inr ⟨h1,by omega⟩)
def Ku:(λk=>SR d m S r k∨k=AM d m j)=SR d m (λk=>S k∨k=j) r:=by funext k;apply propext;unfold SR;constructor;rintro((⟨q,h1,h2⟩|h)|rfl);exact .inl ⟨q,h1,.inl h2⟩;exact .inr h;exact .inl ⟨j,rfl,.inr rfl⟩;rintro(⟨q,h1,h2|rfl⟩|h);exact .inl (.inl ⟨q,h1,h2⟩);exact .inr h1;exact .inl (.inr h)
def uL(hD:l[d]?=some D)(hS:lf l S)(hr:r<=ss.length)(hm:S d->r=ss.length)(alU:0<r->∀e∈D.after,Region.binds .any e=true->S e.on):lf (lV d ss D l) (SR d ss.length S r):=by
 have hd:=(aR.1 hD).1;intro j' o' wT hs e' mw hb;rcases hs with⟨k,rfl,hk⟩|⟨h1,h2⟩
 ·obtain⟨o,ho,rfl⟩:=Kt hD wT;have MU:e'∈o.after.toList.map (Tq d ss.length)++(if k=d then wA d ss.length else []):=by simpa[FJ]using mw
  rcases bC.1 MU with h|h
  obtain⟨e,he,rfl⟩:=cH.1 h;exact(uh hr).2 (hS k o ho hk e (by simpa using he) (by rw[<-hb];exact qu rfl));by_cases e:k=d;rw[aW e]at h;obtain⟨q,q1,q2⟩:=xL h;rw[q2];exact .inr ⟨by omega,by rw[hm (e▸hk)];omega⟩;rw[aV e]at h;cases h
 ·have hq:j'-d<ss.length:=ab
  have e1:=OS (D:=D) hd hq;rw[show d+(j'-d)=j' by omega,wT]at e1;obtain⟨s,AI,rfl⟩:=bh.1 e1.symm;have MU:e'∈D.after.toList.map (Tq d ss.length)++wA d (j'-d):=by simpa[QL]using mw
  rcases bC.1 MU with h|h
  obtain⟨e,he,rfl⟩:=cH.1 h;exact(uh hr).2 (alU ab e (by simpa using he) (by rw[<-hb];exact qu rfl));obtain⟨q,q1,q2⟩:=xL h;rw[q2];exact .inr ⟨by omega,by omega⟩
variable{s:NV}
def Kv(hD:l[d]?=some D)(hc:Comes l S d D)(hs:ss[r]?=some s):Comes (lV d ss D l) (SR d ss.length S r) (d+r) (QL d ss.length D r s):=by
 have hd:=(aR.1 hD).1;have hr:r<ss.length:=(aR.1 hs).1;refine⟨by rw[OS hd hr,hs];rfl,λh=>by have:=(agc hr).1 h;omega,λe' mw hb=>?_⟩;have MU:e'∈D.after.toList.map (Tq d ss.length)++wA d r:=by simpa[QL]using mw
 rcases bC.1 MU with h|h
 obtain⟨e,he,rfl⟩:=cH.1 h;exact(uh ab).2 (hc.pre e (by simpa using he) (by rw[<-hb];exact qu rfl));obtain⟨q,q1,q2⟩:=xL h;rw[q2];exact .inr ⟨by omega,by omega⟩
def vh(hD:l[d]?=some D)(hc:Comes l S j o)(hr:r<=ss.length)(hm:j=d->r=ss.length):Comes (lV d ss D l) (SR d ss.length S r) (AM d ss.length j) (FJ d ss.length (if j=d then wA d ss.length else []) o):=by
 refine⟨qj hD hc.at_,λh=>hc.out ((uh hr).1 h),λe' mw hb=>?_⟩;have MU:e'∈o.after.toList.map (Tq d ss.length)++(if j=d then wA d ss.length else []):=by simpa[FJ]using mw
 rcases bC.1 MU with h|h
 obtain⟨e,he,rfl⟩:=cH.1 h;exact(uh hr).2 (hc.pre e (by simpa using he) (by rw[<-hb];exact qu rfl));by_cases e:j=d;rw[aW e]at h;obtain⟨q,q1,q2⟩:=xL h;rw[q2];exact .inr ⟨by omega,by rw[hm e];omega⟩;rw[aV e]at h;cases h
def EB(hD:l[d]?=some D)(x:List Edge)(o:Oper)(tmps:Array Value):Region.wanted (FJ d ss.length x o) (yielded (lV d ss D l).toArray tmps)=Region.wanted o (yielded l.toArray tmps):=by
 have hd:=(aR.1 hD).1;unfold Region.wanted;simp only[FJ];cases o.guard with
 |none=>rfl
 |some g=>
  obtain⟨g,b⟩:=g;simp only[shG];have:yielded (lV d ss D l).toArray tmps (AM d ss.length g)=yielded l.toArray tmps g:=by
   unfold yielded;have e:((lV d ss D l).toArray[AM d ss.length g]?).bind (·.dst)=(l.toArray[g]?).bind (·.dst):=by
    simp only[dV];cases hg:l[g]? with
    |some og=>rw[qj hD hg];rfl
    |none=>
     have sC:l.length<=g:=(by simpa using hg);have:(lV d ss D l)[AM d ss.length g]?=none:=(by rw[fW,rS hd,wB ab];omega);rw[this]
   rw[e]
  rw[this]
structure Gm(P:Program)(l:List Oper)(D:Oper)(K:List Nat)(s:NV):Prop where
 mem:40000+s.x∈K
 made:∃o,l[s.at_]?=some o∧o.op=.alloc s.t∧o.dst=some s.x
 ah6:∃e∈D.after,Region.binds .any e=true∧e.on=s.at_
 zero:my P s.t=some s.z
 one:s.z.cells.toList.all (·.oneCell')=true
 size:kZ P s.t=some s.z.cells.size
variable{c0:Ctx}{a:Act}{w:World}
def ab7(hT:qZ P N (lV d ss D l) K T)(hF:rO P (lV d ss D l) K T F)(hO:Ordered P K (lV d ss D l))(hD:l[d]?=some D)(hS:lf l S)(hc:Comes l S d D)(hs:ss[r]?=some s)(nT:Gm P l D K s) (hI:Inv P N (lV d ss D l) K T F c0 (SR d ss.length S r) a w):Inv P N (lV d ss D l) K T F c0 (SR d ss.length S (r+1)) a w:=by
 have hr:r<ss.length:=(aR.1 hs).1;have sv:=uL (ss:=ss) hD hS (r:=r) ab (λh=>absurd h hc.out) (λ_=>hc.pre);have ud:=Kv hD hc hs;have h:=zK (Z:=λa' w'=>Inv P N (lV d ss D l) K T F c0 (SR d ss.length S (r+1)) a' w') (Q:=λ_ _ _=>False) hT hF hO sv hI ud (λa' w' h=>by rw[Ts]at h;exact h);rw[aW (show Region.wanted (QL d ss.length D r s) _=true from rfl)]at h;have h1:=h.resolve_right fun⟨_,_,_,hx⟩=>hx;obtain⟨c,m,L,D',_,_,_,EC,_,_,_,Bh,_,XF,_,_,_⟩:=hI;obtain⟨ao,Vi,N6,Nn⟩:=nT.made;have adZ:=qj (ss:=ss) hD Vi;have oK:ve K (FJ d ss.length (if s.at_=d then wA d ss.length else []) ao)=some s.x:=by unfold ve;simp only[FJ,N6,Nn];rw[vG.2 nT.mem];rfl
 have lr:sB K (QL d ss.length D r s)=some s.x:=by unfold sB;simp only[QL];rw[vG.2 nT.mem];rfl
 obtain⟨e,he,hb,hon⟩:=nT.ah6;have hSa:SR d ss.length S r (AM d ss.length s.at_):=(uh ab).2 (hon▸hc.pre e he hb);obtain⟨i1,u1,a1,b1,t1,y1,iI,e1,e2,e3,e4,_,_,_,e5,e6,e7⟩:=(hO.float _ nT.mem).ex;obtain⟨kh,ki⟩:∃b,(s.x,b)∈L:=by
  rcases XF _ _ s.x adZ oK hSa with hh|⟨u,o',hu,qd,Cl⟩
  exact hh
  ·exfalso;have CA:d+r=u1:=by
    rcases e7 (d+r) _ ud.at_ (DB lr).2.2 with hh|hh
    ·have:=ud.at_
     rw[hh,e1]at this;cases this;cases e3
    exact hh
   rcases e7 u o' hu (DB qd).2.2 with rfl|rfl
   rw[e1]at hu;cases hu;rw[(w7 e5).2.2.2.2]at qd;cases qd;exact ud.out (CA▸Cl)
 have hp:=Bh _ ki;obtain⟨jJ,t',r1,r2,r3,r4⟩:=hp.row;have kp:t'=s.t:=by have q1:=r4 _ _ adZ oK;rw[show(FJ d ss.length (if s.at_=d then wA d ss.length else []) ao).op=ao.op from rfl,N6]at q1;cases q1;rfl
 subst kp;simp only at r1;have hv:=r3 _ nT.zero;subst hv;rw[EC]at r1;have Jf:a.eval (.tmp s.x)=.pointer (some ⟨kh,0,none⟩):=hp.slot;have jE:∀v∈s.z.cells.toList,v.oneCell'=true:=λv hv=>cY.1 nT.one v hv;have lT:=run_storeCells_at P kh 0 s.t s.z.cells.toList 0 s.z.cells w r1 aa jE;have q7:(s.z.cells.toList.take 0++s.z.cells.toList++s.z.cells.toList.drop (0+s.z.cells.size)).toArray=s.z.cells:=by rw[gX aa];simp
 have F2:w.setRow kh s.z.cells=w:=setRow_self w _ _ s.t (0,0) r1;have kX:(execOp a.eval (QL d ss.length D r s)).run P w=.ok .skip w:=by simp only[b9,fA]at lT;rw[q7,F2]at lT;simp[execOp,QL,Jf,show a.eval (.const s.z)=s.z from rfl,Instr.storeAt,Instr.sureAddr,storeVar,run_sizeOf nT.size,lT]
 unfold Oper.wp at h1;rw[kX]at h1;exact h1
def Ht(hT:qZ P N (lV d ss D l) K T)(hF:rO P (lV d ss D l) K T F)(hO:Ordered P K (lV d ss D l))(hD:l[d]?=some D){c0:Ctx}{S:Nat->Prop}(hS:lf l S)(hc:Comes l S d D)(nT:∀s∈ss,Gm P l D K s)
  {a:Act} {w:World} (hI:Inv P N (lV d ss D l) K T F c0 (SR d ss.length S 0) a w):∀r,r<=ss.length->Inv P N (lV d ss D l) K T F c0 (SR d ss.length S r) a w
 |0,_=>hI|r+1,hr=>by have iI:r<ss.length:=hr;exact ab7 hT hF hO hD hS hc (aS iI) (nT _ (bJ iI)) (Ht hT hF hO hD hS hc nT hI r ab)
def No(hT:qZ P N (lV d ss D l) K T)(hF:rO P (lV d ss D l) K T F)(hO:Ordered P K (lV d ss D l))(hD:l[d]?=some D)(nT:∀s∈ss,Gm P l D K s){Q:Exit->Act->World->Prop}
  (hQ:∀a w,(∃c,c.w=w∧Rel P c (T.H (lV d ss D l).length)∧kI c0 c∧ER c N (T.E (lV d ss D l).length) a)->Q .normal a w):
  ∀(fuel:Nat) (listed:Array Bool) (a:Act) (w:World) (r:Nat),listed.size=l.length->Pure.left listed l.length<=fuel->lf l (lh listed)->(lh listed d∧r=ss.length∨¬lh listed d∧r=0)->Inv P N (lV d ss D l) K T F c0 (SR d ss.length (lh listed) r) a w->wpAny P .any l.toArray Q fuel listed a w:=by
 have hd:=(aR.1 hD).1;have fin:∀(listed:Array Bool) (a:Act) (w:World) (r:Nat),listed.size=l.length->(lh listed d∧r=ss.length∨¬lh listed d∧r=0)->Inv P N (lV d ss D l) K T F c0 (SR d ss.length (lh listed) r) a w->(∀i,i<l.length->lh listed i)->Q .normal a w:=by
  intro listed a w r kl hr hI lM;have kP:r=ss.length:=by rcases hr with⟨_,h⟩|⟨h,_⟩;exact h;exact absurd (lM d hd) h
  subst kP;refine hQ a w (Gc hT hF hO (λi hi=>?_) (λi hi=>?_) hI)
  ·rw[rS hd];rcases hi with⟨k,rfl,hk⟩|⟨h1,h2⟩
   ·have:=JY hk;rcases dG k d with h|h
    rw[DS h];omega;rw[wB h];omega
   omega
  ·rw[rS hd]at hi;rcases OQ d ss.length i with h|⟨j,rfl⟩
   exact .inr h
   ·refine .inl ⟨j,rfl,lM j ?_⟩;rcases dG j d with h|h
    omega;rw[wB h]at hi;omega
 intro fuel;induction fuel with
 |zero=>
  intro listed a w r kl hf hS hr hI;have lM:∀i,i<l.length->lh listed i:=by intro i hi;refine cj λhn=>?_;have ki:i∈(List.range l.length).filter λi=> !listed.getD i false:=(by simp only[dK,fR];exact⟨hi,by simpa[lh]using hn⟩);have h0:(List.range l.length).filter (λi=> !listed.getD i false)=[]:=df (by unfold Pure.left at hf;omega);rw[h0]at ki;cases ki
  refine⟨?_,fin listed a w r kl hr hI lM⟩;refine eF.2 λi hi=>?_;obtain⟨o,hc⟩:=th kl hi;exact hc.out (lM i (aR.1 hc.at_).1)
 |succ fuel ih=>
  intro listed a w r kl hf hS hr hI;have nw:∀(k:Nat) (y:Oper),l[k]?=some y->∀e∈y.after,Region.binds .any e=true->e.on<k:=by intro k y hy e he hb;have h1:=hO.back _ _ (qj (ss:=ss) hD hy) (Tq d ss.length e) (by simp only[FJ];rw[List.mem_toArray];exact fi _ (cH.2 ⟨e,by simpa using he,rfl⟩)) (by rw[<-hb];exact qu rfl);simp only[Tq]at h1;rcases dG e.on d with q1|q1<;>rcases dG k d with q2|q2<;>simp only[DS,wB, *]at h1<;>omega
  have ED:Region.ready .any l.toArray listed=[]->∀i,i<l.length->lh listed i:=by
   intro h0 i;induction i using Nat.strongRecOn with
   |_ i ih=>
    intro hi;refine cj λhn=>?_;have hc:Comes l (lh listed) i l[i]:=⟨aS hi,hn,λe he hb=>by have:=nw i _ (aS hi) e he hb;exact ih e.on this ab⟩;have:i∈Region.ready .any l.toArray listed:=by
     unfold Region.ready;rw[dK];refine⟨by simpa using hi,?_⟩;simp only[bI];refine⟨?_,?_⟩;have hn:=hc.out;simp only[lh,bF]at hn⊢;rw[dr ab]at hn⊢;simpa using hn
     ·have e0:(l.toArray)[i]?=some l[i]:=aa;rw[e0];simp only[eS,Option.getD_some];refine fN.2 λe he=>?_;cases hb:Region.binds .any e with
      |false=>simp
      |true=>
       have:=hc.pre e he hb;simp only[lh]at this;simp[this]
    rw[h0]at this;cases this
  refine⟨λh0=>fin listed a w r kl hr hI (ED h0),λj hj=>?_⟩;obtain⟨o,hc⟩:=th kl hj;have iI:=(aR.1 hc.at_).1;have pQ:(l.toArray)[j]?=some o:=by simpa using hc.at_
  have lG:lh (listed.setIfInBounds j true)=λk=>lh listed k∨k=j:=funext λk=>propext (Mk ab);have Xg:Pure.left (listed.setIfInBounds j true) l.length<=fuel:=by have:=Ho (n:=l.length) (by omega:j<listed.size) iI hc.out;omega
  have ae1:lf l (lh (listed.setIfInBounds j true)):=by
   rw[lG];intro k y hy hk e he hb;rcases hk with hk|rfl
   exact .inl (hS k y hy hk e he hb);rw[hc.at_]at hy;cases hy;exact .inl (hc.pre e he hb)
  obtain⟨r',nV,nh,OL,uA,sv⟩:∃r',r'<=ss.length∧(j=d->r'=ss.length)∧(lh (listed.setIfInBounds j true) d∧r'=ss.length∨¬lh (listed.setIfInBounds j true) d∧r'=0)∧Inv P N (lV d ss D l) K T F c0 (SR d ss.length (lh listed) r') a w∧lf (lV d ss D l) (SR d ss.length (lh listed) r'):=by
   by_cases e:j=d;subst e;have hD':o=D:=cE (hc.at_.symm.trans hD);subst hD';have h0:r=0:=(by rcases hr with⟨h,_⟩|⟨_,h⟩;exact absurd h hc.out;exact h);subst h0;exact⟨ss.length,aZ _,λ_=>rfl,.inl ⟨by rw[lG];exact .inr rfl,rfl⟩,Ht hT hF hO hD hS hc nT hI _ (aZ _),uL hD hS (aZ _) (λ_=>rfl) (λ_=>hc.pre)⟩
   ·have Oz:lh (listed.setIfInBounds j true) d↔lh listed d:=by
     rw[lG];exact⟨λh=>h.elim id λh=>absurd h.symm e,.inl⟩
    rcases hr with⟨h,rfl⟩|⟨h,rfl⟩
    exact⟨_,aZ _,λh=>absurd h e,.inl ⟨Oz.2 h,rfl⟩,hI,uL hD hS (aZ _) (λ_=>rfl) (λ_ e he hb=>hS d D hD h e he hb)⟩;exact⟨0,bm _,λh=>absurd h e,.inr ⟨λh'=>h (Oz.1 h'),rfl⟩,hI,uL hD hS (bm _) (λh'=>absurd h' h) (λh'=>absurd h' ab)⟩
  have tT:=zK (Q:=Q) hT hF hO sv uA (vh hD hc nV nh) (Z:=wpAny P .any l.toArray Q fuel (listed.setIfInBounds j true)) (by intro a' w' hI2;rw[Ku,<-lG]at hI2;exact ih _ a' w' r' (by simpa using kl) Xg ae1 OL hI2);rw[EB hD]at tT;unfold wpOp;rw[pQ];exact tT
end
def C6(x:Tmp):List Oper->Bool
 |[]=>false
 |o::r=>match o.op with|.store _ (.tmp y) _=>bif Nat.beq x y then true else C6 x r|_=>C6 x r
def DT (fz:Nat->Option Value)(fs:Nat->Option Nat)(all:List Oper):List Oper->Nat->Option (List NV)
  |[],_=>some []
  |o::r,i=>match DT fz fs all r (i+1)with
    |none=>none
    |some l=>match o.op with
      |.alloc t=>match o.dst with
        |some x=>bif C6 x all then some l else match fz t with
          |some z=>match fs t with
            |some n=>bif z.cells.toList.all (·.oneCell')&&Nat.beq n z.cells.size then some (⟨i,t,x,z⟩::l)else none|none=>none
          |none=>none
        |none=>some l
      |_=>some l
def IU(i:Nat):List Edge->Bool
 |[]=>false|e::r=>bif Nat.beq e.on i&&Region.binds .any e then true else IU i r
def CB(i:Nat):List Oper->Nat->Option (Nat×Oper)
 |[],_=>none|o::r,k=>bif IU i o.after.toList then some (k,o)else CB i r (k+1)
def aaX(fz:Nat->Option Value)(fs:Nat->Option Nat)(l:List Oper):Option (Nat×List NV×Oper):=match DT fz fs l l 0 with
 |some (s::ss)=>match CB s.at_ l 0 with
  |some (d,D)=>bif (s::ss).all (λs=>IU s.at_ D.after.toList)then some (d,s::ss,D)else none|none=>none
 |_=>none
def Gn(K:List Nat):List NV->Bool
 |[]=>true|s::r=>nv K (40000+s.x)&&Gn K r
def Ms{i:Nat}:∀{l:List Edge},IU i l=true->∃e∈l,Region.binds .any e=true∧e.on=i
 |[],h=>by cases h
 |e::r,h=>by
  unfold IU at h;cases hb:(Nat.beq e.on i&&Region.binds .any e)with
  |true=>
   rw[bI]at hb;exact⟨e,bE,hb.2,bl hb.1⟩
  |false=>
   rw[hb,de]at h;obtain⟨e',h1,h2⟩:=Ms h;exact⟨e',bw _ h1,h2⟩
def B8{i:Nat}{all:List Oper}{d:Nat}{D:Oper}:∀{l:List Oper} {j:Nat},(∀k,l[k]?=all[j+k]?)->CB i l j=some (d,D)->all[d]?=some D
 |[],_,_,h=>by cases h
 |o::r,j,hl,h=>by
  unfold CB at h;cases hb:IU i o.after.toList with
  |true=>
   rw[hb,cr]at h;cases h;have:=hl 0;simpa using this.symm
  |false=>
   rw[hb,de]at h;exact B8 (λk=>by have:=hl (k+1);rw[c7]at this;rw[this,show j+(k+1)=j+1+k by omega]) h
def EE{fz:Nat->Option Value}{fs:Nat->Option Nat}{all:List Oper}:∀{l:List Oper} {i:Nat} {ss:List NV},(∀k,l[k]?=all[i+k]?)->DT fz fs all l i=some ss->
  ∀s∈ss,(∃o,all[s.at_]?=some o∧o.op=.alloc s.t∧o.dst=some s.x)∧fz s.t=some s.z∧s.z.cells.toList.all (·.oneCell')=true∧fs s.t=some s.z.cells.size
 |[],_,ss,_,h,s,hs=>by unfold DT at h;cases h;cases hs
 |o::r,i,ss,hl,h,s,hs=>by
  have hr:∀k,r[k]?=all[i+1+k]? :=λk=>by have:=hl (k+1);rw[c7]at this;rw[this,show i+(k+1)=i+1+k by omega]
  have h0:all[i]?=some o:=by have:=hl 0;simpa using this.symm
  unfold DT at h;split at h;cases h
  ·rename_i l aaY;have ih:=EE hr aaY;split at h
   ·rename_i t pQ;split at h
    ·rename_i x hx;cases hb:C6 x all with
     |true=>rw[hb,cr]at h;cases h;exact ih s hs
     |false=>
      rw[hb,de]at h;split at h
      ·rename_i z hz;split at h
       ·rename_i n hn;cases hc:(z.cells.toList.all (·.oneCell')&&Nat.beq n z.cells.size)with
        |false=>rw[hc]at h;cases h
        |true=>
         rw[hc,cr]at h;cases h;rw[bI]at hc;rcases bN.1 hs with rfl|hs
         exact⟨⟨o,h0,pQ,hx⟩,hz,hc.1,by rw[hn,bl hc.2]⟩;exact ih s hs
       cases h
      cases h
    cases h;exact ih s hs
   cases h;exact ih s hs
def Mt{K:List Nat}:∀{ss:List NV},Gn K ss=true->∀s∈ss,40000+s.x∈K
 |[],_,s,h=>by cases h
 |a::r,h,s,hs=>by
  unfold Gn at h;rw[bI]at h;rcases bN.1 hs with rfl|hs
  exact nQ.1 h.1;exact Mt h.2 s hs
def aaZ:List Edge->Option (List Edge)
 |[]=>some []
 |e::r=>match tJ e.on with
  |some n=>match aaZ r with|some r'=>some (⟨n,e.ground⟩::r')|none=>none
  |none=>none
def ae2:Option (Nat×Bool)->Option (Option (Nat×Bool))
 |none=>some none
 |some (g,b)=>match tJ g with|some n=>some (some (n,b))|none=>none
def N7:List Oper->Option (List Oper)
 |[]=>some []
 |⟨d,op,ty,pos,qG,gg⟩::r=>match aaZ qG.toList with
  |some a=>match ae2 gg with
   |some g=>match N7 r with|some r'=>some (⟨d,op,ty,pos,a.toArray,g⟩::r')|none=>none
   |none=>none
  |none=>none
def Tt:∀l:List Edge,aaZ l=some l
 |[]=>rfl|e::r=>by simp[aaZ,rY,Tt r]
def ab8(g:Option (Nat×Bool)):ae2 g=some g:=by
 cases g with
 |none=>rfl
 |some p=>obtain⟨g,b⟩:=p;simp[ae2,rY]
def Gp:∀l:List Oper,N7 l=some l
 |[]=>rfl|⟨d,op,ty,pos,qG,gg⟩::r=>by simp[N7,Tt,ab8,Gp r]
section
variable{P:Program}{N:Nat}
variable{fz:Nat->Option Value}{fs:Nat->Option Nat}{K:List Nat}{ss:List NV}{D:Oper}
def ab9(hz:∀t z,fz t=some z->my P t=some z)(hs:∀t n,fs t=some n->kZ P t=some n){l:List Oper}(h:aaX fz fs l=some (d,ss,D))(hk:Gn K ss=true):
  l[d]?=some D∧∀s∈ss,Gm P l D K s:=by
 unfold aaX at h;split at h
 ·rename_i s0 ss0 hb;split at h
  ·rename_i d0 D0 ht;cases hc:((s0::ss0).all λs=>IU s.at_ D0.after.toList)with
   |false=>rw[hc]at h;cases h
   |true=>
    rw[hc,cr]at h;cases h;refine⟨B8 (λk=>by rw[bc]) ht,λs HY=>?_⟩;obtain⟨h1,h2,h3,h4⟩:=EE (λk=>by rw[bc]) hb s HY;obtain⟨e,e1,e2,e3⟩:=Ms (cY.1 hc s HY);exact⟨Mt hk s HY,h1,⟨e,by simpa using e1,e2,e3⟩,hz _ _ h2,h3,hs _ _ h4⟩
  cases h
 cases h
variable{Q:Exit->Env->PH->Prop}
def FK{id:Nat}{l:List Oper}(K:List Nat)(hD:l[d]?=some D)(nT:∀s∈ss,Gm P l D K s)
  (hm:P.follows .mixedOrders=true) (hd:uI P K (lV d ss D l)=true) (h:ju P N (lV d ss D l).toArray K (λenv H=>Q .normal env H) (lV d ss D l) env H):
  PW P N (.region id l.toArray true) Q env H:=by
 obtain⟨T,e1,e2,e3,e4⟩:=G0 (lV d ss D l) 0 env H aa h;have hT:qZ P N (lV d ss D l) K T:=⟨λi o ho=>(e4 i o (bm _) ho).1,λi o ho=>(e4 i o (bm _) ho).2.1,λi o ho=>(e4 i o (bm _) ho).2.2⟩;have hO:=yB hd;obtain⟨F,hF⟩:=CY P (lV d ss D l) K T;intro c a hr he;refine wp_region_any hm ?_;have hg:=hr.grow (Ext.drew c.w);have none:∀i,¬lh (Array.replicate l.toArray.size false) i:=by intro i h;simp only[lh,bF]at h;by_cases hi:i<l.length<;>simp[hi]at h
 have By:∀i,¬SR d ss.length (lh (Array.replicate l.toArray.size false)) 0 i:=by rintro i (⟨k,_,hk⟩|⟨h1,h2⟩);exact none k hk;omega
 refine No (c0:=c) hT hF hO hD nT ?_ _ _ a _ 0 aa ?_ (λj o _ hj=>absurd hj (none j)) (.inr ⟨none d,rfl⟩) ?_;rintro a' w' ⟨c',rfl,kP,hE,mw⟩;simp only[bc]at e3;exact⟨c',_,_,e3,rfl,kP,hE,mw⟩;unfold Pure.left;refine b8 (List.length_filter_le _ _) aa;refine⟨⟨c.σ,c.τ,c.μ,c.hid,c.w.drew⟩,0,[],[],bm _,λj o hj _ _=>⟨λh=>absurd h (By j),λh=>ab⟩,⟨λj o _ _ h=>ab,gL,λj=>⟨λh=>(by cases h),λh=>absurd h.2.1 (By j)⟩⟩,rfl,by rw[eV,nZ];exact e2▸hg.1,(zJ _).symm,hg.2,by simp,by simp,λj o d _ _ hj=>absurd hj (By j),he.defers,he.size,λt=>.inr ⟨λi o _ hs=>absurd hs (By i),?_⟩⟩;rw[e1];exact(he.slot t).mono hg.2
def RU{id:Nat}{l l':List Oper}(hz:∀t z,fz t=some z->my P t=some z)(hs:∀t n,fs t=some n->kZ P t=some n){K0:List Nat}(calls:Bool)
  (hb:aaX fz fs l=some (d,ss,D)) (hl:N7 (lV d ss D l)=some l') (_h0:N0 H.bx lits=some K0) (_ha:DH l' env (isNil H.mu) calls true K0=some K) (hk:Gn K ss=true) (hm:P.follows .mixedOrders=true)
  (h:ju P N l'.toArray K (λenv H=>Q .normal env H) l' env H) (hd:uI P K l'=true:=by decide+kernel):PW P N (.region id l.toArray true) Q env H:=by
 rw[Gp]at hl;cases hl;obtain⟨h1,h2⟩:=ab9 hz hs hb hk;exact FK K h1 h2 hm hd h
end
abbrev WB:Nat:=18446744073709551616
def wG(n:Nat):GV:=.int .u64 n
def iG(l:List Nat):List GV:=l.map wG
def okW(l:List Nat):Prop:= ∀w∈l,w<WB
def val:List Nat->Nat
 |[]=>0|w::r=>w+WB*val r
def iK(l:List Nat):(iG l).length=l.length:=by simp[iG]
variable{l:List Nat}
def nA:∀x∈iG l,x.cells=[x]:=by intro x hx;obtain⟨n,_,rfl⟩:=cH.1 hx;rfl
variable{i:Nat}
def iT{w:Nat}(h:l[i]?=some w):(iG l)[i]?=some (wG w):=by simp[iG,h]
def ke:okW []:=by simp[okW]
def iS{w:Nat}:okW (w::l)↔w<WB∧okW l:=by simp[okW]
def kz{a b:List Nat}:okW (a++b)↔okW a∧okW b:=by simp only[okW,bC];exact⟨λh=>⟨λw hw=>h w (.inl hw),λw hw=>h w (.inr hw)⟩,λh w hw=>hw.elim (h.1 w) (h.2 w)⟩
def okW.take{l:List Nat}(h:okW l)(n:Nat):okW (l.take n):=λw hw=>h w (cC hw)
def okW.drop{l:List Nat}(h:okW l)(n:Nat):okW (l.drop n):=λw hw=>h w (fj hw)
def okW.at(h:okW l){w:Nat}(hi:l[i]?=some w):w<WB:=h w (aY hi)
def oB(n:Nat):okW (List.replicate n 0):=λw hw=>by rw[(fS.1 hw).2];decide
def mQ:val []=0:=rfl
def kK(w:Nat)(l:List Nat):val (w::l)=w+WB*val l:=rfl
def jy:∀a b:List Nat,val (a++b)=val a+WB^a.length*val b
 |[],b=>by simp[val]|w::a,b=>by simp only[dQ,val,jy a b,bu,cW];rw[cn,<-ep];congr 1;rw[<-cN,bG WB]
def vK:∀n:Nat,val (List.replicate n 0)=0
 |0=>rfl|n+1=>by simp[fB,val,vK n]
def lP:∀{l:List Nat},okW l->val l<WB^l.length
 |[],_=>by simp[val]
 |w::l,h=>by obtain⟨h1,h2⟩:=iS.1 h;have:=lP h2;simp only[val,bu,cW];have h3:WB*(val l+1)<=WB*WB^l.length:=ch _ this;rw[cn,cU]at h3;rw[bG (WB^l.length)];omega
def val_inj:∀{a b:List Nat},okW a->okW b->a.length=b.length->val a=val b->a=b
 |[],[],_,_,_,_=>rfl|[],_::_,_,_,h,_=>by cases h|_::_,[],_,_,h,_=>by cases h
 |x::a,y::b,ha,hb,hl,h=>by
  obtain⟨h1,h2⟩:=iS.1 ha;obtain⟨h3,h4⟩:=iS.1 hb;simp only[val]at h;have e1:x=y:=by have:=aT (· %WB) h;simpa[dc,bn h1,bn h3]using this
  subst e1;have e2:val a=val b:=Nat.eq_of_mul_eq_mul_left (show 0<WB by decide) ab;rw[val_inj h2 h4 (by simpa using hl) e2]
def iF(n:Nat):List Nat:=if h:n=0 then []else(n%WB)::iF (n/WB)
termination_by n
decreasing_by exact Nat.div_lt_self (Nat.pos_of_ne_zero h) af
def jg:iF 0=[]:=by rw[iF];simp
def ml(h:n≠0):iF n=(n%WB)::iF (n/WB):=by rw[iF];simp[h]
def Mu(h:iF n=[]):n=0:=by by_cases hn:n=0;exact hn;rw[ml hn]at h;cases h
def jm(n:Nat):val (iF n)=n:=by
 induction n using Nat.strongRecOn with
 |ind n ih=>
  by_cases hn:n=0;rw[hn,jg];rfl;rw[ml hn,val,ih _ (Nat.div_lt_self (Nat.pos_of_ne_zero hn) af)];exact cT n WB
def ji(n:Nat):okW (iF n):=by
 induction n using Nat.strongRecOn with
 |ind n ih=>
  by_cases hn:n=0;rw[hn,jg];exact ke;rw[ml hn];exact iS.2 ⟨bL _ af,ih _ (Nat.div_lt_self (Nat.pos_of_ne_zero hn) af)⟩
def aca{a b:Nat}(h:iF a=iF b):a=b:=by rw[<-jm a,h,jm]
def jC(h0:n≠0)(h:n<WB):iF n=[n]:=by rw[ml h0,bn h,cZ h,jg]
def mL:List Nat->Nat
 |[]=>0|w::r=>if mL r=0 then(if w=0 then 0 else 1)else mL r+1
def yj:∀l:List Nat,mL l<=l.length
 |[]=>aZ _|w::r=>by have:=yj r;simp only[mL,bu];split;split<;>omega;omega
def xM:∀{l:List Nat},mL l=0->val l=0
 |[],_=>rfl|w::r,h=>by simp only[mL]at h;split at h;rename_i h1;split at h;rename_i h2;subst h2;simp[val,xM h1];cases h;cases h
def vL:∀{l:List Nat},okW l->iF (val l)=l.take (mL l)
 |[],_=>by simp[val,jg,mL]
 |w::r,h=>by
  obtain⟨h1,h2⟩:=iS.1 h;have ih:=vL h2;simp only[val,mL];by_cases hr:mL r=0;rw[aW hr,xM hr];by_cases hw:w=0;subst hw;simp[jg];rw[aV hw,dZ,b9,jC hw h1];simp
  ·rw[aV hr];have hv:val r≠0:=λhv=>by
    rw[hv,jg]at ih;have:=aT List.length ih;have hl:=yj r;simp at this;omega
   rw[ml (by have:0<WB*val r:=fD af (Nat.pos_of_ne_zero hv);omega),eH,<-ih];rw[dc,bn h1,cL _ _ af,cZ h1,bc]
def zQ(h:okW l):(iF (val l)).length=mL l:=by rw[vL h,bW];exact ec (yj l)
def iU(h:n<WB^k):(iF n).length<=k:=by
 induction k generalizing n with
 |zero=>
  have:n=0:=by simpa using h
  subst this;simp[jg]
 |succ k ih=>
  by_cases hn:n=0;subst hn;simp[jg];rw[ml hn,bu];have:n/WB<WB^k:=eW (by rw[cW,bG]at h;exact h);have:=ih this;omega
def AN{w:Nat}(hk:l[k]?=some w)(hz:∀j,k<j->∀x,l[j]?=some x->x=0)(hw:w≠0):mL l=k+1:=by
 induction l generalizing k with
 |nil=>simp at hk
 |cons x r ih=>
  cases k with
  |zero=>
   simp at hk;subst hk;have:mL r=0:=by
    have lM:∀y∈r,y=0:=λy hy=>(by obtain⟨j,hj⟩:=bt hy;exact hz (j+1) ab y (by simpa using hj));clear ih hz;induction r with
    |nil=>rfl
    |cons y r QN=>
     simp only[mL];rw[QN λz hz=>lM z (bw _ hz),aW rfl,aW (lM y bE)]
   simp[mL,this,hw]
  |succ k=>
   have:=ih (by simpa using hk) λj hj y hy=>hz (j+1) ab y (by simpa using hy);simp[mL,this]
def EG(h:∀x∈l,x=0):mL l=0:=by
 induction l with
 |nil=>rfl
 |cons y r ih=>
  simp only[mL];rw[ih λz hz=>h z (bw _ hz),aW rfl,aW (h y bE)]
def iO:List Nat->Nat->Nat->List Nat
 |[],_,_=>[]|x::r,y,c=>(x*y+c)%WB::iO r y ((x*y+c)/WB)
def iW:List Nat->Nat->Nat->Nat
 |[],_,c=>c|x::r,y,c=>iW r y ((x*y+c)/WB)
def jh:∀(l:List Nat) (y c:Nat),(iO l y c).length=l.length
 |[],_,_=>rfl|x::r,y,c=>by simp[iO,jh r]
def rm:∀(l:List Nat) (y c:Nat),okW (iO l y c)
 |[],_,_=>ke|x::r,y,c=>iS.2 ⟨bL _ af,rm r _ _⟩
def EH{x y c:Nat}(hx:x<WB)(hy:y<WB)(hc:c<WB):(x*y+c)/WB<WB:=by
 refine eW ?_;have:x*y<=(WB-1)*(WB-1):=dy ab ab;have:(WB-1)*(WB-1)+WB<=WB*WB:=af
 omega
def yG:∀{l:List Nat} {y c:Nat},okW l->y<WB->c<WB->iW l y c<WB
 |[],_,_,_,_,hc=>hc
 |x::r,y,c,h,hy,hc=>by obtain⟨h1,h2⟩:=iS.1 h;show iW r y ((x*y+c)/WB)<WB;exact yG h2 hy (EH h1 hy hc)
def rn:∀(l:List Nat) (y c:Nat),val (iO l y c)+WB^l.length*iW l y c=val l*y+c
 |[],_,_=>by simp[iO,iW,val]
 |x::r,y,c=>by
  have ih:=rn r y ((x*y+c)/WB);simp only[iO,iW,val,bu,cW];have h1:WB*(val (iO r y ((x*y+c)/WB))+WB^r.length*iW r y ((x*y+c)/WB))=WB*(val r*y+(x*y+c)/WB):=by rw[ih]
  have h2:=cT (x*y+c) WB;rw[cn,cn,<-cN,<-cN]at h1;rw[bB,bG (WB^r.length) WB];omega
def jb:List Nat->List Nat->Nat->Nat->List Nat
 |z::zs,y::ys,m,c=>(y*m+z+c)%WB::jb zs ys m ((y*m+z+c)/WB)|_,_,_,_=>[]
def jk:List Nat->List Nat->Nat->Nat->Nat
 |z::zs,y::ys,m,c=>jk zs ys m ((y*m+z+c)/WB)|_,_,_,c=>c
def kM:∀{z y:List Nat} {m c:Nat},z.length=y.length->(jb z y m c).length=z.length
 |[],[],_,_,_=>rfl|[],_::_,_,_,h=>by cases h|_::_,[],_,_,h=>by cases h|z::zs,y::ys,m,c,h=>by simp[jb,kM (z:=zs) (y:=ys) (by simpa using h)]
def vj:∀(z y:List Nat) (m c:Nat),okW (jb z y m c)
 |[],_,_,_=>by simp[jb,ke]|_::_,[],_,_=>by simp[jb,ke]|z::zs,y::ys,m,c=>iS.2 ⟨bL _ af,vj zs ys _ _⟩
def B9{x y z c:Nat}(hx:x<WB)(hy:y<WB)(hz:z<WB)(hc:c<WB):(x*y+z+c)/WB<WB:=by
 refine eW ?_;have:x*y<=(WB-1)*(WB-1):=dy ab ab;have:(WB-1)*(WB-1)+WB+WB<=WB*WB+1:=af
 omega
def nL:∀{z y:List Nat} {m c:Nat},okW z->okW y->m<WB->c<WB->jk z y m c<WB
 |[],_,_,_,_,_,_,hc=>by simpa[jk]using hc|_::_,[],_,_,_,_,_,hc=>by simpa[jk]using hc
 |z::zs,y::ys,m,c,hz,hy,hm,hc=>by obtain⟨h1,h2⟩:=iS.1 hz;obtain⟨h3,h4⟩:=iS.1 hy;show jk zs ys m ((y*m+z+c)/WB)<WB;exact nL h2 h4 hm (B9 h3 hm h1 hc)
def vk:∀{z y:List Nat} (m c:Nat),z.length=y.length->val (jb z y m c)+WB^z.length*jk z y m c=val z+val y*m+c
 |[],[],_,_,_=>by simp[jb,jk,val]|[],_::_,_,_,h=>by cases h|_::_,[],_,_,h=>by cases h
 |z::zs,y::ys,m,c,h=>by
  have ih:=vk (z:=zs) (y:=ys) m ((y*m+z+c)/WB) (by simpa using h);simp only[jb,jk,val,bu,cW];have h1:WB*(val (jb zs ys m ((y*m+z+c)/WB))+WB^zs.length*jk zs ys m ((y*m+z+c)/WB))=WB*(val zs+val ys*m+(y*m+z+c)/WB):=by rw[ih]
  have h2:=cT (y*m+z+c) WB;rw[cn,cn,cn,<-cN,<-cN]at h1;rw[bB,bG (WB^zs.length) WB];omega
def iH(ws:List Nat)(off:Nat)(us:List Nat):List Nat:=ws.take off++us++ws.drop (off+us.length)
variable{ws us:List Nat}
def iX(h:off+us.length<=ws.length):(iH ws off us).length=ws.length:=by simp[iH];omega
def yk(off:Nat)(h1:okW ws)(h2:okW us):okW (iH ws off us):=kz.2 ⟨kz.2 ⟨h1.take _,h2⟩,h1.drop _⟩
def P7{vs:List Nat}(h:off+us.length+vs.length<=ws.length):iH (iH ws off us) (off+us.length) vs=iH ws off (us++vs):=by
 unfold iH;have e1:(ws.take off).length=off:=by simp;omega
 have e2:(ws.take off++us++ws.drop (off+us.length)).take (off+us.length)=ws.take off++us:=by rw[cV ad,bR ad]
 have e3:(ws.take off++us++ws.drop (off+us.length)).drop (off+us.length+vs.length)=ws.drop (off+(us++vs).length):=by rw[List.drop_append,dH ad,dX,gr];congr 1;simp;omega
 rw[e2,e3];simp
def EI(h:off+us.length<=ws.length):((iH ws off us).drop off).take us.length=us:=by
 unfold iH;have e1:(ws.take off).length=off:=by simp;omega
 rw[bV,List.drop_append,dH ab,dX,e1,dA,dz,List.take_left'];rfl
def yH(zs x:List Nat)(i d:Nat):List Nat:=
 iH zs i (jb ((zs.drop i).take x.length) x d 0++[jk ((zs.drop i).take x.length) x d 0])
structure mY(x y zs:List Nat)(i:Nat):Prop where
 ok:okW zs
 len:zs.length=x.length+y.length
 v:val zs=val x*val (y.take i)
 z:∀k,x.length+i<=k->∀w,zs[k]?=some w->w=0
variable{zs:List Nat}
def Mv(h:i+us.length<=zs.length):val (iH zs i us)+WB^i*val ((zs.drop i).take us.length)=val zs+WB^i*val us:=by
 have e1:(zs.take i).length=i:=by simp;omega
 have hz:val zs=val (zs.take i)+WB^i*(val ((zs.drop i).take us.length)+WB^us.length*val (zs.drop (i+us.length))):=by
  conv=>lhs;rw[<-cA i zs,<-cA us.length (zs.drop i)]
  rw[jy,jy,e1,gr];have:((zs.drop i).take us.length).length=us.length:=by simp;omega
  rw[this]
 have hp:val (iH zs i us)=val (zs.take i)+WB^i*(val us+WB^us.length*val (zs.drop (i+us.length))):=by unfold iH;rw[bV,jy,jy,e1]
 rw[hz,hp];simp only[cn];omega
def mY.start(x y:List Nat):mY x y (List.replicate (x.length+y.length) 0) 0:=
 ⟨oB _,by simp,by simp[vK,val],λk _ w hw=>by rw[eJ]at hw;split at hw<;>simp_all⟩
def mY.skip{x y:List Nat}(h:mY x y zs i)(hd:y[i]?=some 0):mY x y zs (i+1):=by refine⟨h.ok,h.len,?_,λk hk=>h.z k ab⟩;have hi:=(aR.1 hd).1;rw[h.v,fu,hd,Option.toList_some,jy];simp[val]
def mY.step{x y:List Nat}(hx:okW x)(h:mY x y zs i)(hd:y[i]?=some d)(yV:d<WB):mY x y (yH zs x i d) (i+1):=by
 have hi:=(aR.1 hd).1;have hl:=h.len;have hp:((zs.drop i).take x.length).length=x.length:=by simp;omega
 have ae3:okW ((zs.drop i).take x.length):=(h.ok.drop i).take _;have Bm:(jb ((zs.drop i).take x.length) x d 0++[jk ((zs.drop i).take x.length) x d 0]).length=x.length+1:=by rw[bd,kM hp,hp];rfl
 have hc:=nL ae3 hx yV (show 0<WB by decide);have mK:i+(jb ((zs.drop i).take x.length) x d 0++[jk ((zs.drop i).take x.length) x d 0]).length<=zs.length:=by rw[Bm];omega
 have hzero:∀k,x.length+i<=k->∀w,zs[k]?=some w->w=0:=h.z;have hold:val ((zs.drop i).take (x.length+1))=val ((zs.drop i).take x.length):=by
  rw[fu,jy];have:((zs.drop i)[x.length]?).toList=[0]:=by rw[bD];have iI:i+x.length<zs.length:=ab;rw[aS iI];have:=hzero (i+x.length) ab _ (aS iI);simp[this]
  rw[this];simp[val]
 have q7:val (jb ((zs.drop i).take x.length) x d 0++[jk ((zs.drop i).take x.length) x d 0])=val ((zs.drop i).take x.length)+val x*d:=by have:=vk (z:=(zs.drop i).take x.length) (y:=x) d 0 hp;rw[jy,kM hp];simp only[val,dZ,b9]at this⊢;exact this
 refine⟨yk _ h.ok (kz.2 ⟨vj _ _ _ _,iS.2 ⟨hc,ke⟩⟩),?_,?_,?_⟩;unfold yH;rw[iX mK,hl]
 ·have hv:=Mv mK;rw[Bm,hold,q7,h.v]at hv;unfold yH;rw[fu,hd,Option.toList_some,jy,bW,ec ab];simp only[val,dZ,b9,cn]at hv⊢;have:val x*(WB^i*d)=WB^i*(val x*d):=by rw[<-cN,<-cN,bG (val x)]
  omega
 ·intro k hk w hw;unfold yH at hw;generalize jb ((zs.drop i).take x.length) x d 0++[jk ((zs.drop i).take x.length) x d 0]=us at Bm mK hw;unfold iH at hw;have h1:(zs.take i++us).length=i+us.length:=by simp;omega
  rw[a7 ab,bD,h1]at hw;exact hzero _ ab w hw
def iQ:Nat->Nat->List Nat
 |0,_=>[]|k+1,v=>v%WB::iQ k (v/WB)
def iN:∀k v:Nat,(iQ k v).length=k
 |0,_=>rfl|k+1,v=>by simp[iQ,iN k]
def lJ:∀k v:Nat,okW (iQ k v)
 |0,_=>ke|k+1,v=>iS.2 ⟨bL _ af,lJ k _⟩
def sf:∀{l:List Nat},okW l->iQ l.length (val l)=l
 |[],_=>rfl
 |w::r,h=>by obtain⟨h1,h2⟩:=iS.1 h;simp only[bu,iQ,val];rw[dc,bn h1,cL _ _ af,cZ h1,bc,sf h2]
def lH:∀{k v:Nat},v<WB^k->val (iQ k v)=v
 |0,v,h=>by
  have:v=0:=by simpa using h
  subst this;rfl
 |k+1,v,h=>by have:v/WB<WB^k:=eW (by rw[cW,bG]at h;exact h);simp only[iQ,val];rw[lH this];exact cT v WB
def mf{v:Nat}(h:v<WB^k):mL (iQ k v)=(iF v).length:=by rw[<-zQ (lJ k v),lH h]
def AO{v:Nat}(h:v<WB^k):(iQ k v).take (iF v).length=iF v:=by have:=vL (lJ k v);rw[lH h,mf h]at this;exact this.symm
def mY.pad{x y:List Nat}(h:mY x y zs i):zs=iQ (x.length+y.length) (val x*val (y.take i)):=by rw[<-h.v,<-h.len,sf h.ok]
inductive iD where
 |mk (kind:Int) (yes:Bool) (Rt exp:Int) (text:ByteArray) (list:List iD)
mutual
def iD.g:iD->GV
 |.mk kind yes Rt exp text list=>.agg [.int .i64 kind,.bool yes,.int .i64 Rt,.int .i64 exp,.str text,.sl (iD.gs list)]
def iD.gs:List iD->List GV
 |[]=>[]|v::r=>v.g::iD.gs r
end
inductive xc where
 |mk (kind:Int) (val:iD) (name:ByteArray) (kids:List xc)
mutual
def xc.g:xc->GV
 |.mk kind val name kids=>.agg (.int .i64 kind::(val.g.cells++[.str name,.sl (xc.gs kids)]))
def xc.gs:List xc->List GV
 |[]=>[]|v::r=>v.g::xc.gs r
end
inductive iJ where
 |mk (kind:Int) (a b:iD) (ad0 ad1:Bool) (kids:List iJ)
mutual
def iJ.g:iJ->GV
 |.mk kind a b ad0 ad1 kids=>.agg (.int .i64 kind::(a.g.cells++(b.g.cells++[.bool ad0,.bool ad1,.sl (iJ.gs kids)])))
def iJ.gs:List iJ->List GV
 |[]=>[]|v::r=>v.g::iJ.gs r
end
inductive Gq where
 |mk (name:ByteArray) (kind:Int) (order:List iD)
def Gq.g:Gq->GV
 |.mk name kind order=>.agg [.str name,.int .i64 kind,.sl (iD.gs order)]
def Gq.gs(l:List Gq):List GV:=l.map Gq.g
inductive Bz where
 |mk (ad2:List iJ) (outs:List xc)
def Bz.g:Bz->GV
 |.mk ad2 outs=>.agg [.sl (iJ.gs ad2),.sl (xc.gs outs)]
def Bz.gs(l:List Bz):List GV:=l.map Bz.g
inductive Ha where
 |mk (name:ByteArray) (X2:Int) (ins outs:List Gq) (rules:List Bz)
def Ha.g:Ha->GV
 |.mk name X2 ins outs rules=>.agg [.str name,.int .i64 X2,.sl (Gq.gs ins),.sl (Gq.gs outs),.sl (Bz.gs rules)]
inductive N8 where
 |mk (Tu seq kind:Int) (table:Ha) (name:ByteArray) (to:Int)
def N8.g:N8->GV
 |.mk Tu seq kind table name to=>.agg ([.int .i64 Tu,.int .i64 seq,.int .i64 kind]++table.g.cells++[.str name,.int .i64 to])
def N8.gs(l:List N8):List GV:=l.map N8.g
def iD.jd:∀l,iD.gs l=l.map iD.g
 |[]=>rfl|v::r=>by simp[iD.gs,iD.jd r]
def iJ.jd:∀l,iJ.gs l=l.map iJ.g
 |[]=>rfl|v::r=>by simp[iJ.gs,iJ.jd r]
def iD.cells(v:iD):v.g.cells.length=6:=by cases v;rfl
def xc.cells(v:xc):v.g.cells.length=9:=by obtain⟨k,v,n,l⟩:=v;simp[xc.g,GV.cells];have:=iD.cells v;simp[GV.cells]at this;omega
def iJ.cells(v:iJ):v.g.cells.length=16:=by obtain⟨k,a,b,_,_,l⟩:=v;simp[iJ.g,GV.cells];have:=iD.cells a;have:=iD.cells b;simp[GV.cells]at *;omega
def Gq.cells(v:Gq):v.g.cells.length=3:=by cases v;rfl
def Bz.cells(v:Bz):v.g.cells.length=2:=by cases v;rfl
def Ha.cells(v:Ha):v.g.cells.length=5:=by cases v;rfl
def N8.cells(v:N8):v.g.cells.length=10:=by obtain⟨_,_,_,⟨_,_,_,_,_⟩,_,_⟩:=v;rfl
def lg{α:Type}{f:α->GV}{l:List α}(h:i<l.length):(l.map f)[((i:Int)).toNat]?=some (f l[i]):=by simp[h]
def map_take{α β:Type}{f:α->β}{l:List α}{i:Nat}(h:i<l.length):(l.take (i+1)).map f=(l.take i).map f++[f l[i]]:=by rw[b7 h,eU];rfl
def X3(P:Program):List TypeId->List GV->Prop
 |[],[]=>True|t::ts,x::xs=>GT P t x∧X3 P ts xs|_,_=>False
def X4{P:Program}:∀(ts:List TypeId) (xs:List GV),xs.length=ts.length->(∀(i:Nat) (t:TypeId) (x:GV),ts[i]?=some t->xs[i]?=some x->GT P t x)->X3 P ts xs
 |[],[],_,_=>trivial|[],_::_,h,_=>by simp at h|_::_,[],h,_=>by simp at h|t::ts,x::xs,hl,h=>⟨h 0 t x rfl rfl,X4 ts xs (by simpa using hl) λi t x ht hx=>h (i+1) t x (by simpa using ht) (by simpa using hx)⟩
def CC(P:Program)(t:TypeId)(ts:List TypeId):Prop:= ∃fs,P.underlying t=some (.struct fs)∧fs.toList.map (·.type)=ts
def CC.inv{t:TypeId}{ts:List TypeId}{g:GV}(hu:CC P t ts)(h:GT P t g):∃xs:List GV,g=.agg (xs.flatMap GV.cells)∧X3 P ts xs:=by obtain⟨fs,hu,rfl⟩:=hu;obtain⟨xs,rfl,hl,hx⟩:=GT.ab2 hu h;refine⟨xs,rfl,X4 _ _ (by simpa using hl) λi t x ht lY=>?_⟩;simp only[bj,fC,bh]at ht;obtain⟨f,hf,rfl⟩:=ht;exact hx i f x hf lY
variable{xs:List GV}
def X3.one{t:TypeId}{ts:List TypeId}(h:X3 P (t::ts) xs):∃x r,xs=x::r∧GT P t x∧X3 P ts r:=by
 cases xs with
 |nil=>exact h.elim|cons x r=>exact⟨x,r,rfl,h.1,h.2⟩
def X3.nil{P:Program}{xs:List GV}(h:X3 P [] xs):xs=[]:=by
 cases xs with
 |nil=>rfl|cons x r=>exact h.elim
def vB:∀(xs:List GV) (x:GV),x∈xs->SizeOf.sizeOf x<=SizeOf.sizeOf (GV.agg (xs.flatMap GV.cells))
 |y::xs,x,h=>by
  rcases bN.1 h with rfl|h
  ·have key:∀a b:List GV,SizeOf.sizeOf a<=SizeOf.sizeOf (a++b):=by
    intro a b;induction a with
    |nil=>cases b<;>simp<;>try omega|cons z a ih=>simp;exact ih
   have:=key x.cells (xs.flatMap GV.cells);simp only[fv,GV.agg.sizeOf_spec];cases x<;>simp[GV.cells]at * <;>omega
  ·have:=vB xs x h;have key:∀a b:List GV,SizeOf.sizeOf b<=SizeOf.sizeOf (a++b):=by
    intro a b;induction a with
    |nil=>simp|cons z a ih=>simp;omega
   have:=key y.cells (xs.flatMap GV.cells);simp only[fv,GV.agg.sizeOf_spec]at *
   omega
def C7{P:Program}{e:TypeId}{α:Type}(f:α->GV):∀(es:List GV),(∀x∈es,GT P e x)->(∀x∈es,GT P e x->∃a,x=f a)->∃l:List α,es=l.map f
 |[],_,_=>⟨[],rfl⟩
 |x::es,h,k=>by obtain⟨l,rfl⟩:=C7 f es (λy hy=>h y (bw _ hy)) λy hy=>k y (bw _ hy);obtain⟨a,rfl⟩:=k x aa (h x aa);exact⟨a::l,rfl⟩
def OT{x:GV}(h:x∈es):SizeOf.sizeOf x<SizeOf.sizeOf (GV.sl es):=by have:=List.sizeOf_lt_of_mem h;simp;omega
section
variable{P:Program}{ti tj tb ts TV TD LV TE LE TT LT TC LC TR LR TB TM:TypeId}
def Tv(hi:P.underlying ti=some (.int .i64))(hj:P.underlying tj=some (.int .i64))(hb:P.underlying tb=some .bool)(hs:P.underlying ts=some .string)
  (hV:CC P TV [ti,tb,TD,ts,LV]) (hD:CC P TD [tj,ti]) (hL:P.underlying LV=some (.slice TV)):∀(m:Nat) (g:GV),SizeOf.sizeOf g<=m->GT P TV g->∃v:iD,g=v.g
 |0,g,hm,_=>by cases g<;>simp at hm
 |m+1,g,hm,h=>by obtain⟨xs,rfl,hx⟩:=hV.inv h;obtain⟨a,xs,rfl,ha,hx⟩:=hx.one;obtain⟨b,xs,rfl,Au,hx⟩:=hx.one;obtain⟨c,xs,rfl,hc,hx⟩:=hx.one;obtain⟨d,xs,rfl,hd,hx⟩:=hx.one;obtain⟨e,xs,rfl,he,hx⟩:=hx.one;obtain rfl:=hx.nil;have kl:=vB [a,b,c,d,e] e aa;obtain⟨kind,rfl,_⟩:=GT.Cp hi ha;obtain⟨yes,rfl⟩:=GT.Hq hb Au;obtain⟨ys,rfl,hy⟩:=hD.inv hc;obtain⟨a,ys,rfl,ha,hy⟩:=hy.one;obtain⟨b,ys,rfl,Au,hy⟩:=hy.one;obtain rfl:=hy.nil;obtain⟨Rt,rfl,_⟩:=GT.Cp hj ha;obtain⟨exp,rfl,_⟩:=GT.Cp hi Au;obtain⟨text,rfl,_⟩:=GT.ab1 hs hd;obtain⟨es,rfl,_,hl⟩:=GT.QC hL he;obtain⟨l,rfl⟩:=C7 iD.g es hl λx hx hg=>Tv hi hj hb hs hV hD hL m x (by have:=OT hx;omega) hg;exact⟨.mk kind yes Rt exp text l,by simp[iD.g,iD.jd,GV.cells]⟩
def OU(hi:P.underlying ti=some (.int .i64))(hb:P.underlying tb=some .bool)(hV:∀g,GT P TV g->∃v:iD,g=v.g)
  (hT:CC P TT [ti,TV,TV,tb,tb,LT]) (hL:P.underlying LT=some (.slice TT)):∀(m:Nat) (g:GV),SizeOf.sizeOf g<=m->GT P TT g->∃v:iJ,g=v.g
 |0,g,hm,_=>by cases g<;>simp at hm
 |m+1,g,hm,h=>by obtain⟨xs,rfl,hx⟩:=hT.inv h;obtain⟨a,xs,rfl,ha,hx⟩:=hx.one;obtain⟨b,xs,rfl,Au,hx⟩:=hx.one;obtain⟨c,xs,rfl,hc,hx⟩:=hx.one;obtain⟨d,xs,rfl,hd,hx⟩:=hx.one;obtain⟨e,xs,rfl,he,hx⟩:=hx.one;obtain⟨f,xs,rfl,hf,hx⟩:=hx.one;obtain rfl:=hx.nil;have kl:=vB [a,b,c,d,e,f] f aa;obtain⟨kind,rfl,_⟩:=GT.Cp hi ha;obtain⟨v,rfl⟩:=hV _ Au;obtain⟨u,rfl⟩:=hV _ hc;obtain⟨o1,rfl⟩:=GT.Hq hb hd;obtain⟨o2,rfl⟩:=GT.Hq hb he;obtain⟨es,rfl,_,hl⟩:=GT.QC hL hf;obtain⟨l,rfl⟩:=C7 iJ.g es hl λx hx hg=>OU hi hb hV hT hL m x (by have:=OT hx;omega) hg;refine⟨.mk kind v u o1 o2 l,?_⟩;simp only[iJ.g,iJ.jd,fv,List.flatMap_nil,cG];rfl
def Vj(hV:∀g,GT P TT g->∃v:iJ,g=v.g)(hL:P.underlying LT=some (.slice TT)){g:GV}(h:GT P LT g):∃l:List iJ,g=.sl (iJ.gs l):=by obtain⟨es,rfl,_,hl⟩:=GT.QC hL h;obtain⟨l,rfl⟩:=C7 iJ.g es hl λx _ hg=>hV x hg;exact⟨l,by rw[iJ.jd]⟩
end
inductive Vk where
 |mk (kind:Int) (elem:List Vk)
mutual
def Vk.g:Vk->GV
 |.mk kind elem=>.agg [.int .i64 kind,.sl (Vk.gs elem)]
def Vk.gs:List Vk->List GV
 |[]=>[]|v::r=>v.g::Vk.gs r
end
def Vk.cells(v:Vk):v.g.cells.length=2:=by cases v;rfl
def qD(l:List UInt8):ByteArray:=⟨l.toArray⟩
def lZ(l:List UInt8):(qD l).toList=l:=by simp[qD]
def Y3(a b:List UInt8):qD a++qD b=qD (a++b):=by apply ByteArray.ext;simp[qD,ByteArray.data_append]
def sZ(a:List UInt8):(qD a).size=a.length:=by simp[qD,ByteArray.size]
mutual
def mJ:GV->Prop
 |.agg cs=>yI cs|.sl es=>es.length<=maxLen∧yI es|.str s=>s.size<=maxLen|_=>True
def yI:List GV->Prop
 |[]=>True|g::r=>mJ g∧yI r
end
def nF:∀{l:List GV},yI l↔ ∀x∈l,mJ x
 |[]=>by simp[yI]|x::l=>by simp[yI,nF (l:=l)]
def xO{x:GV}:yI x.cells↔mJ x:=by cases x<;>simp[GV.cells,yI,mJ]
def GT.mJ{P:Program}{t:TypeId}{g:GV}(h:GT P t g):mJ g:=by
 induction h with
 |int t k n h hw=>simp[Pure.mJ]|bool t b h=>simp[Pure.mJ]|str t s h hs=>simpa[Pure.mJ]using hs|sl t e es h hl he ih=>simp only[Pure.mJ];exact⟨hl,nF.2 ih⟩
 |agg t fs xs h hl hx ih=>
  simp only[Pure.mJ];refine nF.2 λc hc=>?_;obtain⟨x,lY,hc⟩:=dS.1 hc;obtain⟨i,hi,rfl⟩:=List.getElem_of_mem lY;have hf:i<fs.size:=ab
  exact nF.1 (xO.2 (ih i fs[i] xs[i] (by simp[hf]) (by simp[hi]))) c hc
def iD.uX{kind:Int}{yes:Bool}{Rt exp:Int}{text:ByteArray}{list:List iD}(h:mJ (iD.mk kind yes Rt exp text list).g):list.length<=maxLen∧∀v∈list,mJ v.g:=by simp only[iD.g,mJ,yI,iD.jd,dm]at h;obtain⟨_,_,_,_,_,⟨h1,h2⟩,_⟩:=h;exact⟨h1,λv hv=>nF.1 h2 _ (List.mem_map_of_mem hv)⟩
def tB(b:Bool):Int:=if b then 1 else -1
mutual
def eqV:iD->iD->Int
 |.mk k y c e t l,.mk k' y' c' e' t' l'=>
  if k=k' then(if k=2 then tB (y==y')else if k=3 then tB (decide (c=c'∧e=e'))else if k=4 then tB (t.toList==t'.toList)else if k=5 then(if l.length=l'.length then ah7 l l' 1 else -1)else 1)
  else if k=1∨k'=1 then -1 else 0
def ah7:List iD->List iD->Int->Int
 |x::r,y::s,a=>ah7 r s (min a (eqV x y))|_,_,a=>a
end
mutual
def mo:iD->iD
 |.mk k y c e t l=>.mk k (if k=2 then y else false) (if k=3 then c else 0) (if k=3 then e else 0) (if k=4 then t else⟨#[]⟩) (if k=5 then X5 l else [])
def X5:List iD->List iD
 |[]=>[]|v::r=>mo v::X5 r
end
mutual
def Ac:iD->iD->Bool
 |.mk k y c e t l,.mk k' y' c' e' t' l'=>decide (k=k')&&(y==y')&&decide (c=c'∧e=e')&&(t.toList==t'.toList)&&tA l l'
def tA:List iD->List iD->Bool
 |[],[]=>true|x::r,y::s=>Ac x y&&tA r s|_,_=>false
end
def Hu{a b:ByteArray}(h:a.toList=b.toList):a=b:=by
 have h1:∀x:ByteArray,x=qD x.data.toList:=λx=>by cases x;simp[qD]
 rw[h1 a,h1 b,lZ,lZ]at h;rw[h1 a,h1 b,h]
mutual
def EJ:∀a b:iD,Ac a b=true↔a=b
 |.mk k y c e t l,.mk k' y' c' e' t' l'=>by rw[Ac];simp only[bI,cX,bQ,Ic l l',iD.mk.injEq];constructor;rintro⟨⟨⟨⟨h1,h2⟩,h3,h4⟩,h5⟩,h6⟩;exact⟨h1,h2,h3,h4,Hu h5,h6⟩;rintro⟨h1,h2,h3,h4,h5,h6⟩;exact⟨⟨⟨⟨h1,h2⟩,h3,h4⟩,by rw[h5]⟩,h6⟩
def Ic:∀a b:List iD,tA a b=true↔a=b
 |[],[]=>by simp[tA]|x::r,y::s=>by rw[tA,bI,EJ x y,Ic r s];simp|[],_::_=>by simp[tA]|_::_,[]=>by simp[tA]
end
def okV:iD->Prop
 |.mk k _ _ _ _ l=>(k=1∨k=2∨k=3∨k=4∨k=5)∧(k=5->l.length<=200∧∀v∈l,okV v)
def agh(k:Int)(y:Bool)(c e:Int)(t:ByteArray)(l:List iD):okV (.mk k y c e t l)↔(k=1∨k=2∨k=3∨k=4∨k=5)∧(k=5->l.length<=200∧∀v∈l,okV v):=by rw[okV]
def tk(n:Int):Int:=if n=0 then 1 else 2
def ty(n:Int):Bool:=if n=0 then false else decide (n>0)
def iZ(c e:Int):Int:=if 999999999999999999<c∨c< -999999999999999999∨40<e∨e< -40 then 3 else if c=0∧e≠0 then 2 else if c≠0∧c.tmod 10=0 then 2 else 0
section
variable(V:ByteArray->Bool)
mutual
def kJ:iD->Nat->Nat->Nat×Int
 |.mk k _ c e t l,n,d=>if 2000<n+1∨20<d then(n+1,4)else if k=1∨k=2 then(n+1,0)else if k=3 then(n+1,iZ c e)
  else if k=4 then(n+1,if 1000<t.size then 4 else if V t=true then 0 else 2)else if k=5 then(if 200<l.length then(n+1,5)else oM l (n+1) (d+1))else(n+1,1)
def oM:List iD->Nat->Nat->Nat×Int
 |[],n,_=>(n,0)|v::r,n,d=>if(kJ v n d).2=0 then oM r (kJ v n d).1 d else kJ v n d
end
variable{V}
def uY(k:Int)(y:Bool)(c e:Int)(t:ByteArray)(l:List iD)(n d:Nat):kJ V (.mk k y c e t l) n d=if 2000<n+1∨20<d then(n+1,4)else if k=1∨k=2 then(n+1,0)else if k=3 then(n+1,iZ c e)
  else if k=4 then(n+1,if 1000<t.size then 4 else if V t=true then 0 else 2)else if k=5 then(if 200<l.length then(n+1,5)else oM V l (n+1) (d+1))else(n+1,1):=by rw[kJ]
mutual
def C8:∀(v:iD) (n d:Nat),(kJ V v n d).2=0->okV v∧(kJ V v n d).1<=2000
 |.mk k y c e t l,n,d,h=>by
  rw[uY]at h⊢;rw[agh];by_cases h1:2000<n+1∨20<d;rw[aW h1]at h;cases h
  ·rw[aV h1]at h⊢;by_cases h2:k=1∨k=2;rw[aW h2]at h⊢;exact⟨⟨by omega,by omega⟩,by simp only;omega⟩
   ·rw[aV h2]at h⊢;by_cases h3:k=3;rw[aW h3]at h⊢;exact⟨⟨by omega,by omega⟩,by simp only;omega⟩
    ·rw[aV h3]at h⊢;by_cases h4:k=4;rw[aW h4]at h⊢;exact⟨⟨by omega,by omega⟩,by simp only;omega⟩;rw[aV h4]at h⊢;by_cases h5:k=5;rw[aW h5]at h⊢;by_cases h6:200<l.length;rw[aW h6]at h;cases h;rw[aV h6]at h⊢;obtain⟨q1,q2⟩:=Kw l (n+1) (d+1) ab h;exact⟨⟨by omega,λ_=>⟨by omega,q1⟩⟩,q2⟩;rw[aV h5]at h;cases h
def Kw:∀(l:List iD) (n d:Nat),n<=2000->(oM V l n d).2=0->(∀v∈l,okV v)∧(oM V l n d).1<=2000
 |[],n,d,hn,h=>⟨by simp,hn⟩
 |v::r,n,d,hn,h=>by
  rw[oM]at h⊢;by_cases h1:(kJ V v n d).2=0
  ·rw[aW h1]at h⊢;obtain⟨q1,q2⟩:=C8 v n d h1;obtain⟨q3,q4⟩:=Kw r _ d q2 h;refine⟨λx hx=>?_,q4⟩;rcases bN.1 hx with rfl|hx
   exact q1;exact q3 x hx
  rw[aV h1]at h;exact absurd h h1
end
end
def X6{k:Int}{y:Bool}{c e:Int}{t:ByteArray}{l:List iD}(ht:t.size<=maxLen)(hl:l.length<=maxLen)(h:∀v∈l,mJ v.g):mJ (iD.mk k y c e t l).g:=by simp only[iD.g,mJ,yI,iD.jd,dm,true_and,and_true];refine⟨ht,hl,nF.2 λx hx=>?_⟩;obtain⟨v,hv,rfl⟩:=cH.1 hx;exact h v hv
end Go.Pure
namespace Go.Pure
def pC(a b:Int):Int:=if a<b then -1 else if b<a then 1 else 0
def CD{a b:Int}:pC a b<0↔a<b:=by unfold pC;split;simp[*];split<;>simp[*]
def rp{a b k:Int}(hk:0<k):pC (a*k) (b*k)=pC a b:=by have h1:∀x y:Int,x*k<y*k↔x<y:=λx y=>⟨λh=>Int.lt_of_mul_lt_mul_right h (Int.le_of_lt hk),λh=>Int.mul_lt_mul_of_pos_right h hk⟩;unfold pC;simp only[h1]
def iR(c e:Int):Int:=c*10^(e+40).toNat
def pK(c e m:Int):Int:=c*((10^(e-m).toNat:Nat):Int)
def rq{c e m:Int}(h: -40<=m)(hm:m<=e):iR c e=pK c e m*10^(m+40).toNat:=by unfold iR pK;rw[cO,gH,show((10:Nat):Int)=10 from rfl,<-gY,show(e-m).toNat+(m+40).toNat=(e+40).toNat by omega]
def s6(c e d f:Int):Int:=pC (pK c e (min e f)) (pK d f (min e f))
def Mw(k:Nat):(0:Int)<10^k:=gA af
def vM{c e d f:Int}(he: -40<=e)(hf: -40<=f):s6 c e d f=pC (iR c e) (iR d f):=by unfold s6;rw[rq (m:=min e f) (c:=c) (e:=e) ab ab,rq (m:=min e f) (c:=d) (e:=f) ab ab,rp (Mw _)]
def jT{c e:Int}(h:iZ c e=0):(-999999999999999999<=c∧c<=999999999999999999∧ -40<=e∧e<=40)∧(c=0->e=0)∧(c≠0->c.tmod 10≠0):=by
 unfold iZ at h;split at h;cases h
 ·split at h;cases h;split at h;cases h;refine⟨by omega,λh0=>?_,λh0=>?_⟩;rename_i h1 _;exact cj λh2=>h1 ⟨h0,h2⟩;rename_i h2;exact λh3=>h2 ⟨h0,h3⟩
def Y4{c e d f:Int}(h1:iZ c e=0)(h2:iZ d f=0)(h:iR c e=iR d f):c=d∧e=f:=by
 have key:∀{c e d f:Int},iZ c e=0->iZ d f=0->iR c e=iR d f->e<f->False:=by
  intro c e d f h1 h2 h iI;obtain⟨⟨a1,a2,a3,a4⟩,a5,a6⟩:=jT h1;obtain⟨⟨b1,b2,b3,b4⟩,b5,b6⟩:=jT h2;rw[rq (m:=e) (c:=d) (e:=f) ab ab]at h;unfold iR at h;have hc:c=pK d f e:=eR (fZ (Mw _)) h;have hk:(f-e).toNat=((f-e).toNat-1)+1:=ab
  have hdiv:c.tmod 10=0:=by rw[hc];unfold pK;rw[hk,cW];push_cast;rw[<-cO];exact Int.mul_tmod_left _ _
  by_cases h0:c=0
  ·have he:=a5 h0;rw[h0]at hc;unfold pK at hc;have hd:d=0:=by
    rcases Int.mul_eq_zero.1 hc.symm with hd|hd
    exact hd;exfalso;have:=dt (n:=(f-e).toNat) (show 0<10 by decide);omega
   have:=b5 hd;omega
  exact a6 h0 hdiv
 rcases eZ e f with iI|heq|oJ
 exact(key h1 h2 h iI).elim;subst heq;unfold iR at h;exact⟨eR (fZ (Mw _)) h,rfl⟩;exact(key h2 h1 h.symm oJ).elim
def wV:∀a:List UInt8,Op.bytesLess a a=false
 |[]=>rfl|x::r=>by simp[Op.bytesLess,wV r]
def oE(x y:UInt8)(r s:List UInt8):Op.bytesLess (x::r) (y::s)=(decide (x<y)||(x==y&&Op.bytesLess r s)):=rfl
def OV(x y:UInt8):(x<y∧¬y<x∧x≠y)∨(x=y)∨(y<x∧¬x<y∧x≠y):=by
 rcases fF x.toNat y.toNat with h|h|h
 exact .inl ⟨eG.2 h,λh2=>by have:=eG.1 h2;omega,λe=>by subst e;omega⟩;exact .inr (.inl (UInt8.toNat_inj.1 h));exact .inr (.inr ⟨eG.2 h,λh2=>by have:=eG.1 h2;omega,λe=>by subst e;omega⟩)
def BP:∀a b:List UInt8,(Op.bytesLess a b).toNat+(Op.bytesLess b a).toNat+(decide (a=b)).toNat=1
 |[],[]=>rfl|[],_::_=>by simp[Op.bytesLess]|_::_,[]=>by simp[Op.bytesLess]
 |x::r,y::s=>by
  have ih:=BP r s;rw[oE,oE];rcases OV x y with⟨h1,h2,h3⟩|h|⟨h1,h2,h3⟩
  simp[h1,h2,h3,ij h3];subst h;have hi:¬x<x:=λh=>(by have:=eG.1 h;omega);simpa[hi]using ih;simp[h1,h2,h3,ij h3]
def zi:∀a b c:List UInt8,Op.bytesLess a b=true->Op.bytesLess b c=true->Op.bytesLess a c=true
 |_,[],_,h,_=>by simp[Op.bytesLess]at h|_,_::_,[],_,h=>by simp[Op.bytesLess]at h|[],_::_,_::_,_,_=>rfl
 |x::r,y::s,z::q,h1,h2=>by
  have ih:=zi r s q;rw[oE]at h1 h2⊢;simp only[gT,cX,bI,bQ]at h1 h2⊢;rcases h1 with h1|⟨h1,Kf⟩<;>rcases h2 with h2|⟨h2,h2'⟩
  left;have a1:=eG.1 h1;have a2:=eG.1 h2;exact eG.2 ab;subst h2;exact .inl h1;subst h1;exact .inl h2;exact .inr ⟨h1.trans h2,ih Kf h2'⟩
def pA:iD->iD->Int
 |.mk k _ c e t _,.mk k' _ c' e' t' _=>if k=3∧k'=3 then(if iZ c e≠0∨iZ c' e'≠0 then 0 else tB (decide (s6 c e c' e'<0)))else if k=4∧k'=4 then tB (Op.bytesLess t.toList t'.toList)else 0
def xd(k:Int)(y:Bool)(c e:Int)(t:ByteArray)(l:List iD)(k':Int)(y':Bool)(c' e':Int)(t':ByteArray)(l':List iD):pA (.mk k y c e t l) (.mk k' y' c' e' t' l')=
  if k=3∧k'=3 then(if iZ c e≠0∨iZ c' e'≠0 then 0 else tB (decide (s6 c e c' e'<0)))else if k=4∧k'=4 then tB (Op.bytesLess t.toList t'.toList)else 0:=rfl
def xP{V:ByteArray->Bool}{y:Bool}{c e:Int}{t:ByteArray}{l:List iD}(h:(kJ V (.mk 3 y c e t l) 0 1).2=0):iZ c e=0:=by rw[uY]at h;simpa using h
end Go.Pure
namespace Go.Pure
open Go
section
variable{P:Program}{o:Oper}{ρ:Operand->PV}{H H':PH}
def Ru(p:PV)(r:Bool):Prop:=(p=.g (.raw .nilIface)∧r=true)∨(r=false∧((∃t q,p=.rz t q)∨∃g off,p=.kv g off∧∀β,Xv β->∃t u,Jl (om β) g off=some (.iface t u)))
def Ru.rz(t:TypeId)(q:PV):Ru (.rz t q) false:=.inr ⟨rfl,.inl ⟨t,q,rfl⟩⟩
def Ru.kv{g off:Nat}(h:∀β,Xv β->∃t u,Jl (om β) g off=some (.iface t u)):Ru (.kv g off) false:=.inr ⟨rfl,.inr ⟨g,off,rfl,h⟩⟩
variable{c:Ctx}{off:Nat}{v:Value}
def agi(hg:GL c){g:Nat}(h:RV c (.kv g off) v):∃β,Xv β∧∀u,Jl (om β) g off=some u->v=u:=by
 obtain⟨⟨β,hk,gl⟩,_⟩:=hg;refine⟨β,hk,λu hu=>?_⟩;obtain⟨vs,hm,GW⟩:=Cw hu;have hc:=(gl _ hm off u GW).1;cases h with
 |kv _ _ _ h hs h1=>rw[hc]at h;cases h;rfl
variable{p:PV}
def Ru.ok{r:Bool}(hg:GL c)(h:RV c p v)(hr:Ru p r):(r=true∧v=.nilIface)∨(r=false∧∃t u,v=.iface t u):=by
 rcases hr with⟨rfl,rfl⟩|⟨rfl,⟨t,q,rfl⟩|⟨g,off,rfl,hf⟩⟩
 exact .inl ⟨rfl,Bc h⟩
 ·cases h with
  |rz t p v h=>exact .inr ⟨rfl,_,_,rfl⟩
 obtain⟨β,hk,hb⟩:=agi hg h;obtain⟨t,u,hu⟩:=hf β hk;exact .inr ⟨rfl,t,u,hb _ hu⟩
end
variable{P:Program}{c:Ctx}{H H0:PH}{I J L:List Nat}
def Rel.Kx(hr:Rel P c H)(hI:I.Nodup)(hJ:J.Nodup)(hL:L.Nodup)(hIl:H0.bx.length=I.length)
  (uA:∀(j i:Nat),I[j]?=some i->∃cs,H.bx[i]?=some cs∧H0.bx[j]?=some (pa (posOf I) (posOf J) (posOf L) cs))
  (hJl:H0.tk.length=J.length) (hJ':∀(j i:Nat),J[j]?=some i->∃x,H.tk[i]?=some x∧H0.tk[j]?=some x)
  (hLl:H0.mu.length=L.length) (XL:∀(j i:Nat),L[j]?=some i->∃x,H.mu[i]?=some x∧H0.mu[j]?=some x):
  ∃c0:Ctx,c0.w=c.w∧c0.hid=c.hid∧Rel P c0 H0∧(∀p v,RV c p v->RV c0 (rF (posOf I) (posOf J) (posOf L) p) v)∧(∀b p,c.jq b p->c0.jq b p)∧
   c0.σ.length=I.length∧(∀(j i:Nat),I[j]?=some i->c0.σ[j]?=c.σ[i]?)∧(∀(j i:Nat),J[j]?=some i->c0.τ[j]?=c.τ[i]?)∧(∀(j i:Nat),L[j]?=some i->c0.μ[j]?=c.μ[i]?)∧(∀t∈c0.τ,t∈c.τ)∧(∀t∈c0.μ,t∈c.μ)∧∀b∈c0.σ,b∈c.σ:=by
 have U2:∀i∈I,i<c.σ.length:=λi hi=>by obtain⟨j,hj⟩:=bt hi;obtain⟨cs,h1,_⟩:=uA j i hj;rw[hr.len];exact(aR.1 h1).1
 have OH:c.τ.length=H.tk.length:=by rw[<-hr.tk];simp
 have XM:∀i∈J,i<c.τ.length:=λi hi=>by obtain⟨j,hj⟩:=bt hi;obtain⟨x,h1,_⟩:=hJ' j i hj;rw[OH];exact(aR.1 h1).1
 have DL:c.μ.length=H.mu.length:=hr.nq;have Tm:∀i∈L,i<c.μ.length:=λi hi=>by obtain⟨j,hj⟩:=bt hi;obtain⟨x,h1,_⟩:=XL j i hj;rw[DL];exact(aR.1 h1).1
 generalize U3:L.map (c.μ[·]!)=Cq;have H7:∀(j i:Nat),L[j]?=some i->Cq[j]?=c.μ[i]? :=λj i hj=>U3▸nX Tm j i hj;have Kc:Cq.length=L.length:=by rw[<-U3];simp
 have DM:∀t∈Cq,t∈c.μ:=λb hb=>by
  obtain⟨j,hj⟩:=bt hb;have iI:j<L.length:=by rw[<-Kc];exact(aR.1 hj).1
  rw[H7 j L[j] (aS iI)]at hj;exact aY hj
 have aaR:∀t∈c.μ,∀t'∈c.μ,t.live=true->t'.live=true->t.g=t'.g->t=t':=by intro t ht t' kp lv kj e;obtain⟨i,hi⟩:=bt ht;obtain⟨j,hj⟩:=bt kp;have zN:i=j:=hr.md i j t t' hi hj lv kj e;subst zN;rw[hi]at hj;exact cE hj
 generalize N4:I.map (c.σ[·]!)=H8;generalize U4:J.map (c.τ[·]!)=Cr;have QE:∀(j i:Nat),I[j]?=some i->H8[j]?=c.σ[i]? :=λj i hj=>N4▸nX U2 j i hj;have Jg:∀(j i:Nat),J[j]?=some i->Cr[j]?=c.τ[i]? :=λj i hj=>U4▸nX XM j i hj;have Fz:H8.length=I.length:=by rw[<-N4];simp
 have QF:Cr.length=J.length:=by rw[<-U4];simp
 have Nc:∀b∈H8,b∈c.σ:=λb hb=>by
  obtain⟨j,hj⟩:=bt hb;have iI:j<I.length:=by rw[<-Fz];exact(aR.1 hj).1
  rw[QE j I[j] (aS iI)]at hj;exact aY hj
 have BJ:∀t∈Cr,t∈c.τ:=λb hb=>by
  obtain⟨j,hj⟩:=bt hb;have iI:j<J.length:=by rw[<-QF];exact(aR.1 hj).1
  rw[Jg j J[j] (aS iI)]at hj;exact aY hj
 have aaS:∀t∈c.τ,∀t'∈c.τ,t.live=true->t'.live=true->t.g=t'.g->t=t':=by intro t ht t' kp lv kj e;obtain⟨i,hi⟩:=bt ht;obtain⟨j,hj⟩:=bt kp;have zN:i=j:=hr.td i j t t' hi hj lv kj e;subst zN;rw[hi]at hj;exact cE hj
 generalize xG:(⟨H8,Cr,Cq,c.hid,c.w⟩:Ctx)=c0;have s0:c0.σ=H8:=by rw[<-xG]
 have t0:c0.τ=Cr:=by rw[<-xG]
 have m0:c0.μ=Cq:=by rw[<-xG]
 have w0:c0.w=c.w:=by rw[<-xG]
 have h0:c0.hid=c.hid:=by rw[<-xG]
 have QG:∀b p,c.jq b p->c0.jq b p:=by rintro b p ⟨q1,q2,q3,q4⟩;exact⟨by rw[h0];exact q1,λhb=>q2 (Nc b (s0▸hb)),λt ht lv=>q3 t (BJ t (t0▸ht)) lv,λt ht lv=>q4 t (DM t (m0▸ht)) lv⟩
 have rv0:∀p v,RV c p v->RV c0 (rF (posOf I) (posOf J) (posOf L) p) v:=λp v h=>QD w0 QG
  (λb b' kh e hb=>by rw[s0,QE b' b (rl e)];exact hb) (λi i' t e ht=>by rw[t0,Jg i' i (rl e)];exact ht) (λi i' t e ht=>by rw[m0,H7 i' i (rl e)];exact ht) h
 have aeU:∀t o,yO P c t o->yO P c0 t o:=by
  intro t o h;have hg:∀g v,RG c.w c.jq g v->RG c0.w c0.jq g v:=λg v h=>h.mono λa u _ hs hc=>⟨by rw[w0];exact hc,QG _ _ hs⟩;cases o with
  |gone n=>exact h
  |arr n e es=>
   obtain⟨a1,a2,a3,a4⟩:=h;refine⟨a1,a2,a3,a4.imp id ?_⟩;rintro⟨lv,cur,b1,b2,b3,b4,b5,b6⟩;exact⟨lv,cur,by rw[w0];exact b1,b2,b3,b4,b5,λi x j g v hx sX hv=>⟨hg _ _ (b6 i x j g v hx sX hv).1,(b6 i x j g v hx sX hv).2⟩⟩
  |map es=>
   obtain⟨a1,lv,n5,o8,hp,b1,b2,b3⟩:=h;exact⟨a1,lv,n5,o8,hp,by rw[w0];exact b1,b2,λi k v n hk hn=>⟨hg _ _ (b3 i k v n hk hn).1,hg _ _ (b3 i k v n hk hn).2.1,(b3 i k v n hk hn).2.2⟩⟩
  |iter n s pos=>exact⟨h.1,h.2.1,by rw[w0];exact h.2.2⟩
 have aeV:Rel P c0 H0:=by refine⟨by rw[s0,Fz,hIl],?_,?_,?_,?_,?_,?_,?_,?_,?_,λt ht=>hr.dead t (BJ t (t0▸ht)),by rw[m0,Kc,hLl],?_,λt ht lv=>by rw[w0];exact hr.mlt t (DM t (m0▸ht)) lv,?_,λt ht lv hb=>hr.ms t (DM t (m0▸ht)) lv (Nc _ (s0▸hb)),λt ht lv t' kp kj=>hr.mt t (DM t (m0▸ht)) lv t' (BJ t' (t0▸kp)) kj,?_,hr.gl.Cj w0 QG⟩;intro j b cs hb kR;rw[s0]at hb;have iI:j<I.length:=(by rw[<-Fz];exact(aR.1 hb).1);have hj:=aS iI;rw[QE j _ hj]at hb;obtain⟨cs',k1,k2⟩:=uA j _ hj;rw[k2]at kR;cases kR;obtain⟨jJ,T,e1,e2,e3⟩:=hr.bx _ b cs' hb k1;rw[w0];refine⟨jJ,T,e1,by rw[pL];simpa using e2,λk p u hk hu=>?_⟩;rw[pL]at hk;simp only[bj,bh]at hk;obtain⟨q,hq,rfl⟩:=hk;exact⟨rv0 _ _ (e3 k q u hq hu).1,(e3 k q u hq hu).2⟩;rw[t0];refine eE λj=>?_;by_cases iI:j<J.length;have hj:=aS iI;obtain⟨x,k1,k2⟩:=hJ' j _ hj;rw[k2,bj,Jg j _ hj,<-bj,hr.tk];exact k1;rw[dp (by simp[QF];omega),dp ab];intro t ht lv;rw[w0];exact hr.tb t (BJ t (t0▸ht)) lv;rw[s0,<-N4];refine List.pairwise_map.2 (List.Pairwise.imp_of_mem ?_ hI);intro i i' hi lk js e;have l1:=U2 i hi;have l2:=U2 i' lk;simp only[ig,l1,l2]at e;exact js (uU hr.nd l1 l2 e);intro i j t t' hi hj lv kj e;rw[t0]at hi hj;have li:i<J.length:=(by rw[<-QF];exact(aR.1 hi).1);have lj:j<J.length:=(by rw[<-QF];exact(aR.1 hj).1);rw[Jg i _ (aS li)]at hi;rw[Jg j _ (aS lj)]at hj;exact uU hJ li lj (hr.td _ _ t t' hi hj lv kj e);intro t ht lv hb;exact hr.st t (BJ t (t0▸ht)) lv (Nc _ (s0▸hb));intro b p h;rw[w0];rw[h0]at h;exact hr.nu b p h;intro t ht lv p h;rw[h0]at h;exact hr.tG t (BJ t (t0▸ht)) lv p h;intro b hb;rw[w0];exact hr.pB b (Nc b (s0▸hb));intro j t o hj ho;rw[m0]at hj;have iI:j<L.length:=(by rw[<-Kc];exact(aR.1 hj).1);have wT:=aS iI;rw[H7 j _ wT]at hj;obtain⟨x,k1,k2⟩:=XL j _ wT;rw[k2]at ho;cases ho;exact aeU t o (hr.mu _ t o hj k1);intro i j t t' hi hj lv kj e;rw[m0]at hi hj;have li:i<L.length:=(by rw[<-Kc];exact(aR.1 hi).1);have lj:j<L.length:=(by rw[<-Kc];exact(aR.1 hj).1);rw[H7 i _ (aS li)]at hi;rw[H7 j _ (aS lj)]at hj;exact uU hL li lj (hr.md _ _ t t' hi hj lv kj e);intro t ht lv p h;rw[h0]at h;exact hr.sW t (DM t (m0▸ht)) lv p h
 exact⟨c0,w0,h0,aeV,rv0,QG,by rw[s0,Fz],λj i h=>by rw[s0];exact QE j i h,λj i h=>by rw[t0];exact Jg j i h,λj i h=>by rw[m0];exact H7 j i h,λt ht=>BJ t (t0▸ht),λt ht=>DM t (m0▸ht),λb hb=>Nc b (s0▸hb)⟩
def PC.Kx{P:Program}{f:FuncId}{args:List PV}{H H1 H2:PH}{v v':PV}(hp:PC P f args H v H1)(I J L:List Nat)(hn:(nodupB I&&nodupB J&&nodupB L)=true)
  (i0:I.take H.bx.length=List.range H.bx.length) (j0:J.take H.tk.length=List.range H.tk.length) (l0:L.take H.mu.length=List.range H.mu.length)
  (hb:tl I J L H1.bx I=some H2.bx) (ht:tW H1.tk J=some H2.tk) (hm:tX H1.mu L=some H2.mu) (hv:l9 (rF (posOf I) (posOf J) (posOf L) v)=some v'):PC P f args H v' H2:=by
 rw[uV]at hv;cases hv;simp only[bI]at hn;obtain⟨b1,b2⟩:=yC hb;obtain⟨t1,t2⟩:=yD ht;obtain⟨m1,m2⟩:=yE hm;have at0:∀{X:List Nat} {n:Nat},X.take n=List.range n->∀i,i<n->X[i]?=some i:=by
  intro X n h i hi;have:(X.take n)[i]?=some i:=by rw[h];simp[hi]
  rwa[bq,aW hi]at this
 intro c vs hr ha;refine(hp c vs hr ha).mono λe w' ⟨rv,c1,he,yu,nV,qT,lI⟩=>?_;obtain⟨c0,w0,h0,r0,rv0,QG,ls,gs,gt,gm,mt,mm,ms⟩:=nV.Kx (mS hn.1.1) (mS hn.1.2) (mS hn.2) b1 b2 t1 t2 m1 m2;have OH:c.τ.length=H.tk.length:=by rw[<-hr.tk];simp
 obtain⟨n,vO,hnb⟩:=qT.sig;refine⟨rv,c0,he,w0.trans yu,r0,⟨by rw[w0];exact qT.os,by rw[w0];exact qT.tape,by rw[w0];exact qT.output,by rw[w0];exact qT.size,h0.trans qT.hid,⟨c0.σ.drop c.σ.length,?_,?_⟩,?_,?_,?_,?_,?_,?_⟩,rv0 _ _ lI⟩;refine eE λi=>?_;by_cases hi:i<c.σ.length;rw[a8 hi,gs i i (at0 i0 i (by rw[<-hr.len];exact hi)),vO,a8 hi];rw[a7 ab,bD];congr 1;omega
 ·intro b hb;obtain⟨k,hk⟩:=bt hb;rw[bD]at hk;have iI:c.σ.length+k<I.length:=by rw[<-ls];exact(aR.1 hk).1
  rw[gs _ _ (aS iI)]at hk;have sC:¬I[c.σ.length+k]<c.σ.length:=by intro qC;have e1:=at0 i0 _ (by rw[<-hr.len];exact qC);have hnd:=mS hn.1.1;have ri:I[c.σ.length+k]<I.length:=(aR.1 e1).1;have e2:I[I[c.σ.length+k]]=I[c.σ.length+k]:=(aR.1 e1).2;have:=uU hnd ri iI e2;omega
  rw[vO,a7 ab]at hk;exact hnb b (aY hk)
 intro id t hid;obtain⟨t',h1,h2⟩:=qT.tok id t hid;exact⟨t',(gt id id (at0 j0 id (by rw[<-OH];exact(aR.1 hid).1))).trans h1,h2⟩;intro id t hid;obtain⟨t',h1,h2⟩:=qT.mu id t hid;exact⟨t',(gm id id (at0 l0 id (by rw[<-hr.nq];exact(aR.1 hid).1))).trans h1,h2⟩;intro t ht lv;exact qT.sA t (mm t ht) lv;intro t ht lv;exact qT.pq t (mt t ht) lv;intro a v hsp lT hc;obtain⟨k1,k2⟩:=qT.kF a v hsp lT hc;exact⟨by rw[w0];exact k1,QG _ _ k2⟩;intro b hb h1 h2 h3;rw[w0];exact qT.frame b hb h1 h2 h3
def PC.ue{P:Program}{f:FuncId}{args:List PV}{H H1:PH}{v:PV}(hp:PC P f args H v H1)(id:Nat){n:Nat}{e:TypeId}{es:List GV}(hm:H1.mu[id]?=some (.arr n e es)):
  PC P f args H (Go.Pure.ue id n es v) ⟨Gk id n es H1.bx,H1.tk,H1.mu.set id (.gone (n+1))⟩:=λc vs hr ha=>(hp c vs hr ha).mono λe w' ⟨rv,c1,he,yu,nV,qT,lI⟩=>by
 obtain⟨c2,w2,r2,E2,rv2⟩:=nV.freeze hm;exact⟨rv,c2,he,w2.trans yu,r2,qT.trans E2,rv2 _ _ lI⟩
variable{f:FuncId}{args:List PV}{n e off len cap:Nat}{es:List GV}
def PC.out{o8:List GV}(hp:PC P f args ⟨[],[],[]⟩ (.vw 0 n off len cap) ⟨[],[],[.arr n e es]⟩)(he:(es.drop off).take len=o8):PC P f args ⟨[],[],[]⟩ (.g (.sl o8)) ⟨[],[],[]⟩:=by have h:=(hp.ue 0 rfl).Kx (H2:=⟨[],[],[]⟩) (v':=.g (.sl o8)) [] [] [] rfl rfl rfl rfl rfl rfl rfl (by simp[Go.Pure.ue,rF,l9,he]);exact h
end Go.Pure