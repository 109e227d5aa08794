/- Steps to pointsMake_card. -/
import Derived.Test.YtckjndkmmfmjjaaGreatDoorOwnW
set_option linter.all false
open Go.IntKind (i64)
open Go.Proofs.Tryz
set_option maxRecDepth 100000
set_option maxHeartbeats 32000000
namespace Go.Proofs.YtckjndkmmfmjjaaGreatDoor
open Go Go.Pure
attribute [local irreducible] PW jQ ju PO PC lS
def kV(K:Int):List PV:=V.jO (nO K) (ni K)
def tt(K:Int):∃p xs ys,kV K=[ax p,av (V.iG xs),ax false,av (V.iG ys)]:=⟨_,_,_,rfl⟩
variable{K:Int}
def Ee(h:wJ K):(nO K).natAbs<V.WB^10∧ni K<V.WB∧ni K≠0:=by obtain⟨f1,f2⟩:=h.aib;have:=sb K;exact⟨bO f1 aQ,bO f2 af,by omega⟩
def Xu(h:PX K):al 19 [.g (.agg [.int .i64 (lA K).1,.int .i64 (lA K).2])] ⟨[],[],[]⟩ (.ptr 0 0) ⟨[kV K],[],[]⟩:=by obtain⟨h1,h2⟩:=vc h;have:=UD h1;rw[h2]at this;exact this
variable{L:Int}
def aeH(hK:wJ K)(hL:wJ L):al 21 [.ptr 0 0,.ptr 1 0,.ptr 2 0] ⟨[[ax false,.iM,ax false,.iM],kV K,kV L],[],[]⟩ (.ptr 0 0) ⟨[kV (K-L),kV K,kV L],[],[]⟩:=by obtain⟨a1,a2,a3⟩:=Ee hK;obtain⟨b1,b2,b3⟩:=Ee hL;have:=V.LS (a:=nO K) (c:=nO L) (b:=ni K) (d:=ni L) a3 b3 a1 b1 a2 b2;rw[(TH K L).1,(TH K L).2]at this;exact this
def RM(hK:wJ K)(hL:wJ L):al 22 [.ptr 0 0,.ptr 1 0,.ptr 2 0] ⟨[[ax false,.iM,ax false,.iM],kV K,kV L],[],[]⟩ (.ptr 0 0) ⟨[kV (K+L),kV K,kV L],[],[]⟩:=by obtain⟨a1,a2,a3⟩:=Ee hK;obtain⟨b1,b2,b3⟩:=Ee hL;have:=V.Wr (a:=nO K) (c:=nO L) (b:=ni K) (d:=ni L) a3 b3 a1 b1 a2 b2;rw[(TG K L).1,(TG K L).2]at this;exact this
def aeI(hK:oC K):al 23 [.ptr 0 0,.ptr 0 0,.ptr 1 0] ⟨[kV K,kV tZ],[],[]⟩ (.ptr 0 0) ⟨[kV (K/2),kV tZ],[],[]⟩:=by
 obtain⟨a1,a2,a3⟩:=Ee hK.fit;obtain⟨b1,b2,b3⟩:=Ee Vy;have a4:ni K<V.WB^1:=by rw[dT];exact a2
 have b4:ni tZ<V.WB^1:=by rw[dT];exact b2
 have hm:(nO K*nO tZ).natAbs<V.WB^20:=by rw[dI];exact V.Hh (i:=10) (j:=10) a1 b1
 have:=V.E8 (a:=nO K) (b:=ni K) (c:=nO tZ) (d:=ni tZ) a3 b3 (.inr (gQ a2 b2)) (V.jv a1 af) (V.jv a4 af) (V.jv b1 af) (V.jv b4 af) (V.jv hm af) (V.jv (V.Hh a4 b4) af);rw[V.xu,(TI (hK.half).2).1,(TI (hK.half).2).2]at this;exact this
def Jc(h:wJ K):al 20 [.ptr 0 0] ⟨[kV K],[],[]⟩ (.g (kn K).g) ⟨[kV K],[],[]⟩:=adm h
def akg:al 18 [aq 1,aq 1] ⟨[],[],[]⟩ (.ptr 0 0) ⟨[kV mh],[],[]⟩:=by have:=V.Ff (a:=1) (b:=1) af af af;rw[TQ.1,TQ.2]at this;exact this
def ahs:al 18 [aq 1,aq 2] ⟨[],[],[]⟩ (.ptr 0 0) ⟨[kV tZ],[],[]⟩:=by have:=V.Ff (a:=1) (b:=2) af af af;rw[O7.1,O7.2]at this;exact this
variable{l:List iJ}
def Qs(hz:∀t∈l,mJ t.g)(hl:l.length<=20):ak 5 [aq 3,av (iJ.gs l)] (.tuple [av (kN VD 3 l).1,aq (kN VD 3 l).2]):=by
 have pE:(iJ.gs l).length=l.length:=by simp[iJ.jd]
 have hR:kN VD 3 l=if kB VD 3 l≠0 then([],kB VD 3 l)else(uP (ku (l.flatMap jF)),0):=by unfold kN;rw[aV af,aV ab];rfl
 generalize Q9:kN VD 3 l=R at hR⊢;clear Q9;refine' eN func5;(try refine' uD);refine' sQ<;>intro h;exfalso;have:=aU h;omega;clear h;(try refine' uD);refine jK (S:=Nat) (λi=>[(0,aq 3),(6,av (iD.gs ((ku ((l.take i).flatMap jF)).map kn))),(7,av (iD.gs ((ko ((l.take i).flatMap jj)).map km))),(29,av (iJ.gs l)),(30,aq l.length),(31,aq i)]) (λ_=>⟨[],[],[]⟩)
  (λi=>i<=l.length∧kB VD 3 l=kB VD 3 (l.drop i)∧∀t∈l.take i,lp 4 t) (λi=>l.length-i) 0 ⟨bm _,rfl,λt ht=>absurd ht cF⟩
  (iE.le ⟨.inl rfl,.inr rfl,.inr rfl,.inl rfl,.inl (aT (λk:Nat=>aq k) pE),an⟩) aJ (λ_=>rfl) (λi hi=>?_)
 obtain⟨hi,jU,lL⟩:=hi;(try refine' uD);refine' sQ<;>intro h
 ·have iI:i<l.length:=by have:=aU h;omega
  have hg:(iJ.gs l)[((i:Int)).toNat]?=some l[i].g:=by rw[iJ.jd];exact lg iI
  have hw:=Ci l[i] (hz _ (bJ iI));rw[bY iI,kB]at jU;have sy:kG VD l[i] 1=0->lp 4 l[i]:=λq=>nH 4 q rfl;clear h;by_cases nn:kG VD l[i] 1=0
  ·have oJ:=sy nn;have hf:=Dp (ty:=3) 4 l[i] oJ;rw[aV (dM nn)]at jU;rw[nn]at hw;by_cases nP:tY l[i] 3=true
   ·rw[aW nP]at jU;rw[nP]at hf;have pz:∀t∈l.take (i+1),lp 4 t:=λt ht=>by
     rw[b7 iI]at ht;rcases bC.1 ht with ht|ht
     exact lL t ht;rw[db.1 ht];exact oJ
    have mM:=pU (l:=l.take (i+1)) (by rw[bW];omega) pz;have rh:=oN (l:=l.take (i+1)) (by rw[bW];omega) pz;have WD:(ku ((l.take i).flatMap jF)).length<=((l.take i).flatMap jF).length:=(by have:=kH (lt:=λa b=>decide (a<b)) ((l.take i).flatMap jF) [];rw[bH,bc]at this;exact this);have WE:(ko ((l.take i).flatMap jj)).length<=((l.take i).flatMap jj).length:=(by have:=kH (lt:=λa b=>Op.bytesLess a b) ((l.take i).flatMap jj) [];rw[bH,bc]at this;exact this);rw[oy iI,bd]at mM rh;have hN:=Fi (n:=4) (t:=l[i]) (bs:=ku ((l.take i).flatMap jF)) oJ (λb hb=>by have hb:=((si _).2 b).1 hb;obtain⟨t,ht,hb⟩:=dS.1 hb;exact(vn (lL t ht) b hb).1) ab;have hT:=Fj (n:=4) (t:=l[i]) (bs:=ko ((l.take i).flatMap jj)) oJ (λb hb=>by have hb:=((qP _).2 b).1 hb;obtain⟨t,ht,hb⟩:=dS.1 hb;have:=vo (lL t ht) b hb;unfold Fh;omega) ab;rw[<-Cd,<-oy iI]at hN;rw[<-Ce,<-oy iI]at hT;clear mM rh WD WE sy;generalize ku ((l.take i).flatMap jF)=N1 at *
    generalize ko ((l.take i).flatMap jj)=T1 at *
    generalize hN2:ku ((l.take (i+1)).flatMap jF)=N2 at *
    generalize Yv:ko ((l.take (i+1)).flatMap jj)=T2 at *
    generalize l[i]=x at hg hw hf hN hT;obtain⟨x0,⟨y0,y1,y2,y3,y4,y5⟩,⟨z0,z1,z2,z3,z4,z5⟩,x3,x4,x5⟩:=x;(repeat first|refine' uD|(refine' oX;(first|exact iV hw|exact iV hf|exact iV hN|exact iV hT|exact jA (q:=aI hg));exact kq));exact⟨i+1,⟨iI,jU,pz⟩,by omega,iE.le ⟨.inl rfl,.inl (by rw[hN2];rfl),.inl (by rw[Yv];rfl),(aA ⟨.inl (aT aq (uu ab)),trivial⟩)⟩,lq.mk [_] [] [] rfl⟩
   ·rw[aV nP]at jU;rw[fO]at nP;rw[nP]at hf;rw[jU,aW af]at hR;subst hR;clear sy;generalize l[i]=x at hg hw hf;obtain⟨x0,⟨y0,y1,y2,y3,y4,y5⟩,⟨z0,z1,z2,z3,z4,z5⟩,x3,x4,x5⟩:=x;(repeat first|refine' uD|(refine' oX;(first|exact iV hw|exact iV hf|exact jA (q:=aI hg));exact kq));refine' rE;all_goals rfl
  ·rw[aW nn]at jU;rw[jU,aW nn]at hR;subst hR;clear sy;generalize kG VD l[i] 1=w at *
   generalize l[i]=x at hg hw;obtain⟨x0,⟨y0,y1,y2,y3,y4,y5⟩,⟨z0,z1,z2,z3,z4,z5⟩,x3,x4,x5⟩:=x;have js:(w !=0)=true:=(by simpa using nn);(repeat first|refine' uD|(refine' oX;(first|exact iV hw|exact jA (q:=aI hg));exact kq));refine' sQ<;>intro h
   ·(try refine' uD);refine' rE;all_goals rfl
   exfalso;rw[js]at h;cases h
 ·have lk:i=l.length:=by have:=aX h;omega
  subst lk;rw[dv,kB]at jU;rw[jU,aV af]at hR;rw[du]at *
  clear h jU;subst hR;have Fk:∀k∈ku (l.flatMap jF),PX k∧SmallK k:=λb hb=>by have hb:=((si _).2 b).1 hb;obtain⟨t,ht,hb⟩:=dS.1 hb;exact vn (lL t ht) b hb
  have afu:(ku (l.flatMap jF)).length<=6400000:=by have h1:=kH (lt:=λa b=>decide (a<b)) (l.flatMap jF) [];have h2:=pU hl lL;rw[bH,bc]at h1;exact b8 h1 h2
  clear lL hi;generalize ko (l.flatMap jj)=T at *
  generalize ku (l.flatMap jF)=E at *
  have hW:=wK E;by_cases h0:E=[]
  ·subst h0;(try refine' uD);refine' rE;all_goals rfl
  have jX:0<E.length:=gR.2 h0;have Co:(iD.gs (E.map kn)).length=E.length:=by simp[iD.jd]
  have js:(((iD.gs (E.map kn)).length:Int)==0)=false:=bk.2 ab;have ny:∀i (h:i<E.length),(iD.gs (E.map kn))[i]?=some (kn E[i]).g:=λi h=>by rw[iD.jd,List.map_map,bj,aS h];rfl
  have hzero:(uP E)[0]?=some (kn (E[0]-mh)).g:=sk (DZ (aS jX));have BC:∀i (h:i<E.length),(uP E)[2*i+1]?=some (kn E[i]).g:=λi h=>sk (by rw[Ap];exact aS h);have L3:∀i (h:i+1<E.length),(uP E)[2*(i+1)]?=some (kn (pf E[i] E[i+1])).g:=λi h=>sk (FR (aS ab) (aS h));have oY:∀i (h:i<E.length),i+1=E.length->(uP E)[2*(i+1)]?=some (kn (E[i]+mh)).g:=λi h hi=>sk (D3 hi (aS h));have jE:∀z:iD,∀x∈[z.g],x.cells.length=6:=λz x hx=>by rw[db.1 hx];exact iD.cells z
  have h1:=akg;have h2:=ahs;obtain⟨po,xo,yo,eo⟩:=tt mh;obtain⟨ph,xh,yh,eh⟩:=tt tZ;rw[eo]at h1;rw[eh]at h2;generalize hWW:uP E=W at *
  (try refine' uD);refine' sQ<;>intro h;exfalso;rw[js]at h;cases h;clear h;(try refine' wi @h1 @h2);refine af4 11 27 (SZ rfl) rfl ?_;refine jK (S:=Nat) (λi=>[(6,av (iD.gs (E.map kn))),(11,.own (W.take (if i=E.length then 2*i+1 else 2*i)) 0),(12,.ptr 0 0),(13,.ptr 1 0),(66,av (iD.gs (E.map kn))),(67,aq E.length),(68,aq i)])
   (λi=>⟨[[ax po,av (V.iG xo),ax false,av (V.iG yo)],[ax ph,av (V.iG xh),ax false,av (V.iG yh)]],[(27,if i=E.length then 2*i+1 else 2*i)],[]⟩) (λi=>i<=E.length) (λi=>E.length-i) 0 (bm _)
   (iE.le ⟨.inl rfl,.inl (by rw[aV (show ¬0=E.length by omega)];rfl),(aB ⟨.inl (aT (λk:Nat=>aq k) Co),an⟩)⟩) (kW.of_eq (by rw[aV (show ¬0=E.length by omega)];rfl)) (λ_=>rfl) (λi hi=>?_)
  (try refine' uD);refine' sQ<;>intro h
  ·have iI:i<E.length:=by have:=aU h;omega
   have hg:(iD.gs (E.map kn))[((i:Int)).toNat]?=some (kn E[i]).g:=ny i iI;have hK:=Fk _ (bJ iI);have BC:=BC i iI;have Jd:0<i->∃(hj:i-1<E.length),W[2*i]?=some (kn (pf E[i-1] E[i])).g:=λq=>⟨by omega,by obtain⟨j,rfl⟩:∃j,i=j+1:=⟨i-1,by omega⟩;exact L3 j iI⟩;obtain⟨K,hKe⟩:∃K,E[i]=K:=⟨_,rfl⟩;rw[hKe]at hg hK BC;have hr:=Xu hK.1;have afv:kn K=.mk 3 false (lA K).1 (lA K).2 ⟨#[]⟩ []:=rfl;rw[afv]at hg BC;clear h afv L3;by_cases BF:i=0
   ·subst BF;by_cases amF:0+1=E.length
    ·clear Jd;have e0:(if 0=E.length then 2*0+1 else 2*0)=2*0:=aV ab;have e9:(if 0+1=E.length then 2*(0+1)+1 else 2*(0+1))=2*0+1+1+1:=(by rw[aW ab]<;>omega);have He:=RM hK.2.fit nM.fit;have rG:=Jc (K:=K+mh) (SmallK.add hK.2 nM).fit;have LA:=oY 0 iI ab;rw[hKe]at LA;obtain⟨p5,x5,y5,e5⟩:=tt (K+mh);rw[e5]at He rG;generalize kn (K+mh)=zl at LA rG;obtain⟨w0,w1,w2,w3,w4,w5⟩:=zl;have OP:=mI (show W[2*0+1+1]?=some (iD.mk w0 w1 w2 w3 w4 w5).g from LA);have YC:((0:Nat):Int)==i64.wrap (((iD.gs (E.map kn)).length:Int)-1):=(by rw[bQ,uu ab];omega);have pI:=aeH hK.2.fit nM.fit;have BZ:=Jc (K:=K-mh) (SmallK.sub hK.2 nM).fit;have Jw:=hzero;rw[hKe]at Jw;obtain⟨p4,x4,y4,e4⟩:=tt (K-mh);rw[e4]at pI BZ;generalize kn (K-mh)=ze at Jw BZ;obtain⟨z0,z1,z2,z3,z4,z5⟩:=ze;have yS:=mI Jw;obtain⟨p2,x2,y2,e2⟩:=tt K;rw[e2]at hr pI He;rw[eo]at pI He;generalize(lA K).1=u at *
     generalize(lA K).2=v at *
     have sw:=mI (show W[2*0+1]?=some (iD.mk 3 false u v ⟨#[]⟩ []).g from BC);have Bq:(W.take (2*0)).length=2*0:=(by rw[bW];omega);rw[e0];(repeat first|refine' uD|(refine' oX;(first|exact cB [] hr|exact jA (q:=aI hg));exact kq));(repeat first|refine' uD|(refine' oX;(first|exact cD [] pI|exact cB [] BZ|exact aP (es:=W.take (2*0)) (xs:=[(iD.mk z0 z1 z2 z3 z4 z5).g]) (n:=2*0) rfl (EL rfl) (SZ rfl) (BY rfl) (ZR rfl) rfl rfl rfl rfl (Bq) (jE (iD.mk z0 z1 z2 z3 z4 z5)) ae (by simp[maxLen]<;>omega)|exact aP (es:=W.take (2*0)++[(iD.mk z0 z1 z2 z3 z4 z5).g]) (xs:=[(iD.mk 3 false u v ⟨#[]⟩ []).g]) (n:=2*0+1) rfl (EL rfl) (SZ rfl) (BY rfl) (ZR rfl) rfl rfl rfl rfl (by rw[bd,Bq];rfl) (jE (iD.mk 3 false u v ⟨#[]⟩ [])) ae aM);exact kq));refine' sQ<;>intro h;rotate_left;exfalso;rw[YC]at h;cases h;clear h;(repeat first|refine' uD|(refine' oX;(first|exact cD [] He|exact cB [] rG|exact aP (es:=W.take (2*0)++[(iD.mk z0 z1 z2 z3 z4 z5).g]++[(iD.mk 3 false u v ⟨#[]⟩ []).g]) (xs:=[(iD.mk w0 w1 w2 w3 w4 w5).g]) (n:=2*0+1+1) rfl (EL rfl) (SZ rfl) (BY rfl) (ZR rfl) rfl rfl rfl rfl (by rw[bd,bd,Bq];rfl) (jE (iD.mk w0 w1 w2 w3 w4 w5)) ae aM);exact kq));exact⟨0+1,iI,by omega,iE.le ⟨.inl rfl,.inl (by rw[e9,OP,sw,yS];rfl),(aC ⟨.inl (aT aq (uu ab)),trivial⟩)⟩,lq.mk [_,_,_,_] [] [] (by dsimp only;rw[e9];rfl)⟩
    ·clear Jd;have e0:(if 0=E.length then 2*0+1 else 2*0)=2*0:=aV ab;have e9:(if 0+1=E.length then 2*(0+1)+1 else 2*(0+1))=2*0+1+1:=(by rw[aV ab]<;>omega);have YC:(((0:Nat):Int)==i64.wrap (((iD.gs (E.map kn)).length:Int)-1))=false:=bk.2 (by rw[uu ab];omega);have pI:=aeH hK.2.fit nM.fit;have BZ:=Jc (K:=K-mh) (SmallK.sub hK.2 nM).fit;have Jw:=hzero;rw[hKe]at Jw;obtain⟨p4,x4,y4,e4⟩:=tt (K-mh);rw[e4]at pI BZ;generalize kn (K-mh)=ze at Jw BZ;obtain⟨z0,z1,z2,z3,z4,z5⟩:=ze;have yS:=mI Jw;obtain⟨p2,x2,y2,e2⟩:=tt K;rw[e2]at hr pI;rw[eo]at pI;generalize(lA K).1=u at *
     generalize(lA K).2=v at *
     have sw:=mI (show W[2*0+1]?=some (iD.mk 3 false u v ⟨#[]⟩ []).g from BC);have Bq:(W.take (2*0)).length=2*0:=(by rw[bW];omega);rw[e0];(repeat first|refine' uD|(refine' oX;(first|exact cB [] hr|exact jA (q:=aI hg));exact kq));(repeat first|refine' uD|(refine' oX;(first|exact cD [] pI|exact cB [] BZ|exact aP (es:=W.take (2*0)) (xs:=[(iD.mk z0 z1 z2 z3 z4 z5).g]) (n:=2*0) rfl (EL rfl) (SZ rfl) (BY rfl) (ZR rfl) rfl rfl rfl rfl (Bq) (jE (iD.mk z0 z1 z2 z3 z4 z5)) ae (by simp[maxLen]<;>omega)|exact aP (es:=W.take (2*0)++[(iD.mk z0 z1 z2 z3 z4 z5).g]) (xs:=[(iD.mk 3 false u v ⟨#[]⟩ []).g]) (n:=2*0+1) rfl (EL rfl) (SZ rfl) (BY rfl) (ZR rfl) rfl rfl rfl rfl (by rw[bd,Bq];rfl) (jE (iD.mk 3 false u v ⟨#[]⟩ [])) ae aM);exact kq));refine' sQ<;>intro h;exfalso;rw[YC]at h;cases h;clear h;(try refine' uD);exact⟨0+1,iI,by omega,iE.le ⟨.inl rfl,.inl (by rw[e9,sw,yS];rfl),(aC ⟨.inl (aT aq (uu ab)),trivial⟩)⟩,lq.mk [_,_,_] [] [] (by dsimp only;rw[e9];rfl)⟩
   ·have Jd:=Jd ab;by_cases amF:i+1=E.length
    ·skip;have e0:(if i=E.length then 2*i+1 else 2*i)=2*i:=aV ab;have e9:(if i+1=E.length then 2*(i+1)+1 else 2*(i+1))=2*i+1+1+1:=(by rw[aW ab]<;>omega);have He:=RM hK.2.fit nM.fit;have rG:=Jc (K:=K+mh) (SmallK.add hK.2 nM).fit;have LA:=oY i iI ab;rw[hKe]at LA;obtain⟨p5,x5,y5,e5⟩:=tt (K+mh);rw[e5]at He rG;generalize kn (K+mh)=zl at LA rG;obtain⟨w0,w1,w2,w3,w4,w5⟩:=zl;have OP:=mI (show W[2*i+1+1]?=some (iD.mk w0 w1 w2 w3 w4 w5).g from LA);have YC:((i:Nat):Int)==i64.wrap (((iD.gs (E.map kn)).length:Int)-1):=(by rw[bQ,uu ab];omega);obtain⟨hj,Jw⟩:=Jd;have AF:(iD.gs (E.map kn))[(i64.wrap ((i:Int)-1)).toNat]?=some (kn E[i-1]).g:=(by rw[uu ab,show((i:Int)-1).toNat=i-1 by omega];exact ny (i-1) hj);have L4:0<=i64.wrap ((i:Int)-1):=(by rw[uu ab];omega);have WG:=Fk _ (bJ hj);generalize E[i-1]=K' at *
     have kP:=Xu WG.1;have lC:=RM hK.2.fit WG.2.fit;have hmul:=aeI (SmallK.add hK.2 WG.2);have BZ:=Jc (K:=(K+K')/2) ((SmallK.add hK.2 WG.2).half).1;rw[hKe,show pf K' K=(K+K')/2 by unfold pf;rw[Int.add_comm]]at Jw;obtain⟨p3,x3,y3,e3⟩:=tt K';obtain⟨p4,x4,y4,e4⟩:=tt (K+K');obtain⟨p6,x6,y6,e6⟩:=tt ((K+K')/2);rw[e3]at kP lC;rw[e4]at lC hmul;rw[e6]at hmul BZ;generalize kn ((K+K')/2)=ze at Jw BZ;have NT:kn K'=.mk 3 false (lA K').1 (lA K').2 ⟨#[]⟩ []:=rfl;rw[NT]at AF;clear NT;generalize(lA K').1=u' at *
     generalize(lA K').2=v' at *
     have BG:(((i:Nat):Int)==0)=false:=bk.2 ab;obtain⟨z0,z1,z2,z3,z4,z5⟩:=ze;have yS:=mI Jw;obtain⟨p2,x2,y2,e2⟩:=tt K;rw[e2]at hr lC He;rw[eo]at He;rw[eh]at hmul;generalize(lA K).1=u at *
     generalize(lA K).2=v at *
     have sw:=mI (show W[2*i+1]?=some (iD.mk 3 false u v ⟨#[]⟩ []).g from BC);have Bq:(W.take (2*i)).length=2*i:=(by rw[bW];omega);rw[e0];(repeat first|refine' uD|(refine' oX;(first|exact cB [] hr|exact jA (q:=aI hg));exact kq));refine' sQ<;>intro h;exfalso;rw[BG]at h;cases h;clear h;(repeat first|refine' uD|(refine' oX;(first|exact cB [] kP|exact jA (z:=L4) (q:=aI AF)|exact cD [] lC|exact cD [] hmul|exact cB [] BZ|exact aP (es:=W.take (2*i)) (xs:=[(iD.mk z0 z1 z2 z3 z4 z5).g]) (n:=2*i) rfl (EL rfl) (SZ rfl) (BY rfl) (ZR rfl) rfl rfl rfl rfl (Bq) (jE (iD.mk z0 z1 z2 z3 z4 z5)) ae (by simp[maxLen]<;>omega)|exact aP (es:=W.take (2*i)++[(iD.mk z0 z1 z2 z3 z4 z5).g]) (xs:=[(iD.mk 3 false u v ⟨#[]⟩ []).g]) (n:=2*i+1) rfl (EL rfl) (SZ rfl) (BY rfl) (ZR rfl) rfl rfl rfl rfl (by rw[bd,Bq];rfl) (jE (iD.mk 3 false u v ⟨#[]⟩ [])) ae aM);exact kq));refine' sQ<;>intro h;rotate_left;exfalso;rw[YC]at h;cases h;clear h;(repeat first|refine' uD|(refine' oX;(first|exact cD [] He|exact cB [] rG|exact aP (es:=W.take (2*i)++[(iD.mk z0 z1 z2 z3 z4 z5).g]++[(iD.mk 3 false u v ⟨#[]⟩ []).g]) (xs:=[(iD.mk w0 w1 w2 w3 w4 w5).g]) (n:=2*i+1+1) rfl (EL rfl) (SZ rfl) (BY rfl) (ZR rfl) rfl rfl rfl rfl (by rw[bd,bd,Bq];rfl) (jE (iD.mk w0 w1 w2 w3 w4 w5)) ae aM);exact kq));exact⟨i+1,iI,by omega,iE.le ⟨.inl rfl,.inl (by rw[e9,OP,sw,yS];rfl),(aC ⟨.inl (aT aq (uu ab)),trivial⟩)⟩,lq.mk [_,_,_,_,_] [] [] (by dsimp only;rw[e9];rfl)⟩
    ·skip;have e0:(if i=E.length then 2*i+1 else 2*i)=2*i:=aV ab;have e9:(if i+1=E.length then 2*(i+1)+1 else 2*(i+1))=2*i+1+1:=(by rw[aV ab]<;>omega);have YC:(((i:Nat):Int)==i64.wrap (((iD.gs (E.map kn)).length:Int)-1))=false:=bk.2 (by rw[uu ab];omega);obtain⟨hj,Jw⟩:=Jd;have AF:(iD.gs (E.map kn))[(i64.wrap ((i:Int)-1)).toNat]?=some (kn E[i-1]).g:=(by rw[uu ab,show((i:Int)-1).toNat=i-1 by omega];exact ny (i-1) hj);have L4:0<=i64.wrap ((i:Int)-1):=(by rw[uu ab];omega);have WG:=Fk _ (bJ hj);generalize E[i-1]=K' at *
     have kP:=Xu WG.1;have lC:=RM hK.2.fit WG.2.fit;have hmul:=aeI (SmallK.add hK.2 WG.2);have BZ:=Jc (K:=(K+K')/2) ((SmallK.add hK.2 WG.2).half).1;rw[hKe,show pf K' K=(K+K')/2 by unfold pf;rw[Int.add_comm]]at Jw;obtain⟨p3,x3,y3,e3⟩:=tt K';obtain⟨p4,x4,y4,e4⟩:=tt (K+K');obtain⟨p6,x6,y6,e6⟩:=tt ((K+K')/2);rw[e3]at kP lC;rw[e4]at lC hmul;rw[e6]at hmul BZ;generalize kn ((K+K')/2)=ze at Jw BZ;have NT:kn K'=.mk 3 false (lA K').1 (lA K').2 ⟨#[]⟩ []:=rfl;rw[NT]at AF;clear NT;generalize(lA K').1=u' at *
     generalize(lA K').2=v' at *
     have BG:(((i:Nat):Int)==0)=false:=bk.2 ab;obtain⟨z0,z1,z2,z3,z4,z5⟩:=ze;have yS:=mI Jw;obtain⟨p2,x2,y2,e2⟩:=tt K;rw[e2]at hr lC;skip;rw[eh]at hmul;generalize(lA K).1=u at *
     generalize(lA K).2=v at *
     have sw:=mI (show W[2*i+1]?=some (iD.mk 3 false u v ⟨#[]⟩ []).g from BC);have Bq:(W.take (2*i)).length=2*i:=(by rw[bW];omega);rw[e0];(repeat first|refine' uD|(refine' oX;(first|exact cB [] hr|exact jA (q:=aI hg));exact kq));refine' sQ<;>intro h;exfalso;rw[BG]at h;cases h;clear h;(repeat first|refine' uD|(refine' oX;(first|exact cB [] kP|exact jA (z:=L4) (q:=aI AF)|exact cD [] lC|exact cD [] hmul|exact cB [] BZ|exact aP (es:=W.take (2*i)) (xs:=[(iD.mk z0 z1 z2 z3 z4 z5).g]) (n:=2*i) rfl (EL rfl) (SZ rfl) (BY rfl) (ZR rfl) rfl rfl rfl rfl (Bq) (jE (iD.mk z0 z1 z2 z3 z4 z5)) ae (by simp[maxLen]<;>omega)|exact aP (es:=W.take (2*i)++[(iD.mk z0 z1 z2 z3 z4 z5).g]) (xs:=[(iD.mk 3 false u v ⟨#[]⟩ []).g]) (n:=2*i+1) rfl (EL rfl) (SZ rfl) (BY rfl) (ZR rfl) rfl rfl rfl rfl (by rw[bd,Bq];rfl) (jE (iD.mk 3 false u v ⟨#[]⟩ [])) ae aM);exact kq));refine' sQ<;>intro h;exfalso;rw[YC]at h;cases h;clear h;(try refine' uD);exact⟨i+1,iI,by omega,iE.le ⟨.inl rfl,.inl (by rw[e9,sw,yS];rfl),(aC ⟨.inl (aT aq (uu ab)),trivial⟩)⟩,lq.mk [_,_,_,_] [] [] (by dsimp only;rw[e9];rfl)⟩
  ·have lk:i=E.length:=by have:=aX h;omega
   subst lk;rw[aW rfl,bR ab];clear h;(try refine' uD);refine' rE;all_goals rfl
def Qt(hz:∀t∈l,mJ t.g)(hl:l.length<=20):ak 5 [aq 4,av (iJ.gs l)] (.tuple [av (kN VD 4 l).1,aq (kN VD 4 l).2]):=by
 have pE:(iJ.gs l).length=l.length:=by simp[iJ.jd]
 have hR:kN VD 4 l=if kB VD 4 l≠0 then([],kB VD 4 l)else(if Rz (ko (l.flatMap jj))=true then([],4)else(iD.gs ((jZ (ko (l.flatMap jj))).map km),0)):=by unfold kN;rw[aV af,aV ab];rfl
 generalize Q9:kN VD 4 l=R at hR⊢;clear Q9;refine' eN func5;(try refine' uD);refine' sQ<;>intro h;exfalso;have:=aU h;omega;clear h;(try refine' uD);refine jK (S:=Nat) (λi=>[(0,aq 4),(6,av (iD.gs ((ku ((l.take i).flatMap jF)).map kn))),(7,av (iD.gs ((ko ((l.take i).flatMap jj)).map km))),(29,av (iJ.gs l)),(30,aq l.length),(31,aq i)]) (λ_=>⟨[],[],[]⟩)
  (λi=>i<=l.length∧kB VD 4 l=kB VD 4 (l.drop i)∧∀t∈l.take i,lp 4 t) (λi=>l.length-i) 0 ⟨bm _,rfl,λt ht=>absurd ht cF⟩
  (iE.le ⟨.inl rfl,.inr rfl,.inr rfl,.inl rfl,.inl (aT (λk:Nat=>aq k) pE),an⟩) aJ (λ_=>rfl) (λi hi=>?_)
 obtain⟨hi,jU,lL⟩:=hi;(try refine' uD);refine' sQ<;>intro h
 ·have iI:i<l.length:=by have:=aU h;omega
  have hg:(iJ.gs l)[((i:Int)).toNat]?=some l[i].g:=by rw[iJ.jd];exact lg iI
  have hw:=Ci l[i] (hz _ (bJ iI));rw[bY iI,kB]at jU;have sy:kG VD l[i] 1=0->lp 4 l[i]:=λq=>nH 4 q rfl;clear h;by_cases nn:kG VD l[i] 1=0
  ·have oJ:=sy nn;have hf:=Dp (ty:=4) 4 l[i] oJ;rw[aV (dM nn)]at jU;rw[nn]at hw;by_cases nP:tY l[i] 4=true
   ·rw[aW nP]at jU;rw[nP]at hf;have pz:∀t∈l.take (i+1),lp 4 t:=λt ht=>by
     rw[b7 iI]at ht;rcases bC.1 ht with ht|ht
     exact lL t ht;rw[db.1 ht];exact oJ
    have mM:=pU (l:=l.take (i+1)) (by rw[bW];omega) pz;have rh:=oN (l:=l.take (i+1)) (by rw[bW];omega) pz;have WD:(ku ((l.take i).flatMap jF)).length<=((l.take i).flatMap jF).length:=(by have:=kH (lt:=λa b=>decide (a<b)) ((l.take i).flatMap jF) [];rw[bH,bc]at this;exact this);have WE:(ko ((l.take i).flatMap jj)).length<=((l.take i).flatMap jj).length:=(by have:=kH (lt:=λa b=>Op.bytesLess a b) ((l.take i).flatMap jj) [];rw[bH,bc]at this;exact this);rw[oy iI,bd]at mM rh;have hN:=Fi (n:=4) (t:=l[i]) (bs:=ku ((l.take i).flatMap jF)) oJ (λb hb=>by have hb:=((si _).2 b).1 hb;obtain⟨t,ht,hb⟩:=dS.1 hb;exact(vn (lL t ht) b hb).1) ab;have hT:=Fj (n:=4) (t:=l[i]) (bs:=ko ((l.take i).flatMap jj)) oJ (λb hb=>by have hb:=((qP _).2 b).1 hb;obtain⟨t,ht,hb⟩:=dS.1 hb;have:=vo (lL t ht) b hb;unfold Fh;omega) ab;rw[<-Cd,<-oy iI]at hN;rw[<-Ce,<-oy iI]at hT;clear mM rh WD WE sy;generalize ku ((l.take i).flatMap jF)=N1 at *
    generalize ko ((l.take i).flatMap jj)=T1 at *
    generalize hN2:ku ((l.take (i+1)).flatMap jF)=N2 at *
    generalize Yv:ko ((l.take (i+1)).flatMap jj)=T2 at *
    generalize l[i]=x at hg hw hf hN hT;obtain⟨x0,⟨y0,y1,y2,y3,y4,y5⟩,⟨z0,z1,z2,z3,z4,z5⟩,x3,x4,x5⟩:=x;(repeat first|refine' uD|(refine' oX;(first|exact iV hw|exact iV hf|exact iV hN|exact iV hT|exact jA (q:=aI hg));exact kq));exact⟨i+1,⟨iI,jU,pz⟩,by omega,iE.le ⟨.inl rfl,.inl (by rw[hN2];rfl),.inl (by rw[Yv];rfl),(aA ⟨.inl (aT aq (uu ab)),trivial⟩)⟩,lq.mk [_] [] [] rfl⟩
   ·rw[aV nP]at jU;rw[fO]at nP;rw[nP]at hf;rw[jU,aW af]at hR;subst hR;clear sy;generalize l[i]=x at hg hw hf;obtain⟨x0,⟨y0,y1,y2,y3,y4,y5⟩,⟨z0,z1,z2,z3,z4,z5⟩,x3,x4,x5⟩:=x;(repeat first|refine' uD|(refine' oX;(first|exact iV hw|exact iV hf|exact jA (q:=aI hg));exact kq));refine' rE;all_goals rfl
  ·rw[aW nn]at jU;rw[jU,aW nn]at hR;subst hR;clear sy;generalize kG VD l[i] 1=w at *
   generalize l[i]=x at hg hw;obtain⟨x0,⟨y0,y1,y2,y3,y4,y5⟩,⟨z0,z1,z2,z3,z4,z5⟩,x3,x4,x5⟩:=x;have js:(w !=0)=true:=(by simpa using nn);(repeat first|refine' uD|(refine' oX;(first|exact iV hw|exact jA (q:=aI hg));exact kq));refine' sQ<;>intro h
   ·(try refine' uD);refine' rE;all_goals rfl
   exfalso;rw[js]at h;cases h
 ·have lk:i=l.length:=by have:=aX h;omega
  subst lk;rw[dv,kB]at jU;rw[jU,aV af]at hR;rw[du]at *
  clear h jU;have amG:∀b∈ko (l.flatMap jj),b.length<=1000:=λb hb=>by have hb:=((qP _).2 b).1 hb;obtain⟨t,ht,hb⟩:=dS.1 hb;exact vo (lL t ht) b hb
  have ub:=(qP (l.flatMap jj)).1;have afu:(ko (l.flatMap jj)).length<=6400000:=by have h1:=kH (lt:=λa b=>Op.bytesLess a b) (l.flatMap jj) [];have h2:=oN hl lL;rw[bH,bc]at h1;exact b8 h1 h2
  clear lL hi;generalize ko (l.flatMap jj)=E at *
  generalize ku (l.flatMap jF)=N at *
  have Co:(iD.gs (E.map km)).length=E.length:=by simp[iD.jd]
  have h0:=GK [] [] (λb hb=>absurd hb cF) (bm _) (bm _);(try refine' wn @h0);refine jK (S:=Nat) (λi=>[(11,av (iD.gs ((sI E i).map km))),(128,av (iD.gs (E.map km))),(129,aq E.length),(130,aq i)]) (λ_=>⟨[],[],[]⟩)
   (λi=>i<=E.length∧(∀e∈E.take i,e.length<1000)∧(∀b∈sI E i,Fh b)∧(sI E i).length<=2*i+1) (λi=>E.length-i) 0 ⟨bm _,λe he=>absurd he cF,λb hb=>(by have G2:b=[]:=(by simpa[sI,Vm]using hb);subst G2;exact bm _),aZ _⟩
   (iE.le (aA ⟨.inl (aT (λk:Nat=>aq k) Co),an⟩)) aJ (λ_=>rfl) (λi hi=>?_)
  obtain⟨hi,Fk,nT,p8⟩:=hi;(try refine' uD);refine' sQ<;>intro h
  ·have iI:i<E.length:=by have:=aU h;omega
   have hg:(iD.gs (E.map km))[((i:Int)).toNat]?=some (km E[i]).g:=(by rw[iD.jd,List.map_map];exact lg (f:=iD.g ∘ km) iI);have hEi:=amG _ (bJ iI);have ki:E[i]∈E:=bJ iI;have vO:=Sf iI;have lR:E.take (i+1)=E.take i++[E[i]]:=b7 iI;generalize E[i]=e at *
   clear h;by_cases hb:1000<=e.length
   ·rw[aW (KT ki hb)]at hR;subst hR;have sC:decide (((qD e).size:Int)≥1000)=true:=bU (by rw[sZ];omega);unfold km at hg;(repeat first|refine' uD|(refine' oX;exact jA (q:=aI hg);exact kq));refine' sQ<;>intro h;rotate_left;exfalso;rw[sC]at h;cases h;(try refine' uD);refine' rE;all_goals rfl
   ·have sC:decide (((qD e).size:Int)≥1000)=false:=bA (by rw[sZ];omega);have hp1:=GK (sI E i) e nT (by unfold Fh;omega) ab;have KL:∀b∈ky (λa b=>Op.bytesLess a b) (sI E i) e,Fh b:=λb hb=>by
     rcases Dq hb with rfl|hb
     unfold Fh;omega;exact nT b hb
    have sx:=zV (lt:=λa b=>Op.bytesLess a b) (sI E i) e;have KY:Fh (lF e):=(by unfold Fh lF;simp;omega);have UM:=GK (ky (λa b=>Op.bytesLess a b) (sI E i) e) (lF e) KL KY (b8 (zV _ _) ab);have Jj:=zV (lt:=λa b=>Op.bytesLess a b) (ky (λa b=>Op.bytesLess a b) (sI E i) e) (lF e);have Oa:∀b∈sI E (i+1),Fh b:=λb hb=>by
     rw[vO]at hb;rcases Dq hb with rfl|hb
     exact KY;exact KL b hb
    rw[<-vO]at UM Jj;rw[<-KU]at UM;have abe:∀x∈E.take (i+1),x.length<1000:=λx hx=>by
     rw[lR]at hx;rcases bC.1 hx with hx|hx
     exact Fk x hx;rw[db.1 hx];omega
    have kl:(qD e).size+(⟨#[0]⟩:ByteArray).size<=9223372036854775807:=(by rw[sZ];show e.length+1<=_;omega);generalize hQ:ky (λa b=>Op.bytesLess a b) (sI E i) e=Q at *
    generalize hPP:sI E (i+1)=PP at *
    unfold km at hg;rw[show(km e)=.mk 4 false 0 0 (qD e) []from rfl]at hp1;(repeat first|refine' uD|(refine' oX;exact jA (q:=aI hg);exact kq));refine' sQ<;>intro h;exfalso;rw[sC]at h;cases h;clear h;(repeat first|refine' uD|(refine' oX;(first|exact iV hp1|exact iV UM|exact JH rfl rfl rfl kl);exact kq));exact⟨i+1,⟨iI,abe,hPP▸Oa,by rw[hPP];omega⟩,by omega,iE.le ⟨.inl (by rw[hPP];rfl),.inl rfl,.inl rfl,.inl (aT aq (uu ab)),trivial⟩,lq.mk [_] [] [] rfl⟩
  ·have lk:i=E.length:=by have:=aX h;omega
   subst lk;rw[du]at Fk;rw[aV (by rw[Is Fk];decide)]at hR;have hpp:sI E E.length=jZ E:=(by unfold sI;rw[du];exact Qa ub);rw[hpp];subst hR;(try refine' uD);refine' rE;all_goals rfl
def vx(kd:Int)(hz:∀t∈l,mJ t.g)(Ef:l.length<=maxLen):ak 5 [aq kd,av (iJ.gs l)] (.tuple [av (kN VD kd l).1,aq (kN VD kd l).2]):=by
 have pE:(iJ.gs l).length=l.length:=by simp[iJ.jd]
 by_cases hk:kd<2∨4<kd
 ·have hR:kN VD kd l=([],1):=by unfold kN;rw[aW hk]
  rw[hR];refine' eN func5;(try refine' uD);refine' sQ<;>intro h
  ·clear h;(try refine' uD);refine' rE;all_goals rfl
  ·have h4:4<kd:=by have:=aX h;omega
   clear h;(try refine' uD);refine' sQ<;>intro h
   ·clear h;(try refine' uD);refine' rE;all_goals rfl
   exfalso;have:=aX h;omega
 by_cases h20:20<l.length
 ·have hR:kN VD kd l=([],5):=by unfold kN;rw[aV hk,aW h20]
  rw[hR];have hk:kd=2∨kd=3∨kd=4:=ab
  rcases hk with rfl|rfl|rfl
  all_goals
   refine' eN func5
   (try refine' uD)
   refine' sQ<;>intro h
   rotate_left
   ·exfalso;have:=aX h;rw[pE]at this;omega
   clear h
   (try refine' uD)
   refine' rE
  all_goals rfl
 have hk:kd=2∨kd=3∨kd=4:=ab
 rcases hk with rfl|rfl|rfl
 exact Qr hz ab;exact Qs hz ab;exact Qt hz ab
def SN{y y':Bool}{c e c' e':Int}{t t':ByteArray}{l l':List iD}:F5 (.mk 4 y c e t l) (.mk 4 y' c' e' t' l')=hB (Op.bytesLess t.toList t'.toList):=by rw[F5,aV (λq=>absurd q.1 af),aW ⟨rfl,rfl⟩]
variable{v:iD}
def WH(hz:∀t∈l,mJ t.g)(Ef:l.length<=maxLen)(Hi:mJ v.g)(he:(kN VD 2 l).2=0)(hv:(kJ VD v 0 1).2=0)(zM:iY v=2):
  ak 8 [aq 2,av (iJ.gs l),.g v.g] (.tuple [aq (if Vz v=true then 1 else 0),aq 0]):=by
 have hP:=vx 2 hz Ef;have hW:=vu v Hi;rw[he]at hP;rw[hv]at hW;have pn:=xj he;rw[aW rfl]at pn;rw[pn]at hP;clear pn he;obtain⟨v0,v1,v2,v3,v4,v5⟩:=v;have ox:v0=2:=zM;subst ox;rw[show Vz (.mk 2 v1 v2 v3 v4 v5)=v1 from rfl];have h0:([(rU false).g,(rU true).g]:List GV)[(0:Int).toNat]?=some (rU false).g:=rfl;have h1:([(rU false).g,(rU true).g]:List GV)[(1:Int).toNat]?=some (rU true).g:=rfl;unfold rU at *
 cases v1
 ·refine' eN func8;(repeat first|refine' uD|(refine' oX;(first|exact iV hP|exact iV hW|exact jA (q:=aI h0));exact kq));refine jf (S:=Nat) (λi=>iL [(0,aq 2),(5,.ptr 0 0),(8,av [(iD.mk 2 false 0 0 ⟨#[]⟩ []).g,(iD.mk 2 true 0 0 ⟨#[]⟩ []).g]),(11,aq (0)),(35,aq 2),(36,aq i)])
   (λ_=>⟨[(iD.mk 2 false v2 v3 v4 v5).g.cells.map PV.g],[],[]⟩) (λi=>i<=2) (λi=>2-i) 0 (bm _)
   (iE.le an) aJ (λi hi=>?_)
  have G7:i=0∨i=1∨i=2:=ab
  rcases G7 with rfl|rfl|rfl
  (repeat first|refine' uD|(refine' oX;exact jA (q:=aI h0);exact kq));exact⟨1,by decide,by decide,iE.le an,aJ⟩;(repeat first|refine' uD|(refine' oX;exact jA (q:=aI h1);exact kq));exact⟨2,by decide,by decide,iE.le an,aJ⟩
  ·(try refine' uD);refine' rE;all_goals rfl
 ·refine' eN func8;(repeat first|refine' uD|(refine' oX;(first|exact iV hP|exact iV hW|exact jA (q:=aI h0));exact kq));refine jf (S:=Nat) (λi=>iL [(0,aq 2),(5,.ptr 0 0),(8,av [(iD.mk 2 false 0 0 ⟨#[]⟩ []).g,(iD.mk 2 true 0 0 ⟨#[]⟩ []).g]),(11,aq (((i/2:Nat):Int))),(35,aq 2),(36,aq i)])
   (λ_=>⟨[(iD.mk 2 true v2 v3 v4 v5).g.cells.map PV.g],[],[]⟩) (λi=>i<=2) (λi=>2-i) 0 (bm _)
   (iE.le an) aJ (λi hi=>?_)
  have G7:i=0∨i=1∨i=2:=ab
  rcases G7 with rfl|rfl|rfl
  (repeat first|refine' uD|(refine' oX;exact jA (q:=aI h0);exact kq));exact⟨1,by decide,by decide,iE.le an,aJ⟩;(repeat first|refine' uD|(refine' oX;exact jA (q:=aI h1);exact kq));exact⟨2,by decide,by decide,iE.le an,aJ⟩
  ·(try refine' uD);refine' rE;all_goals rfl
def WI(hz:∀t∈l,mJ t.g)(Ef:l.length<=maxLen)(Hi:mJ v.g)(he:(kN VD 4 l).2=0)(hv:(kJ VD v 0 1).2=0)(zM:iY v=4):
  ak 8 [aq 4,av (iJ.gs l),.g v.g] (.tuple [aq (vP (ko (l.flatMap jj)) (nN v):Nat),aq 0]):=by
 have hP:=vx 4 hz Ef;have hW:=vu v Hi;rw[he]at hP;rw[hv]at hW;obtain⟨hk,GM,jU⟩:=vU he;have pn:=xj he;rw[aV af,aV af]at pn;have ub:=(qP (l.flatMap jj)).1;have UE:(ko (l.flatMap jj)).length<=6400000:=by have h1:=kH (lt:=λa b=>Op.bytesLess a b) (l.flatMap jj) [];have h2:=oN GM λt ht=>nH 4 (nU jU t ht).1 rfl;rw[bH,bc]at h1;exact b8 h1 h2
 have zu:=P9 (v:=nN v) ub;have hP0:(jZ (ko (l.flatMap jj)))[0]?=some []:=rfl;have hPl:(jZ (ko (l.flatMap jj))).length<=2*(ko (l.flatMap jj)).length+1:=by have:=wL (ko (l.flatMap jj)) [];rw[jZ,bu];omega
 have hPn:=FT (n:=1000) (KW jU);rw[<-zu];generalize(kN VD 4 l).1=W at *
 generalize jZ (ko (l.flatMap jj))=P at *
 have wD:∀i p,P[i]?=some p->W[i]?=some (km p).g:=λi p h=>by rw[pn,iD.jd,bj,bj,h];rfl
 have Ui:W.length=P.length:=by rw[pn,iD.jd,dm,dm]
 have h0:W[(0:Int).toNat]?=some (km []).g:=wD 0 [] hP0;clear zu pn jU ub;have hlen:P.length<=100000000:=ab
 clear hPl UE;obtain⟨v0,v1,v2,v3,v4,v5⟩:=v;have ox:v0=4:=zM;subst ox;rw[show nN (.mk 4 v1 v2 v3 v4 v5)=v4.toList from rfl];have Jv:∀p:TX,ak 31 [.g (iD.mk 4 v1 v2 v3 v4 v5).g,.g (km p).g] (aq (hB (Op.bytesLess v4.toList p))):=λp=>by have h:=zU (iD.mk 4 v1 v2 v3 v4 v5) (km p) (λk y c e t l k' y' c' e' t' l' e1 e2 e3 e4=>by cases e1;cases e3);unfold km at h⊢;rwa[SN,lZ]at h
 unfold km at h0;refine' eN func8;(repeat first|refine' uD|(refine' oX;(first|exact iV hP|exact iV hW|exact jA (q:=aI h0));exact kq));refine jf (S:=Nat) (λi=>iL [(0,aq 4),(5,.ptr 0 0),(8,av W),(11,aq (xe P v4.toList i:Nat)),(35,aq W.length),(36,aq i)])
  (λ_=>⟨[(iD.mk 4 v1 v2 v3 v4 v5).g.cells.map PV.g],[],[]⟩) (λi=>i<=W.length) (λi=>W.length-i) 0 (bm _)
  (iE.le an) aJ (λi hi=>?_)
 (try refine' uD);refine' sQ<;>intro h
 ·have iI:i<W.length:=by have:=aU h;omega
  obtain⟨p,a1⟩:∃p,P[i]?=some p:=⟨_,aS ab⟩;have a2:W[(i:Int).toNat]?=some (km p).g:=wD i p a1;have WJ:=Jv p;have YL:xe P v4.toList (i+1)=if Op.bytesLess v4.toList p then xe P v4.toList i else i:=by rw[xe,getD_some a1]
  clear h Jv;unfold km at a2 WJ;cases hq:Op.bytesLess v4.toList p;rw[hq]at WJ YL;have YL:xe P v4.toList (i+1)=i:=YL;have WJ:ak 31 [.g (iD.mk 4 v1 v2 v3 v4 v5).g,.g (iD.mk 4 false 0 0 (qD p) []).g] (aq 0):=WJ;(repeat first|refine' uD|(refine' oX;(first|exact iV WJ|exact jA (q:=aI a2));exact kq));exact⟨i+1,iI,by omega,iE.le (aB ⟨.inl (aT (λk:Nat=>aq k) YL.symm),.inl rfl,.inl (aT aq (uu ab)),trivial⟩),aJ⟩;rw[hq]at WJ YL;have YL:xe P v4.toList (i+1)=xe P v4.toList i:=YL;have WJ:ak 31 [.g (iD.mk 4 v1 v2 v3 v4 v5).g,.g (iD.mk 4 false 0 0 (qD p) []).g] (aq 2):=WJ;(repeat first|refine' uD|(refine' oX;(first|exact iV WJ|exact jA (q:=aI a2));exact kq));exact⟨i+1,iI,by omega,iE.le (aB ⟨.inl (aT (λk:Nat=>aq k) YL.symm),.inl rfl,.inl (aT aq (uu ab)),trivial⟩),aJ⟩
 ·have lk:i=W.length:=by have:=aX h;omega
  subst lk;rw[Ui];clear h;(try refine' uD);refine' rE;all_goals rfl
end Go.Proofs.YtckjndkmmfmjjaaGreatDoor