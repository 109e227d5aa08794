/- Steps to pointsMake_card. -/
import Derived.Test.YtckjndkmmfmjjaaGreatDoorOwnZ
import Derived.Test.YtckjndkmmfmjjaaGreatDoorOwnC2
import Derived.Test.YtckjndkmmfmjjaaGreatDoorOwnQ
import Derived.Test.YtckjndkmmfmjjaaGreatDoorOwnW
set_option linter.all false
open Go.IntKind (i64 u64)
open Go.Proofs.Tryz
set_option maxRecDepth 100000
set_option maxHeartbeats 32000000
namespace Go.Proofs.YtckjndkmmfmjjaaGreatDoor
open Go Go.Pure
attribute [local irreducible] PW jQ ju PO PC lS
variable{v:iD}
def GO(hk:iY v=3):∃y c e t l,v=.mk 3 y c e t l∧ow v=iR c e:=by obtain⟨k,y,c,e,t,l⟩:=v;have hk:k=3:=hk;subst hk;exact⟨y,c,e,t,l,rfl,rfl⟩
variable{y:Bool}{c e:Int}{t:ByteArray}
def Ba{l:List iD}(h:mc (.mk 3 y c e t l)):iZ c e=0∧SmallK (iR c e):=h.2.1 rfl
variable{L:List iD}
def SU{E:List Int}(hL:L.map ow=E)(hg:∀v∈L,mc v∧iY v=3)(hl:L.length<=100000000):ak 12 [av (iD.gs L)] (av (uP E)):=by
 have pE:(iD.gs L).length=L.length:=by simp[iD.jd]
 have UE:E.length=L.length:=by rw[<-hL];simp
 by_cases h0:L=[];subst h0;have hE:E=[]:=hL.symm;subst hE;have hn:=L6 0 0;refine' eN func12;(try refine' wn @hn);refine' rT;rfl;have jX:0<L.length:=gR.2 h0;have ny:∀i (h:i<L.length),(iD.gs L)[i]?=some L[i].g:=λi h=>by rw[iD.jd,bj,aS h];rfl
 have Eg:∀i (h:i<L.length),E[i]?=some (ow L[i]):=λi h=>by rw[<-hL,bj,aS h];rfl
 have hW:=wK E;rw[UE]at hW;have nn:(uP E)[0]?=some (kn (ow L[0]-mh)).g:=sk (DZ (Eg 0 jX));have BC:∀i (h:i<L.length),(uP E)[2*i+1]?=some (kn (ow L[i])).g:=λi h=>sk (by rw[Ap];exact Eg i h);have L3:∀i (h:i+1<L.length),(uP E)[2*(i+1)]?=some (kn (pf (ow L[i]) (ow L[i+1]))).g:=λi h=>sk (FR (Eg i ab) (Eg (i+1) h));have oY:∀i (h:i<L.length),i+1=L.length->(uP E)[2*(i+1)]?=some (kn (ow L[i]+mh)).g:=λi h hi=>sk (D3 ab (Eg i h));have afv:∀x:iD,x.g.cells.length=6:=λx=>iD.cells x;clear Eg hL;have h00:(iD.gs L)[(0:Int).toNat]?=some L[0].g:=ny 0 jX;have x8:=hg L[0] (bJ jX);generalize uP E=W at *
 have js:(((iD.gs L).length:Int)==0)=false:=bk.2 ab;obtain⟨y0,c0,e0,t0,l0,ox,Ez⟩:=GO x8.2;have zP:=x8.1;rw[ox]at zP h00;rw[Ez]at nn;obtain⟨r1,r2⟩:=Ba zP;have hp0:=UF (k:=3) (y:=y0) (t:=t0) (l:=l0) r1 (show iZ (-1) 0=0 by decide) r2 (by rw[O6];exact RZ);rw[O6,<-gW]at hp0;generalize kn (iR c0 e0-mh)=z0 at *
 clear ox Ez x8 zP r1 r2;obtain⟨z00,z01,z02,z03,z04,z05⟩:=z0;have yS:W.take 1=[(iD.mk z00 z01 z02 z03 z04 z05).g]:=by have:=mI nn;simpa using this
 refine' eN func12;(try refine' uD);refine' sQ<;>intro h;exfalso;rw[js]at h;cases h;clear h;(repeat first|refine' uE|(refine' oX;(first|exact iV hp0|exact jA (q:=aI h00)|exact wU rfl (EL rfl) (SZ rfl) (AG rfl) (ZR rfl) rfl rfl rfl rfl rfl rfl rfl|exact mO);exact kq));refine jK (S:=Nat) (λi=>[(0,av (iD.gs L)),(3,.own (W.take (max 1 (2*i))) 0),(18,av (iD.gs L)),(19,aq L.length),(20,aq i)]) (λi=>⟨[],[(27,max 1 (2*i))],[]⟩) (λi=>i<=L.length) (λi=>L.length-i) 0 (bm _)
  (iE.le ⟨.inl rfl,.inl (by rw[show max 1 (2*0)=1 from rfl,yS];rfl),.inl rfl,.inl (aT (λk:Nat=>aq k) pE),an⟩) aJ (λ_=>rfl) (λi hi=>?_)
 (try refine' uD);refine' sQ<;>intro h
 ·have iI:i<L.length:=by have:=aU h;omega
  have sy:(iD.gs L)[(i:Int).toNat]?=some L[i].g:=ny i iI;have hoi:=BC i iI;obtain⟨g1,g2⟩:=hg L[i] (bJ iI);have hmi:∀j,j+1=i->∃(hj:j<L.length),W[2*i]?=some (kn (pf (ow L[j]) (ow L[i]))).g:=λj hj=>by subst hj;exact⟨by omega,L3 j iI⟩
  generalize L[i]=x at sy hoi g1 g2 hmi;obtain⟨y,c,e,t,l,rfl,zc⟩:=GO g2;obtain⟨r1,r2⟩:=Ba g1;have hn:=L6 c e;rw[zc,CG r1]at hoi;have vJ:∀x∈[(iD.mk 3 false c e ⟨#[]⟩ []).g],x.cells.length=6:=λx hx=>by rw[db.1 hx];rfl
  have LA:(W.take (2*i+1)).length=2*i+1:=by rw[bW];omega
  have tN:max 1 (2*(i+1))=2*i+1+1:=ab
  have htt:=mI hoi;clear h;by_cases BF:i=0;subst BF;have e1:max 1 (2*0)=2*0+1:=rfl;rw[e1];(repeat first|refine' uD|(refine' oX;(first|exact iV hn|exact jA (q:=aI sy)|exact aP (es:=W.take (2*0+1)) (xs:=[(iD.mk 3 false c e ⟨#[]⟩ []).g]) (n:=2*0+1) rfl (EL rfl) (SZ rfl) (BY rfl) (ZR rfl) rfl rfl rfl rfl LA vJ aa (by simp[maxLen]));exact kq));exact⟨1,iI,by omega,iE.le ⟨.inl rfl,.inl (by rw[tN,htt];rfl),an⟩,lq.mk [_] [] [] rfl⟩
  ·have akh:decide ((i:Int)>0)=true:=bU ab;obtain⟨hj,hwm⟩:=hmi (i-1) ab;have AF:(iD.gs L)[(i64.wrap ((i:Int)-1)).toNat]?=some L[i-1].g:=(by rw[jD ab,show((i:Int)-1).toNat=i-1 by omega];exact ny (i-1) hj);have L4:0<=i64.wrap ((i:Int)-1):=(by rw[jD ab];omega);obtain⟨q1,q2⟩:=hg L[i-1] (bJ hj);generalize L[i-1]=x2 at AF hwm q1 q2;obtain⟨y2,c2,e2,t2,l2,rfl,afw⟩:=GO q2;obtain⟨s1,s2⟩:=Ba q1;have hm:=WN (k:=3) (y:=y2) (t:=t2) (l:=l2) (k':=3) (y':=y) (t':=t) (l':=l) s1 r1 s2 r2;rw[zc,afw]at hwm;generalize kn (pf (iR c2 e2) (iR c e))=z at hwm hm;obtain⟨z0,z1,z2,z3,z4,z5⟩:=z;have sP:∀x∈[(iD.mk z0 z1 z2 z3 z4 z5).g],x.cells.length=6:=λx hx=>(by rw[db.1 hx];rfl);have e1:max 1 (2*i)=2*i:=ab;have su:=mI hwm;have afx:(W.take (2*i)).length=2*i:=(by rw[bW];omega);have amH:(W.take (2*i)++[(iD.mk z0 z1 z2 z3 z4 z5).g]).length=2*i+1:=(by rw[<-su];exact LA);rw[e1];(repeat first|refine' uD|(refine' oX;exact jA (q:=aI sy);exact kq));refine' sQ<;>intro h;rotate_left;exfalso;rw[akh]at h;cases h;clear h;(repeat first|refine' uD|(refine' oX;(first|exact iV hn|exact iV hm|exact jA (z:=L4) (q:=aI AF)|exact aP (es:=W.take (2*i)) (xs:=[(iD.mk z0 z1 z2 z3 z4 z5).g]) (n:=2*i) rfl (EL rfl) (SZ rfl) (BY rfl) (ZR rfl) rfl rfl rfl rfl afx sP ad (by simp[maxLen];omega)|exact aP (es:=W.take (2*i)++[(iD.mk z0 z1 z2 z3 z4 z5).g]) (xs:=[(iD.mk 3 false c e ⟨#[]⟩ []).g]) (n:=2*i+1) rfl (EL rfl) (SZ rfl) (BY rfl) (ZR rfl) rfl rfl rfl rfl amH vJ ad aO);exact kq));exact⟨i+1,iI,by omega,iE.le ⟨.inl rfl,.inl (by rw[tN,htt,su];rfl),(aA ⟨.inl (aT aq (jD ab)),trivial⟩)⟩,lq.mk [_] [] [] (by dsimp only;rw[tN];rfl)⟩
 ·have lk:i=L.length:=by have:=aX h;omega
  subst lk;have e1:max 1 (2*L.length)=2*L.length:=ab
  rw[e1];have hlw:=oY (L.length-1) ab ab;rw[show L.length-1+1=L.length by omega]at hlw;have AF:(iD.gs L)[(i64.wrap (((iD.gs L).length:Int)-1)).toNat]?=some (L[L.length-1]'(by omega)).g:=by rw[jD ab,pE,show((L.length:Int)-1).toNat=L.length-1 by omega];exact ny (L.length-1) ab
  have L4:0<=i64.wrap (((iD.gs L).length:Int)-1):=by rw[jD ab];omega
  obtain⟨q1,q2⟩:=hg (L[L.length-1]'(by omega)) (bJ _);generalize L[L.length-1]'(by omega)=x2 at AF hlw q1 q2;obtain⟨y2,c2,e2,t2,l2,rfl,afw⟩:=GO q2;obtain⟨s1,s2⟩:=Ba q1;have hp:=UF (k:=3) (y:=y2) (t:=t2) (l:=l2) s1 (show iZ 1 0=0 by decide) s2 (by rw[O5];exact nM);rw[O5]at hp;rw[afw]at hlw;generalize kn (iR c2 e2+mh)=z at hlw hp;obtain⟨z0,z1,z2,z3,z4,z5⟩:=z;have sP:∀x∈[(iD.mk z0 z1 z2 z3 z4 z5).g],x.cells.length=6:=λx hx=>by rw[db.1 hx];rfl
  have afx:(W.take (2*L.length)).length=2*L.length:=by rw[bW];omega
  have lM:W=W.take (2*L.length)++[(iD.mk z0 z1 z2 z3 z4 z5).g]:=by rw[<-mI hlw,bR ab]
  clear h;(repeat first|refine' uD|(refine' oX;(first|exact iV hp|exact jA (z:=L4) (q:=aI AF)|exact aP (es:=W.take (2*L.length)) (xs:=[(iD.mk z0 z1 z2 z3 z4 z5).g]) (n:=2*L.length) rfl (EL rfl) (SZ rfl) (BY rfl) (ZR rfl) rfl rfl rfl rfl afx sP ad aO);exact kq));refine' rT;exact aT GV.sl lM.symm
def aaA(hk:iY v=4):∃y c e t l,v=.mk 4 y c e t l∧nN v=t.toList:=by obtain⟨k,y,c,e,t,l⟩:=v;have hk:k=4:=hk;subst hk;exact⟨y,c,e,t,l,rfl,rfl⟩
def WU{l:List iD}(h:mc (.mk 4 y c e t l)):t.size<=1000:=h.2.2 rfl
def WV(t:ByteArray):t.size=t.toList.length:=by have h:=sZ t.toList;rw[Af]at h;exact h
def ado(t:ByteArray):iD.mk 4 false 0 0 t []=km t.toList:=by unfold km;rw[Af]
def aaB{E:List TX}{R:List GV×Int}(hL:L.map nN=E)(hg:∀v∈L,mc v∧iY v=4)(hl:L.length<=100000000)(hR:R=if Rz E=true then([],4)else(iD.gs ((jZ E).map km),0)):
  ak 14 [av (iD.gs L)] (.tuple [av R.1,aq R.2]):=by
 have pE:(iD.gs L).length=L.length:=by simp[iD.jd]
 have UE:E.length=L.length:=by rw[<-hL];simp
 have Eg:∀i (h:i<L.length),E[i]?=some (nN L[i]):=λi h=>by rw[<-hL,bj,aS h];rfl
 have hE:∀i (h:i<L.length),E[i]'(by omega)=nN L[i]:=λi h=>by have:=Eg i h;rw[aS ab]at this;exact cE this
 have MT:=MQ ⟨#[]⟩;refine' eN func14;(repeat first|refine' uE|(refine' oX;(first|exact iV MT|exact wU rfl (EL rfl) (SZ rfl) (AG rfl) (ZR rfl) rfl rfl rfl rfl rfl rfl rfl|exact mO);exact kq));refine jK (S:=Nat×List TX×TX) (λs=>[(0,av (iD.gs L)),(4,.own (iD.gs ((s.2.1++[s.2.2]).map km)) 0),(9,av (iD.gs L)),(10,aq L.length),(11,aq s.1)]) (λs=>⟨[],[(27,s.2.1.length+1)],[]⟩)
  (λs=>s.1<=L.length∧s.2.1++[s.2.2]++qv s.2.2 (E.drop s.1)=jZ E∧s.2.1.length<=2*s.1∧∀e∈E.take s.1,e.length<1000) (λs=>L.length-s.1) (0,[],[]) ⟨bm _,rfl,aZ _,λe he=>absurd he cF⟩
  (iE.le (aB ⟨.inl (aT (λk:Nat=>aq k) pE),an⟩)) aJ (λ_=>rfl) (λs hi=>?_)
 obtain⟨i,O,p⟩:=s;obtain⟨hi,hO,hOl,Fk⟩:=hi;dsimp only at hi hO hOl Fk;(try refine' uD);refine' sQ<;>intro h
 ·have iI:i<L.length:=by have:=aU h;omega
  have sy:(iD.gs L)[(i:Int).toNat]?=some L[i].g:=by rw[iD.jd];exact lg iI
  obtain⟨g1,g2⟩:=hg L[i] (bJ iI);have hEi:=hE i iI;have Jn:E.drop i=E[i]'(by omega)::E.drop (i+1):=bY ab;have lR:E.take (i+1)=E.take i++[E[i]'(by omega)]:=b7 ab;have ki:E[i]'(by omega)∈E:=bJ _;rw[hEi]at Jn lR ki;generalize L[i]=x at sy g1 g2 Jn lR ki;obtain⟨y,c,e,t,l,rfl,zc⟩:=aaA g2;have hts:=WU g1;rw[zc]at Jn lR ki;have Jf:=WV t;clear h hEi;(repeat first|refine' uD|(refine' oX;exact jA (q:=aI sy);exact kq));refine' sQ<;>intro h
  ·have hb:1000<=t.toList.length:=by have:=aU h;omega
   rw[aW (KT ki hb)]at hR;subst hR;(try refine' uD);refine' rE;all_goals rfl
  ·have hb:t.toList.length<1000:=by have:=aX h;omega
   have oY:(iD.gs ((O++[p]).map km))[(i64.wrap (((iD.gs ((O++[p]).map km)).length:Int)-1)).toNat]?=some (km p).g:=(by have e1:(iD.gs ((O++[p]).map km)).length=O.length+1:=(by simp[iD.jd]);rw[e1,jD ab,show((((O.length+1:Nat):Int))-1).toNat=O.length by omega,iD.jd];simp);have L4:0<=i64.wrap (((iD.gs ((O++[p]).map km)).length:Int)-1):=(by have e1:(iD.gs ((O++[p]).map km)).length=O.length+1:=(by simp[iD.jd]);rw[e1,jD ab];omega);have htx:=MQ t;have hbh:=WO (k:=4) (y:=y) (c:=c) (e:=e) (l:=l) hts;rw[show iD.mk 4 false 0 0 (t++⟨#[0]⟩) []=km (lF t.toList) by rw[<-Af t,KU,lZ]]at hbh;rw[ado]at htx;have abe:∀x∈E.take (i+1),x.length<1000:=λx hx=>by
    rw[lR]at hx;rcases bC.1 hx with hx|hx
    exact Fk x hx;rw[db.1 hx];exact hb
   have jE:∀s:TX,∀x∈[(km s).g],x.cells.length=6:=λs x hx=>(by rw[db.1 hx];rfl);have hlen:∀O:List TX,(iD.gs ((O++[p]).map km)).length=O.length+1:=λO=>(by simp[iD.jd]);have aeK:(iD.gs ((O++[p]).map km)++[(km t.toList).g]).length=O.length+2:=(by simp[iD.jd]);rw[Jn,qv]at hO;have hap:∀(O:List TX) (q:TX),iD.gs ((O++[q]).map km)=iD.gs (O.map km)++[(km q).g]:=λO q=>(by simp[iD.jd]);clear h;by_cases hpe:p=t.toList
   ·rw[aW hpe]at hO;have mz:(!((qD p).toList==t.toList))=false:=(by rw[lZ,hpe];simp);have ha:=hap (O++[p]) (lF t.toList);generalize htn:km (lF t.toList)=z at *
    obtain⟨z0,z1,z2,z3,z4,z5⟩:=z;have sP:∀x∈[(iD.mk z0 z1 z2 z3 z4 z5).g],x.cells.length=6:=htn▸jE _;have hlO:=hlen O;generalize hW:iD.gs ((O++[p]).map km)=W at *
    unfold km at oY;(repeat first|refine' uD|(refine' oX;exact jA (z:=L4) (q:=aI oY);exact kq));refine' sQ<;>intro h;exfalso;rw[mz]at h;cases h;clear h;(repeat first|refine' uD|(refine' oX;(first|exact iV hbh|exact aP (es:=W) (xs:=[(iD.mk z0 z1 z2 z3 z4 z5).g]) (n:=O.length+1) rfl (EL rfl) (SZ rfl) (BY rfl) (ZR rfl) rfl rfl rfl rfl hlO sP ad aO);exact kq));exact⟨(i+1,O++[p],lF t.toList),⟨iI,by rw[<-hO];simp,by simp;omega,abe⟩,by simp;omega,iE.le ⟨.inl rfl,.inl (by dsimp only;rw[ha];rfl),(aA ⟨.inl (aT aq (jD ab)),trivial⟩)⟩,lq.mk [_] [] [] (by dsimp only;rw[bd];rfl)⟩
   ·rw[aV hpe]at hO;have mz:(!((qD p).toList==t.toList))=true:=(by rw[lZ];simpa using hpe);have ha:=hap (O++[p,t.toList]) (lF t.toList);have YA:=hap (O++[p]) t.toList;rw[bV,List.singleton_append]at YA;rw[YA]at ha;clear YA;have BZ:=jE (lF t.toList);have GW:=jE t.toList;have hlO:=hlen O;generalize km (lF t.toList)=z at ha hbh BZ;generalize km t.toList=v at ha htx GW aeK;obtain⟨z0,z1,z2,z3,z4,z5⟩:=z;obtain⟨v0,v1,v2,v3,v4,v5⟩:=v;generalize hW:iD.gs ((O++[p]).map km)=W at *
    unfold km at oY;(repeat first|refine' uD|(refine' oX;exact jA (z:=L4) (q:=aI oY);exact kq));refine' sQ<;>intro h;rotate_left;exfalso;rw[mz]at h;cases h;clear h;(repeat first|refine' uD|(refine' oX;(first|exact iV htx|exact iV hbh|exact aP (es:=W) (xs:=[(iD.mk v0 v1 v2 v3 v4 v5).g]) (n:=O.length+1) rfl (EL rfl) (SZ rfl) (BY rfl) (ZR rfl) rfl rfl rfl rfl hlO GW ad (by simp[maxLen];omega)|exact aP (es:=W++[(iD.mk v0 v1 v2 v3 v4 v5).g]) (xs:=[(iD.mk z0 z1 z2 z3 z4 z5).g]) (n:=O.length+2) rfl (EL rfl) (SZ rfl) (BY rfl) (ZR rfl) rfl rfl rfl rfl aeK BZ ad aO);exact kq));exact⟨(i+1,O++[p,t.toList],lF t.toList),⟨iI,by rw[<-hO];simp,by simp;omega,abe⟩,by simp;omega,iE.le ⟨.inl rfl,.inl (by dsimp only;rw[ha];rfl),(aA ⟨.inl (aT aq (jD ab)),trivial⟩)⟩,lq.mk [_] [] [] (by dsimp only;rw[bd];rfl)⟩
 ·have lk:i=L.length:=by have:=aX h;omega
  subst lk;rw[dH ab,qv,cG]at hO;rw[bR ab]at Fk;rw[aV (by rw[Is Fk];decide),<-hO]at hR;subst hR;(try refine' uD);refine' rE;all_goals rfl
def pM(a b:iD):Bool:=ya a b==0
def P1(a b:iD):ak 40 [.g a.g,.g b.g] (ax (pM a b)):=by have h:=zW a b;unfold pM;generalize ya a b=r at h⊢;obtain⟨a0,a1,a2,a3,a4,a5⟩:=a;obtain⟨b0,b1,b2,b3,b4,b5⟩:=b;refine' eN func40;(try refine' wk @h);refine' rT;rfl
variable{n:Nat}
def MR{id:Nat}{es:List GV}{p:PV}(h:p=.lK id n):ue id n es p= av es:=by rw[h];simp[ue]
def Hj:GV:=.agg ((Value.agg #[.int .i64 0,.bool false,.int .i64 0,.int .i64 0,.string ⟨#[]⟩,.slice none 0 0]).cells.toList.map mB)
variable{i:Nat}
def NU{x:iD}(h:L[i]?=some x):(iD.gs L)[i]?=some x.g:=by rw[iD.jd,bj,h];rfl
def SV(hl:L.length<=100000000):al 39 [.lK 0 n,.g (.raw (.func (.func 40) #[] #[]))] ⟨[],[],[.arr n 27 (iD.gs L)]⟩
  (av (iD.gs (nG pM L))) ⟨[],[],[.gone (n+1)]⟩:=by
 have pE:∀L:List iD,(iD.gs L).length=L.length:=λL=>by simp[iD.jd]
 by_cases h2:L.length<2
 ·have hc:nG pM L=L:=by
   match L,h2 with
   |[],_=>rfl|[a],_=>rfl
  rw[hc];refine' eN func39;(repeat first|refine' uD|(refine' oX;exact Gj rfl (EL rfl) rfl rfl;exact kq));refine' sQ<;>intro h;rotate_left;exfalso;have:=aX h;rw[pE]at this;omega;clear h;(repeat first|refine' wb|refine xU [2] rfl ?_);refine jP 0 rfl (ja (env':=iL [(0,av (iD.gs L))]) (H':=⟨[],[],[.gone (n+1)]⟩) (iE.le ⟨.inl (MR rfl),trivial⟩) aJ ?_);(try refine' uD);refine' rB;all_goals rfl
 obtain⟨a,r,rfl⟩:∃a r,L=a::r:=by
  cases L with
  |nil=>exact absurd aa h2|cons a r=>exact⟨a,r,rfl⟩
 have xG:nG pM (a::r)=(a::r).take 1++qJ pM a ((a::r).drop 1):=rfl;have ha0:(a::r)[1-1]?=some a:=rfl;generalize a::r=L at *
 generalize hC:nG pM L=C at *
 clear hC;refine' eN func39;(repeat first|refine' uD|(refine' oX;exact Gj rfl (EL rfl) rfl rfl;exact kq));refine' sQ<;>intro h;exfalso;have:=aU h;rw[pE]at this;omega;clear h;(try refine' uD);refine jf (S:=Nat×iD) (λs=>iL [(0,.lK 0 n),(1,.g (.raw (.func (.func 40) #[] #[]))),(5,aq s.1)]) (λ_=>⟨[],[],[.arr n 27 (iD.gs L)]⟩)
  (λs=>1<=s.1∧s.1<=L.length∧L[s.1-1]?=some s.2∧C=L.take s.1++qJ pM s.2 (L.drop s.1)) (λs=>L.length-s.1) (1,a) ⟨aZ _,by omega,ha0,xG⟩
  (iE.le an) aJ (λs hi=>?_)
 obtain⟨k,p⟩:=s;obtain⟨Iq,XO,hp,hC⟩:=hi;dsimp only at Iq XO hp hC;clear ha0 xG;(repeat first|refine' uD|(refine' oX;exact Gj rfl (EL rfl) rfl rfl;exact kq));refine' sQ<;>intro h
 ·have iI:k<L.length:=by have:=aU h;rw[pE]at this;omega
  have hx:L[k]?=some L[k]:=aS iI;have Jn:L.drop k=L[k]::L.drop (k+1):=bY iI;have lR:L.take (k+1)=L.take k++[L[k]]:=b7 iI;generalize L[k]=x at *
  rw[Jn,qJ]at hC;have y7:(iD.gs L)[(k:Int).toNat]?=some x.g:=NU hx;have yu:i64.wrap ((k:Int)-1)=((k-1:Nat):Int):=by rw[jD ab];omega
  have Yc:(iD.gs L)[(i64.wrap ((k:Int)-1)).toNat]?=some p.g:=by rw[yu];exact NU hp
  have L4:0<=i64.wrap ((k:Int)-1):=by rw[yu];omega
  have hkk:i64.wrap ((k:Int)-1)<((iD.gs L).length:Int):=by rw[yu,pE];omega
  have zc:(k:Int)<((iD.gs L).length:Int):=by rw[pE];omega
  have mz:=P1 x p;clear h;by_cases q:pM x p=true
  ·rw[aW q]at hC;rw[q]at mz;have Co:=pE L;obtain⟨x0,x1,x2,x3,x4,x5⟩:=x;obtain⟨p0,p1,p2,p3,p4,p5⟩:=p;(repeat first|refine' wc|(apply dR rfl rfl;focus(first|exact wH rfl rfl (EL rfl) (SZ rfl) rfl rfl rfl (SZ rfl) (br _) zc|exact wH rfl rfl (EL rfl) (SZ rfl) rfl rfl rfl (SZ rfl) L4 hkk|exact na rfl rfl (AG rfl) (SZ rfl) rfl rfl y7 (aZ _)|exact na rfl rfl (AG rfl) (SZ rfl) rfl rfl Yc (aZ _)))|(refine' oX;exact iV mz;exact kq)|refine' xW [10000]);have aki:(k:Int)=(k:Nat):=rfl;(repeat first|refine' uD|(refine' oX;exact KI k L.length rfl (EL rfl) (SZ rfl) rfl rfl rfl rfl (SZ rfl) rfl (by rw[pE];rfl) ab (by rw[pE];exact aZ _) (by rw[pE];exact iI);exact kq));refine jf (S:=Nat×Nat×List iD×iD) (λs=>iL [(0,.lK 0 n),(1,.g (.raw (.func (.func 40) #[] #[]))),(5,aq s.1),(6,.qm 0 n k (L.length-k)),(7,aq s.2.1)]) (λs=>⟨[],[],[.arr n 27 (iD.gs s.2.2.1)]⟩)
    (λs=>k<=s.1∧s.1+1<=k+s.2.1∧k+s.2.1<=L.length∧s.2.2.1.length=L.length∧(∀i,k+s.2.1<=i+1->s.2.2.1[i]?=L[i]?)∧L[k+s.2.1-1]?=some s.2.2.2∧C=s.2.2.1.take s.1++qJ pM s.2.2.2 (L.drop (k+s.2.1))) (λs=>L.length-s.2.1) (k,1,L,.mk x0 x1 x2 x3 x4 x5)
    ⟨aZ _,aZ _,iI,rfl,λ_ _=>rfl,hx,hC⟩ (iE.le an) aJ (λs hi=>?_)
   obtain⟨k1,j,cur,p⟩:=s;obtain⟨i1,i2,i3,i4,i5,i6,i7⟩:=hi;dsimp only at i1 i2 i3 i4 i5 i6 i7;clear Jn lR y7 Yc L4 hkk zc mz hp hx hC q Co yu aki;(repeat first|refine' uD|(refine' oX;exact Zb rfl (EL rfl) rfl;exact kq));refine' sQ<;>intro h
   ·have qC:k+j<L.length:=(by have:=aU h;dsimp only at this;omega);have hy:L[k+j]?=some L[k+j]:=aS qC;have Jn:L.drop (k+j)=L[k+j]::L.drop (k+j+1):=bY qC;generalize L[k+j]=y at *
    rw[Jn,qJ]at i7;have D8:(iD.gs cur)[k+j]?=some y.g:=NU (by rw[i5 _ ab,hy]);have Yc:(iD.gs cur)[k+(j-1)]?=some p.g:=NU (by rw[i5 _ ab,<-i6];congr 1;omega);have yu:i64.wrap ((j:Int)-1)=((j-1:Nat):Int):=(by rw[jD ab];omega);have pS:j<L.length-k:=ab;have sO:j-1<L.length-k:=ab;have mz:=P1 y p;clear h;by_cases q:pM y p=true;rw[aW q]at i7;rw[q]at mz;obtain⟨y0,y1,y2,y3,y4,y5⟩:=y;obtain⟨p0,p1,p2,p3,p4,p5⟩:=p;(repeat first|refine' wc|(apply dR rfl rfl;focus(first|exact uQ j rfl rfl (EL rfl) (SZ rfl) rfl rfl rfl (SZ rfl) rfl pS|exact uQ (j-1) rfl rfl (EL rfl) (SZ rfl) rfl rfl rfl (SZ rfl) yu sO|exact na rfl rfl (AG rfl) (SZ rfl) rfl rfl D8 (aZ _)|exact na rfl rfl (AG rfl) (SZ rfl) rfl rfl Yc (aZ _)))|(refine' oX;exact iV mz;exact kq)|refine' xW [10000]);exact⟨(k1,j+1,cur,.mk y0 y1 y2 y3 y4 y5),⟨i1,by dsimp only;omega,by dsimp only;omega,i4,λi hi=>i5 i (by dsimp only at hi;omega),by rw[<-hy];rfl,by rw[i7];rfl⟩,by dsimp only;omega,iE.le (aC ⟨.inl (aT aq (jD ah)),trivial⟩),aJ⟩
    ·rw[aV q]at i7;rw[fO]at q;rw[q]at mz;have hz:∃z,cur[k1]?=some z:=⟨_,aS ab⟩;obtain⟨z,hz⟩:=hz;have wE:(iD.gs cur)[(k1:Int).toNat]?=some z.g:=NU hz;have amI:(k1:Int)<((iD.gs cur).length:Int):=(by rw[pE,i4];omega);have lG:(iD.gs cur).set (k1:Int).toNat y.g=iD.gs (cur.set k1 y):=(by rw[iD.jd,iD.jd,iC];rfl);have lR:(cur.set k1 y).take (k1+1)=cur.take k1++[y]:=by
      have:(cur.set k1 y)[k1]?=some y:=(by rw[bZ ab]);rw[mI this,List.take_set_of_le (aZ _)]
     obtain⟨y0,y1,y2,y3,y4,y5⟩:=y;obtain⟨p0,p1,p2,p3,p4,p5⟩:=p;obtain⟨z0,z1,z2,z3,z4,z5⟩:=z;have lT:(⟨[],[],[.arr n 27 ((iD.gs cur).set (k1:Int).toNat (iD.mk y0 y1 y2 y3 y4 y5).g)]⟩:PH)=⟨[],[],[.arr n 27 (iD.gs (cur.set k1 (iD.mk y0 y1 y2 y3 y4 y5)))]⟩:=(by rw[lG]);(repeat first|refine' wc|(apply dR rfl rfl;focus(first|exact uQ j rfl rfl (EL rfl) (SZ rfl) rfl rfl rfl (SZ rfl) rfl pS|exact uQ (j-1) rfl rfl (EL rfl) (SZ rfl) rfl rfl rfl (SZ rfl) yu sO|exact na rfl rfl (AG rfl) (SZ rfl) rfl rfl D8 (aZ _)|exact na rfl rfl (AG rfl) (SZ rfl) rfl rfl Yc (aZ _)))|(refine' oX;exact iV mz;exact kq)|refine' xW [10000]);(repeat first|refine' uD|(refine' oX;(first|exact Io j rfl (EL rfl) (SZ rfl) rfl rfl rfl (SZ rfl) rfl pS|exact yx rfl (AG rfl) (SZ rfl) rfl rfl D8 (aZ _)|exact kO rfl (EL rfl) (SZ rfl) rfl rfl rfl (SZ rfl) (br _) amI|exact jI (iP rfl (SZ rfl) rfl rfl rfl rfl af rfl wE (aZ _)) lT);exact kq));exact⟨(k1+1,j+1,cur.set k1 (.mk y0 y1 y2 y3 y4 y5),.mk y0 y1 y2 y3 y4 y5),⟨by dsimp only;omega,by dsimp only;omega,by dsimp only;omega,by simp[i4],λi hi=>by dsimp only at hi⊢;rw[bP ab];exact i5 i ab,by rw[<-hy];rfl,by dsimp only;rw[lR,i7,bV];rfl⟩,by dsimp only;omega,iE.le (aA ⟨.inl (aT aq (jD ab)),.inl rfl,.inl (aT aq (jD ah)),trivial⟩),aJ⟩
   ·have hj:k+j=L.length:=(by have:=aX h;dsimp only at this;omega);rw[hj,dv,qJ,cG]at i7;clear h;have uc:Hj.cells.length=6:=rfl;have Jf:av (((putAt (iD.gs cur) k1 (List.replicate (L.length-k1) Hj)).drop (0:Int).toNat).take ((k1:Int).toNat-(0:Int).toNat))= av (iD.gs C):=by
     rw[i7,da,show(0:Int).toNat=0 from rfl,dz,gD,putAt,iD.jd,iD.jd,bV,cV (by rw[bW,dm];omega),List.take_take,Nat.min_self,gf]
    have p8:(putAt (iD.gs cur) k1 (List.replicate (L.length-k1) Hj)).length=L.length:=(by rw[sG (by rw[cS,pE];omega),pE,i4]);have TO:∀x∈putAt (iD.gs cur) k1 (List.replicate (L.length-k1) Hj),x.cells.length=6:=λx hx=>by
     unfold putAt at hx;rcases bC.1 hx with hx|hx
     ·rcases bC.1 hx with hx|hx
      have hx:=cC hx;rw[iD.jd]at hx;obtain⟨v,_,rfl⟩:=cH.1 hx;exact iD.cells v;rw[(fS.1 hx).2];exact uc
     have hx:=fj hx;rw[iD.jd]at hx;obtain⟨v,_,rfl⟩:=cH.1 hx;exact iD.cells v
    (repeat first|refine' wb|(refine' oX;(first|exact KI (es:=iD.gs cur) k1 L.length rfl (EL rfl) (SZ rfl) rfl rfl rfl rfl (SZ rfl) rfl (by rw[pE,i4];rfl) ab (by rw[pE,i4];exact aZ _) (by rw[pE];omega)|exact R8 (es:=iD.gs cur) rfl (EL rfl) (ZR rfl) rfl rfl af (SZ rfl) rfl rfl ab);exact kq)|refine xU [15] rfl ?_);generalize hW:putAt (iD.gs cur) k1 (List.replicate (L.length-k1) Hj)=W at *
    refine jP (n:=n) (e:=27) (es:=W) 0 (by rw[<-hW];rfl) (ja (env':=iL [(0,av W),(5,aq k1)]) (H':=⟨[],[],[.gone (n+1)]⟩) (iE.le ⟨.inl (MR rfl),.inl rfl,trivial⟩) aJ ?_);(repeat first|refine' uD|(refine' oX;exact kg (lE rfl (EL rfl) (SZ rfl) rfl rfl rfl (fK _) (br _) (show(k1:Int)<=(W.length:Int) by rw[p8];omega) TO) Jf;exact kq));refine' rB;all_goals rfl
  rw[aV q]at hC;rw[fO]at q;rw[q]at mz;obtain⟨x0,x1,x2,x3,x4,x5⟩:=x;obtain⟨p0,p1,p2,p3,p4,p5⟩:=p;(repeat first|refine' wc|(apply dR rfl rfl;focus(first|exact wH rfl rfl (EL rfl) (SZ rfl) rfl rfl rfl (SZ rfl) (br _) zc|exact wH rfl rfl (EL rfl) (SZ rfl) rfl rfl rfl (SZ rfl) L4 hkk|exact na rfl rfl (AG rfl) (SZ rfl) rfl rfl y7 (aZ _)|exact na rfl rfl (AG rfl) (SZ rfl) rfl rfl Yc (aZ _)))|(refine' oX;exact iV mz;exact kq)|refine' xW [10000]);exact⟨(k+1,.mk x0 x1 x2 x3 x4 x5),⟨by dsimp only;omega,iI,hx,by dsimp only;rw[lR,hC,bV];rfl⟩,by dsimp only;omega,iE.le (aA ⟨.inl (aT aq (jD ah)),trivial⟩),aJ⟩
 ·have lk:k=L.length:=by have:=aX h;rw[pE]at this;omega
  subst lk;rw[dv,qJ,cG,du]at hC;rw[hC];clear h;(repeat first|refine' wb|refine xU [16] rfl ?_);refine jP 0 rfl (ja (env':=iL [(0,av (iD.gs L))]) (H':=⟨[],[],[.gone (n+1)]⟩) (iE.le ⟨.inl (MR rfl),trivial⟩) aJ ?_);(try refine' uD);refine' rB;all_goals rfl
def oF(kd:Int)(a b:iD):Prop:=if kd=3 then ow a<ow b else uf (nN a) (nN b)
def NW(b:Bool):ty (tB b)=b:=by cases b<;>rfl
variable{kd:Int}{a b:iD}
def Fo(xY:kd=3∨kd=4)(ha:mc a∧iY a=kd)(hb:mc b∧iY b=kd):ty (pA a b)=true↔oF kd a b:=by
 obtain⟨k,y,c,e,t,l⟩:=a;obtain⟨k',y',c',e',t',l'⟩:=b;obtain⟨⟨_,g1,_⟩,h1⟩:=ha;obtain⟨⟨_,g2,_⟩,h2⟩:=hb;have h1:k=kd:=h1;have h2:k'=kd:=h2;subst h1;subst h2;rw[xd];unfold oF;rcases xY with rfl|rfl
 have a1:=(g1 rfl).1;have b1:=(g2 rfl).1;have a':=(jT a1).1;have b':=(jT b1).1;rw[aW ⟨rfl,rfl⟩,aV (by rw[a1,b1];simp),NW,aW rfl,decide_eq_true_iff,vM ab ab,CD];rfl;rw[aV af,aW ⟨rfl,rfl⟩,NW,aV af];rfl
def WW(a:iD):¬oF kd a a:=by unfold oF;split;omega;exact pd _
def aaC{c:iD}(h1:oF kd a b)(h2:oF kd b c):oF kd a c:=by
 unfold oF at *
 split at h1;rename_i h;rw[aW h]at h2⊢;omega;rename_i h;rw[aV h]at h2⊢;exact s7 h1 h2
def WX{c:iD}(h1:¬oF kd a b)(h2:¬oF kd b c):¬oF kd a c:=by
 unfold oF at *
 split at h1;rename_i h;rw[aW h]at h2⊢;omega
 ·rename_i h;rw[aV h]at h2⊢;intro h3;rcases CF h1 with q|q
  rw[q]at h2;exact h2 h3;exact h2 (s7 q h3)
def zv(xY:kd=3∨kd=4)(ha:mc a∧iY a=kd)(hb:mc b∧iY b=kd):ya a b<0↔oF kd a b:=by have h1:=Fo xY ha hb;unfold ya;by_cases q:ty (pA a b)=true;rw[aW q];exact⟨λ_=>h1.1 q,λ_=>af⟩;rw[aV q];refine⟨λh=>?_,λh=>absurd (h1.2 h) q⟩;split at h<;>omega
def P2(xY:kd=3∨kd=4)(ha:mc a∧iY a=kd)(hb:mc b∧iY b=kd):pM a b=true↔ ¬oF kd a b∧¬oF kd b a:=by have h1:=Fo xY ha hb;have h2:=Fo xY hb ha;unfold pM ya;rw[<-h1,<-h2];by_cases q:ty (pA a b)=true;rw[aW q];simp[q];rw[aV q];by_cases q2:ty (pA b a)=true;rw[aW q2];simp[q2];rw[aV q2];simp[q,q2]
def aeL:GV->iD
 |.agg [.int _ k,.bool _,.int _ c,.int _ e,.str t,.sl _]=>.mk k false c e t []|_=>.mk 0 false 0 0 ⟨#[]⟩ []
def aju(x y:GV):Int:=ya (aeL x) (aeL y)
def uv(a b:iD):aju a.g b.g=ya a b:=by obtain⟨k,y,c,e,t,l⟩:=a;obtain⟨k',y',c',e',t',l'⟩:=b;rfl
def ahw(kd:Int)(x:GV):Prop:= ∃v:iD,x=v.g∧mc v∧iY v=kd
def aaD(xY:kd=3∨kd=4):Xj Tryz.prog 29 aju (ahw kd):=by refine⟨?_,λargs w=>qn (EN rfl) args w,?_,?_,?_⟩;rintro x y ⟨a,rfl,_⟩ ⟨b,rfl,_⟩;have h:=zW a b;rw[uv];obtain⟨k,y,c,e,t,l⟩:=a;obtain⟨k',y',c',e',t',l'⟩:=b;exact h;rintro x ⟨a,rfl,ha⟩;rw[uv,zv xY ha ha];exact WW a;rintro x y z ⟨a,rfl,ha⟩ ⟨b,rfl,hb⟩ ⟨c,rfl,hc⟩;rw[uv,uv,uv,zv xY ha hb,zv xY hb hc,zv xY ha hc];exact aaC;rintro x y z ⟨a,rfl,ha⟩ ⟨b,rfl,hb⟩ ⟨c,rfl,hc⟩;rw[uv,uv,uv,zv xY ha hb,zv xY hb hc,zv xY ha hc];exact WX
def WY{α β:Type}{f:α->β}{xs ys:List β}(h:xs.Perm ys):∀{L:List α},ys=L.map f->∃L':List α,L'.Perm L∧xs=L'.map f:=by
 induction h with
 |nil=>
  intro L h;cases L with
  |nil=>exact⟨[],.refl _,rfl⟩|cons a r=>cases h
 |cons x h ih=>
  intro L h;cases L with
  |nil=>cases h
  |cons a r=>
   rw[dx,iw]at h;obtain⟨L',h1,h2⟩:=ih h.2;exact⟨a::L',h1.cons a,by rw[dx,h.1,h2]⟩
 |swap x y l=>
  intro L h;match L,h with
  |a::b::r,h=>
   rw[dx,dx,iw,iw]at h;exact⟨b::a::r,.swap a b r,by rw[dx,dx,h.1,h.2.1,h.2.2]⟩
 |trans h1 h2 i1 i2=>
  intro L h;obtain⟨L1,a1,a2⟩:=i2 h;obtain⟨L2,b1,b2⟩:=i1 a2;exact⟨L2,b1.trans a1,b2⟩
def WZ{e:Nat}:al 38 [.lK 0 n,.g (.raw (.func (.func 29) #[] #[]))] ⟨[],[],[.arr n e []]⟩ (.tuple []) ⟨[],[],[.arr n e []]⟩:=Ny Ur
def aaE(xY:kd=3∨kd=4)(hg:∀v∈L,mc v∧iY v=kd)(hl:L.length<=100000000):Ds Tryz.prog 38 [.lK 0 n,.g (.raw (.func (.func 29) #[] #[]))] ⟨[],[],[.arr n 27 (iD.gs L)]⟩
  λv H'=>v=.tuple []∧∃L':List iD,L'.Perm L∧L'.Pairwise (λx y=>¬oF kd y x)∧H'=⟨[],[],[.arr n 27 (iD.gs L')]⟩:=by
 by_cases h0:L=[];subst h0;refine WZ.x.mono ?_;rintro v H' ⟨rfl,rfl⟩;exact⟨rfl,[],.refl _,.nil,rfl⟩;refine(Zf (P:=Tryz.prog) (k:=6) trivial Ur (aaD xY) Tryz.isAgg27 Tryz.sizeOf27 rfl (iD.gs L) (λx hx=>?_) ?_ ?_).mono ?_;rw[iD.jd]at hx;obtain⟨v,hv,rfl⟩:=cH.1 hx;exact⟨v,rfl,hg v hv⟩;rw[iD.jd];simpa using h0;rw[iD.jd,dm];omega;rintro v H' ⟨rfl,o8,hp,hs,rfl⟩;rw[iD.jd]at hp;obtain⟨L',h1,rfl⟩:=WY hp rfl;refine⟨rfl,L',h1,?_,by rw[iD.jd]⟩;rw[List.pairwise_iff_getElem];intro i j hi hj zN iI;have h2:=hs i j _ _ zN (by rw[bj,aS hi];rfl) (by rw[bj,aS hj];rfl);rw[uv,zv xY (hg _ (h1.subset (bJ hj))) (hg _ (h1.subset (bJ hi)))]at h2;exact h2 iI
def amJ:nI Tryz.prog 38=true:=aj
def amK:nI Tryz.prog 39=true:=aj
variable{L':List iD}
def aaF(hg:∀v∈L,mc v∧iY v=3)(hp:L'.Perm L)(hs:L'.Pairwise (λx y=>¬oF 3 y x)):(nG pM L').map ow=ku (L.map ow)∧∀v∈nG pM L',mc v∧iY v=3:=by have sX:∀v∈L',mc v∧iY v=3:=λv hv=>hg v (hp.subset hv);obtain⟨h1,h2,h3⟩:=FO (key:=ow) (lt:=λa b:Int=>a<b) (λa b c=>Int.lt_trans) (λa b=>ab) (eq:=pM) (l:=L') (λx hx y hy=>by rw[P2 (.inl rfl) (sX x hx) (sX y hy)];unfold oF;rw[aW rfl,aW rfl];omega) (hs.imp λh=>by unfold oF at h;rwa[aW rfl]at h);refine⟨(Y7 (O1 h1) λx=>?_).symm,λv hv=>sX v (h3 v hv)⟩;rw[h2,(hp.map ow).mem_iff]
def W0(hg:∀v∈L,mc v∧iY v=4)(hp:L'.Perm L)(hs:L'.Pairwise (λx y=>¬oF 4 y x)):(nG pM L').map nN=ko (L.map nN)∧∀v∈nG pM L',mc v∧iY v=4:=by
 have sX:∀v∈L',mc v∧iY v=4:=λv hv=>hg v (hp.subset hv);obtain⟨h1,h2,h3⟩:=FO (key:=nN) (lt:=uf) (λa b c=>s7) CE (eq:=pM) (l:=L') (λx hx y hy=>by
  rw[P2 (.inr rfl) (sX x hx) (sX y hy)];unfold oF;rw[aV af,aV af];refine⟨λh=>?_,λh=>?_⟩
  ·rcases CF h.1 with q|q
   exact q.symm;exact absurd q h.2
  rw[h];exact⟨pd _,pd _⟩) (hs.imp λh=>by unfold oF at h;rwa[aV af]at h)
 refine⟨(Y8 (KE h1) λx=>?_).symm,λv hv=>sX v (h3 v hv)⟩;rw[h2,(hp.map nN).mem_iff]
variable{l:List iJ}
def Mb(xY:kd=3∨kd=4)(hz:∀t∈l,mJ t.g)(hl:l.length<=20)(oJ:∀t∈l,lp 4 t)(hc:(l.flatMap (jt kd)).length<=6400000):Ds Tryz.prog 13 [av (iJ.gs l),aq kd] ⟨[],[],[]⟩
  λv H'=>H'=⟨[],[],[]⟩∧∃L':List iD,L'.Perm (l.flatMap (jt kd))∧L'.Pairwise (λx y=>¬oF kd y x)∧v= av (iD.gs (nG pM L')):=by
 have pE:(iJ.gs l).length=l.length:=by simp[iJ.jd]
 have lL:∀v∈l.flatMap (jt kd),mc v∧iY v=kd:=λv hv=>by obtain⟨t,ht,hv⟩:=dS.1 hv;exact mT (oJ t ht) v hv
 have aeM:∀n,Ds Tryz.prog 38 [.lK 0 n,.g (.raw (.func (.func 29) #[] #[]))] ⟨[],[],[.arr n 27 (iD.gs (l.flatMap (jt kd)))]⟩
  λv H'=>v=.tuple []∧∃L':List iD,L'.Perm (l.flatMap (jt kd))∧L'.Pairwise (λx y=>¬oF kd y x)∧H'=⟨[],[],[.arr n 27 (iD.gs L')]⟩:=λn=>aaE xY lL ab
 refine ET func13 rfl rfl (rs:=_) rfl (bz aj) ?_;(repeat first|refine' wb|refine xU [4] rfl ?_);refine R9 1 0 27 (SZ rfl) rfl rfl ?_;(try refine' uD);refine jf (S:=Nat) (λi=>iL [(0,av (iJ.gs l)),(5,.ptr 1 0),(6,.ptr 2 0),(9,av (iJ.gs l)),(10,aq l.length),(11,aq i)])
  (λi=>⟨[[aq kd],[.lK 0 ((l.take i).flatMap (jt kd)).length],[.mU (.func 37) [] [.ptr 2 0,.ptr 0 0,.ptr 1 0]]],[],[.arr ((l.take i).flatMap (jt kd)).length 27 (((l.take i).flatMap (jt kd)).map iD.g)]⟩) (λi=>i<=l.length) (λi=>l.length-i) 0 (bm _)
  (iE.le (aC ⟨.inl (aT (λk:Nat=>aq k) pE),an⟩)) aJ (λi hi=>?_)
 (try refine' uD);refine' sQ<;>intro h
 ·have iI:i<l.length:=by have:=aU h;omega
  have hg:(iJ.gs l)[((i:Int)).toNat]?=some l[i].g:=by rw[iJ.jd];exact lg iI
  have vO:=oy (f:=jt kd) iI;have hle:((l.take (i+1)).flatMap (jt kd)).length<=(l.flatMap (jt kd)).length:=by have:=aT (λl=>(l.flatMap (jt kd)).length) (cA (i+1) l);simp only[eI,bd]at this;omega
  rw[vO,bd]at hle;have he:=UG xY 4 l[i] ((l.take i).flatMap (jt kd)).length (((l.take i).flatMap (jt kd)).map iD.g) (oJ _ (bJ iI)) (hz _ (bJ iI)) aa ab;rw[<-bd,<-eU,<-vO]at he;unfold F8 at he;generalize l[i]=x at hg he;obtain⟨x0,⟨y0,y1,y2,y3,y4,y5⟩,⟨z0,z1,z2,z3,z4,z5⟩,x3,x4,x5⟩:=x;generalize WL:((l.take i).flatMap (jt kd)).length=L1 at *
  generalize D5:((l.take (i+1)).flatMap (jt kd)).length=L2 at *
  generalize((l.take i).flatMap (jt kd)).map iD.g=E1 at *
  generalize JE:((l.take (i+1)).flatMap (jt kd)).map iD.g=E2 at *
  clear h vO aeM;(repeat first|refine' wc|(refine' oX;(first|exact cM [] he|exact jA (q:=aI hg));exact kq)|refine' xW [0,2]);exact⟨i+1,iI,by omega,iE.le (aD ⟨.inl (aT aq (jD ab)),trivial⟩),kW.of_eq (by rw[D5,JE])⟩
 ·have lk:i=l.length:=by have:=aX h;omega
  subst lk;rw[du,<-iD.jd];clear h;have ud:∀(L':List iD) (n:Nat),L'.Perm (l.flatMap (jt kd))->al 39 [.lK 0 n,.g (.raw (.func (.func 40) #[] #[]))] ⟨[],[],[.arr n 27 (iD.gs L')]⟩ (av (iD.gs (nG pM L'))) ⟨[],[],[.gone (n+1)]⟩:=λL' n hp=>SV (by rw[hp.length_eq];omega);(repeat first|refine' wb|refine xU [9] rfl ?_);refine uw ?_;refine pY (l1:=[_]) (l2:=[]) rfl (λt h=>by cases h;decide) ?_;(try refine' uD);refine⟨_,xi [] rfl rfl amJ rfl (K2 (aeM _) [] [] [0] rfl rfl rfl rfl rfl),?_⟩;rintro v H' ⟨v0,H0,⟨rfl,L',hp,hs,rfl⟩,rfl,rfl⟩;have ud:=ud L' (l.flatMap (jt kd)).length hp;(repeat first|refine' uD|(refine' oX;exact cd [] rfl rfl amK ud rfl rfl rfl rfl rfl rfl rfl rfl rfl rfl rfl;exact kq));refine⟨_,_,⟨rfl,L',hp,hs,rfl⟩,?_⟩;refine' rT;all_goals rfl
def abf(s:ByteArray)(hs:s.size<=maxLen):ak 82 [ay s] (ax (VD s)):=V6 s hs
def W3(hz:∀t∈l,mJ t.g)(hl:l.length<=20)(oJ:∀t∈l,lp 4 t):Ds Tryz.prog 13 [av (iJ.gs l),aq 3] ⟨[],[],[]⟩
  λv H'=>H'=⟨[],[],[]⟩∧∃C:List iD,C.map ow=ku (l.flatMap jF)∧(∀v∈C,mc v∧iY v=3)∧C.length<=100000000∧v= av (iD.gs C):=by
 have e1:(l.flatMap (jt 3)).map ow=l.flatMap jF:=by rw[List.map_flatMap];rfl
 have hc:=pU hl oJ;have hg:∀v∈l.flatMap (jt 3),mc v∧iY v=3:=λv hv=>by obtain⟨t,ht,hv⟩:=dS.1 hv;exact mT (oJ t ht) v hv
 refine(Mb (.inl rfl) hz hl oJ (by rw[<-e1,dm]at hc;exact hc)).mono ?_;rintro v H' ⟨rfl,L',hp,hs,rfl⟩;obtain⟨k1,k2⟩:=aaF hg hp hs;rw[e1]at k1;refine⟨rfl,_,k1,k2,?_,rfl⟩;have h1:=aT List.length k1;have h2:=kH (lt:=λa b=>decide (a<b)) (l.flatMap jF) [];rw[bH,bc]at h2;rw[dm]at h1;have h3:(ku (l.flatMap jF)).length<=(l.flatMap jF).length:=h2;omega
def SX(hz:∀t∈l,mJ t.g)(hl:l.length<=20)(oJ:∀t∈l,lp 4 t):Ds Tryz.prog 13 [av (iJ.gs l),aq 4] ⟨[],[],[]⟩
  λv H'=>H'=⟨[],[],[]⟩∧∃C:List iD,C.map nN=ko (l.flatMap jj)∧(∀v∈C,mc v∧iY v=4)∧C.length<=100000000∧v= av (iD.gs C):=by
 have e1:(l.flatMap (jt 4)).map nN=l.flatMap jj:=by rw[List.map_flatMap];rfl
 have hc:=oN hl oJ;have hg:∀v∈l.flatMap (jt 4),mc v∧iY v=4:=λv hv=>by obtain⟨t,ht,hv⟩:=dS.1 hv;exact mT (oJ t ht) v hv
 refine(Mb (.inr rfl) hz hl oJ (by rw[<-e1,dm]at hc;exact hc)).mono ?_;rintro v H' ⟨rfl,L',hp,hs,rfl⟩;obtain⟨k1,k2⟩:=W0 hg hp hs;rw[e1]at k1;refine⟨rfl,_,k1,k2,?_,rfl⟩;have h1:=aT List.length k1;have h2:=kH (lt:=λa b=>Op.bytesLess a b) (l.flatMap jj) [];rw[bH,bc]at h2;rw[dm]at h1;have h3:(ko (l.flatMap jj)).length<=(l.flatMap jj).length:=h2;omega
def Mc(kd:Int)(hz:∀t∈l,mJ t.g)(Ef:l.length<=maxLen):ak 4 [aq kd,av (iJ.gs l)] (.tuple [av (kN VD kd l).1,aq (kN VD kd l).2]):=by
 have pE:(iJ.gs l).length=l.length:=by simp[iJ.jd]
 by_cases hk:kd=2∨kd=3∨kd=4;rotate_left
 ·have hR:kN VD kd l=([],1):=by unfold kN;rw[aW ab]
  rw[hR];have e2:(kd !=2)=true:=dO.2 ab;have e3:(kd !=3)=true:=dO.2 ab;have e4:(kd !=4)=true:=dO.2 ab;refine' eN func4;(try refine' uN);refine' sQ<;>intro h;rotate_left;exfalso;rw[e2]at h;cases h;clear h;(try refine' uN);refine' sQ<;>intro h;rotate_left;exfalso;rw[e3]at h;cases h;clear h;(try refine' uN);refine' sQ<;>intro h;rotate_left;exfalso;rw[e4]at h;cases h;clear h;(try refine' uN);refine' rE;all_goals rfl
 by_cases h20:20<l.length
 ·have hR:kN VD kd l=([],5):=by unfold kN;rw[aV ab,aW h20]
  rw[hR];rcases hk with rfl|rfl|rfl
  all_goals
   refine' eN func4
   (try refine' uN)
   refine' sQ<;>intro h
   rotate_left
   ·exfalso;have:=aX h;rw[pE]at this;omega
   clear h
   (try refine' uN)
   refine' rE
  all_goals rfl
 have hR:kN VD kd l=if kB VD kd l≠0 then([],kB VD kd l)else if kd=2 then([(rU false).g,(rU true).g],0)else if kd=3 then(uP (ku (l.flatMap jF)),0)
   else if Rz (ko (l.flatMap jj))=true then([],4)else(iD.gs ((jZ (ko (l.flatMap jj))).map km),0):=by
  unfold kN;rw[aV ab,aV h20]
 generalize Q9:kN VD kd l=R at hR⊢;clear Q9;rcases hk with rfl|rfl|rfl
 ·refine' eN func4;(try refine' uN);refine' sQ<;>intro h;exfalso;have:=aU h;rw[pE]at this;omega;clear h;(try refine' uN);refine jK (S:=Nat) (λi=>[(0,aq 2),(1,av (iJ.gs l)),(22,av (iJ.gs l)),(23,aq l.length),(24,aq i)]) (λ_=>⟨[],[],[]⟩)
   (λi=>i<=l.length∧kB VD 2 l=kB VD 2 (l.drop i)∧∀t∈l.take i,lp 4 t) (λi=>l.length-i) 0 ⟨bm _,rfl,λt ht=>absurd ht cF⟩
   (iE.le (aB ⟨.inl (aT (λk:Nat=>aq k) pE),an⟩)) aJ (λ_=>rfl) (λi hi=>?_)
  obtain⟨hi,jU,lL⟩:=hi;(try refine' uN);refine' sQ<;>intro h
  ·have iI:i<l.length:=by have:=aU h;omega
   have hg:(iJ.gs l)[((i:Int)).toNat]?=some l[i].g:=(by rw[iJ.jd];exact lg iI);have hw:=Fm abf l[i] (hz _ (bJ iI));rw[bY iI,kB]at jU;have sy:kG VD l[i] 1=0->lp 4 l[i]:=λq=>nH 4 q rfl;clear h;by_cases nn:kG VD l[i] 1=0
   ·have oJ:=sy nn;rw[aV (dM nn)]at jU;rw[nn]at hw;have pz:∀t∈l.take (i+1),lp 4 t:=λt ht=>by
     rw[b7 iI]at ht;rcases bC.1 ht with ht|ht
     exact lL t ht;rw[db.1 ht];exact oJ
    have hf:=λty=>Dr (ty:=ty) 4 l[i] oJ;split at jU;rename_i nP;have hf:=hf 2;rw[nP]at hf;clear sy;generalize l[i]=x at hg hw hf;obtain⟨x0,⟨y0,y1,y2,y3,y4,y5⟩,⟨z0,z1,z2,z3,z4,z5⟩,x3,x4,x5⟩:=x;(repeat first|refine' uN|refine oQ (iV hw) ?_|refine oQ (iV hf) ?_|refine oQ (jA (q:=aI hg)) ?_);exact⟨i+1,⟨iI,jU,pz⟩,by omega,iE.le (aC ⟨.inl (aT aq (jD ab)),trivial⟩),lq.mk [_] [] [] rfl⟩
    ·rename_i nP;have hf:=hf 2;rw[fO]at nP;rw[nP]at hf;rw[jU,aW af]at hR;subst hR;clear sy;generalize l[i]=x at hg hw hf;obtain⟨x0,⟨y0,y1,y2,y3,y4,y5⟩,⟨z0,z1,z2,z3,z4,z5⟩,x3,x4,x5⟩:=x;(repeat first|refine' uN|refine oQ (iV hw) ?_|refine oQ (iV hf) ?_|refine oQ (jA (q:=aI hg)) ?_);refine' rE;all_goals rfl
   ·rw[aW nn]at jU;rw[jU,aW nn]at hR;subst hR;clear sy;generalize kG VD l[i] 1=w at *
    generalize l[i]=x at hg hw;obtain⟨x0,⟨y0,y1,y2,y3,y4,y5⟩,⟨z0,z1,z2,z3,z4,z5⟩,x3,x4,x5⟩:=x;have js:(w !=0)=true:=(by simpa using nn);(repeat first|refine' uN|refine oQ (iV hw) ?_|refine oQ (jA (q:=aI hg)) ?_);refine' sQ<;>intro h
    ·(try refine' uN);refine' rE;all_goals rfl
    exfalso;rw[js]at h;cases h
  have lk:i=l.length:=by have:=aX h;omega
  subst lk;rw[dv,kB]at jU;rw[jU,aV af]at hR;rw[du]at lL;clear h jU;rw[aW rfl]at hR;subst hR;have ri:=GC false;have G2:=GC true;(try refine' wl @ri @G2);refine' rE;all_goals rfl
 ·refine' eN func4;(try refine' uN);refine' sQ<;>intro h;exfalso;have:=aU h;rw[pE]at this;omega;clear h;(try refine' uN);refine jK (S:=Nat) (λi=>[(0,aq 3),(1,av (iJ.gs l)),(22,av (iJ.gs l)),(23,aq l.length),(24,aq i)]) (λ_=>⟨[],[],[]⟩)
   (λi=>i<=l.length∧kB VD 3 l=kB VD 3 (l.drop i)∧∀t∈l.take i,lp 4 t) (λi=>l.length-i) 0 ⟨bm _,rfl,λt ht=>absurd ht cF⟩
   (iE.le (aB ⟨.inl (aT (λk:Nat=>aq k) pE),an⟩)) aJ (λ_=>rfl) (λi hi=>?_)
  obtain⟨hi,jU,lL⟩:=hi;(try refine' uN);refine' sQ<;>intro h
  ·have iI:i<l.length:=by have:=aU h;omega
   have hg:(iJ.gs l)[((i:Int)).toNat]?=some l[i].g:=(by rw[iJ.jd];exact lg iI);have hw:=Fm abf l[i] (hz _ (bJ iI));rw[bY iI,kB]at jU;have sy:kG VD l[i] 1=0->lp 4 l[i]:=λq=>nH 4 q rfl;clear h;by_cases nn:kG VD l[i] 1=0
   ·have oJ:=sy nn;rw[aV (dM nn)]at jU;rw[nn]at hw;have pz:∀t∈l.take (i+1),lp 4 t:=λt ht=>by
     rw[b7 iI]at ht;rcases bC.1 ht with ht|ht
     exact lL t ht;rw[db.1 ht];exact oJ
    have hf:=λty=>Dr (ty:=ty) 4 l[i] oJ;split at jU;rename_i nP;have hf:=hf 3;rw[nP]at hf;clear sy;generalize l[i]=x at hg hw hf;obtain⟨x0,⟨y0,y1,y2,y3,y4,y5⟩,⟨z0,z1,z2,z3,z4,z5⟩,x3,x4,x5⟩:=x;(repeat first|refine' uN|refine oQ (iV hw) ?_|refine oQ (iV hf) ?_|refine oQ (jA (q:=aI hg)) ?_);exact⟨i+1,⟨iI,jU,pz⟩,by omega,iE.le (aC ⟨.inl (aT aq (jD ab)),trivial⟩),lq.mk [_] [] [] rfl⟩
    ·rename_i nP;have hf:=hf 3;rw[fO]at nP;rw[nP]at hf;rw[jU,aW af]at hR;subst hR;clear sy;generalize l[i]=x at hg hw hf;obtain⟨x0,⟨y0,y1,y2,y3,y4,y5⟩,⟨z0,z1,z2,z3,z4,z5⟩,x3,x4,x5⟩:=x;(repeat first|refine' uN|refine oQ (iV hw) ?_|refine oQ (iV hf) ?_|refine oQ (jA (q:=aI hg)) ?_);refine' rE;all_goals rfl
   ·rw[aW nn]at jU;rw[jU,aW nn]at hR;subst hR;clear sy;generalize kG VD l[i] 1=w at *
    generalize l[i]=x at hg hw;obtain⟨x0,⟨y0,y1,y2,y3,y4,y5⟩,⟨z0,z1,z2,z3,z4,z5⟩,x3,x4,x5⟩:=x;have js:(w !=0)=true:=(by simpa using nn);(repeat first|refine' uN|refine oQ (iV hw) ?_|refine oQ (jA (q:=aI hg)) ?_);refine' sQ<;>intro h
    ·(try refine' uN);refine' rE;all_goals rfl
    exfalso;rw[js]at h;cases h
  have lk:i=l.length:=by have:=aX h;omega
  subst lk;rw[dv,kB]at jU;rw[jU,aV af]at hR;rw[du]at lL;clear h jU;rw[aV af,aW rfl]at hR;subst hR;have hed:=W3 hz ab lL;(repeat first|refine' wa|refine xU [18] rfl ?_);refine uw ?_;refine pY (l1:=[_]) (l2:=[_,_,_]) rfl (λt h=>by cases h;decide) ?_;(try refine' uN);refine⟨_,xi [] rfl rfl (EN rfl) rfl hed,?_⟩;rintro v H' ⟨rfl,C,h1,h2,h3,rfl⟩;have hn:=SU h1 h2 h3;(try refine' wk @hn);refine' rE;all_goals rfl
 ·refine' eN func4;(try refine' uN);refine' sQ<;>intro h;exfalso;have:=aU h;rw[pE]at this;omega;clear h;(try refine' uN);refine jK (S:=Nat) (λi=>[(0,aq 4),(1,av (iJ.gs l)),(22,av (iJ.gs l)),(23,aq l.length),(24,aq i)]) (λ_=>⟨[],[],[]⟩)
   (λi=>i<=l.length∧kB VD 4 l=kB VD 4 (l.drop i)∧∀t∈l.take i,lp 4 t) (λi=>l.length-i) 0 ⟨bm _,rfl,λt ht=>absurd ht cF⟩
   (iE.le (aB ⟨.inl (aT (λk:Nat=>aq k) pE),an⟩)) aJ (λ_=>rfl) (λi hi=>?_)
  obtain⟨hi,jU,lL⟩:=hi;(try refine' uN);refine' sQ<;>intro h
  ·have iI:i<l.length:=by have:=aU h;omega
   have hg:(iJ.gs l)[((i:Int)).toNat]?=some l[i].g:=(by rw[iJ.jd];exact lg iI);have hw:=Fm abf l[i] (hz _ (bJ iI));rw[bY iI,kB]at jU;have sy:kG VD l[i] 1=0->lp 4 l[i]:=λq=>nH 4 q rfl;clear h;by_cases nn:kG VD l[i] 1=0
   ·have oJ:=sy nn;rw[aV (dM nn)]at jU;rw[nn]at hw;have pz:∀t∈l.take (i+1),lp 4 t:=λt ht=>by
     rw[b7 iI]at ht;rcases bC.1 ht with ht|ht
     exact lL t ht;rw[db.1 ht];exact oJ
    have hf:=λty=>Dr (ty:=ty) 4 l[i] oJ;split at jU;rename_i nP;have hf:=hf 4;rw[nP]at hf;clear sy;generalize l[i]=x at hg hw hf;obtain⟨x0,⟨y0,y1,y2,y3,y4,y5⟩,⟨z0,z1,z2,z3,z4,z5⟩,x3,x4,x5⟩:=x;(repeat first|refine' uN|refine oQ (iV hw) ?_|refine oQ (iV hf) ?_|refine oQ (jA (q:=aI hg)) ?_);exact⟨i+1,⟨iI,jU,pz⟩,by omega,iE.le (aC ⟨.inl (aT aq (jD ab)),trivial⟩),lq.mk [_] [] [] rfl⟩
    ·rename_i nP;have hf:=hf 4;rw[fO]at nP;rw[nP]at hf;rw[jU,aW af]at hR;subst hR;clear sy;generalize l[i]=x at hg hw hf;obtain⟨x0,⟨y0,y1,y2,y3,y4,y5⟩,⟨z0,z1,z2,z3,z4,z5⟩,x3,x4,x5⟩:=x;(repeat first|refine' uN|refine oQ (iV hw) ?_|refine oQ (iV hf) ?_|refine oQ (jA (q:=aI hg)) ?_);refine' rE;all_goals rfl
   ·rw[aW nn]at jU;rw[jU,aW nn]at hR;subst hR;clear sy;generalize kG VD l[i] 1=w at *
    generalize l[i]=x at hg hw;obtain⟨x0,⟨y0,y1,y2,y3,y4,y5⟩,⟨z0,z1,z2,z3,z4,z5⟩,x3,x4,x5⟩:=x;have js:(w !=0)=true:=(by simpa using nn);(repeat first|refine' uN|refine oQ (iV hw) ?_|refine oQ (jA (q:=aI hg)) ?_);refine' sQ<;>intro h
    ·(try refine' uN);refine' rE;all_goals rfl
    exfalso;rw[js]at h;cases h
  have lk:i=l.length:=by have:=aX h;omega
  subst lk;rw[dv,kB]at jU;rw[jU,aV af]at hR;rw[du]at lL;clear h jU;rw[aV af,aV af]at hR;have hed:=SX hz ab lL;(repeat first|refine' wa|refine xU [19] rfl ?_);refine uw ?_;refine pY (l1:=[_]) (l2:=[_,_,_,_,_]) rfl (λt h=>by cases h;decide) ?_;(try refine' uN);refine⟨_,xi [] rfl rfl (EN rfl) rfl hed,?_⟩;rintro v H' ⟨rfl,C,h1,h2,h3,rfl⟩;have hn:=aaB h1 h2 h3 hR;(try refine' wk @hn);refine' rE;all_goals rfl
def Bb(W:List GV)(v:iD):PH:=⟨[[av W],v.g.cells.map PV.g],[],[]⟩
variable{W:List GV}
def P3{x:iD}(h:W[i]?=some x.g):al 28 [aq i,.ptr 0 0,.ptr 1 0] (Bb W v) (ax (decide (ya x v≥0))) (Bb W v):=by
 have ho:=zW x v;have h:W[(i:Int).toNat]?=some x.g:=h;unfold Bb;generalize ya x v=r at *
 obtain⟨x0,x1,x2,x3,x4,x5⟩:=x;obtain⟨v0,v1,v2,v3,v4,v5⟩:=v;refine' eN func28;(repeat first|refine' uD|(refine' oX;(first|exact iV ho|exact jA (q:=aI h));exact kq));refine' rB;all_goals rfl
def RN:nI Tryz.prog 27=true:=aj
def Md{r:Nat}(hf:∀i,i<n->al 28 [aq i,.ptr 0 0,.ptr 1 0] (Bb W v) (ax (decide (r<=i))) (Bb W v))(hr:r<=n)(hn:n<=1000000000):
  al 27 [aq n,.mU (.func 28) [] [.ptr 0 0,.ptr 1 0]] (Bb W v) (aq r) (Bb W v):=by
 unfold Bb at *
 obtain⟨v0,v1,v2,v3,v4,v5⟩:=v;refine' eN func27;(try refine' uN);refine jf (S:=Nat×Nat) (λs=>iL [(1,.mU (.func 28) [] [.ptr 0 0,.ptr 1 0]),(5,aq s.1),(6,aq s.2)]) (λ_=>⟨[[av W],(iD.mk v0 v1 v2 v3 v4 v5).g.cells.map PV.g],[],[]⟩)
  (λs=>s.1<=r∧r<=s.2∧s.2<=n) (λs=>s.2-s.1) (0,n) ⟨bm _,hr,aZ _⟩ (iE.le an) aJ (λs hi=>?_)
 obtain⟨lo,hi⟩:=s;obtain⟨h1,h2,h3⟩:=hi;dsimp only at h1 h2 h3;(try refine' uN);refine' sQ<;>intro h
 ·have iI:lo<hi:=by have:=aU h;dsimp only at this;omega
  clear h;(repeat first|refine' wa|refine oQ jH ?_|refine xU [4] rfl ?_);have hm:lo<=(lo+hi)/2∧(lo+hi)/2<hi:=ab
  have hfm:=hf ((lo+hi)/2) ab;refine ja (env':=iL [(1,.mU (.func 28) [] [.ptr 0 0,.ptr 1 0]),(5,aq lo),(6,aq hi),(7,aq ((lo+hi)/2:Nat))]) (H':=⟨[[av W],(iD.mk v0 v1 v2 v3 v4 v5).g.cells.map PV.g],[],[]⟩) (iE.le (aB ⟨.inl ?_,trivial⟩)) aJ ?_
  ·show _=aq ((lo+hi)/2:Nat);refine aT aq (?_:i64.wrap ((u64.wrap (i64.wrap ((lo:Int)+hi))).fdiv (2^min (1:Int).toNat u64.bits))=((lo+hi)/2:Nat));have hW:lo+hi<WB:=by
    have:(1000000000:Nat)*2<WB:=af;omega
   rw[jD (n:=(lo:Int)+hi) ab,jz (n:=lo+hi) ab hW,show min (1:Int).toNat u64.bits=1 from rfl,fM _ af,jD ab];omega
  generalize(lo+hi)/2=m at *
  (try refine' we @hfm);refine' sQ<;>intro h
  ·have hlr:m<r:=by have:=h;simp at this;omega
   clear h;(try refine' uN);exact⟨(m+1,hi),⟨by dsimp only;omega,h2,h3⟩,by dsimp only;omega,iE.le ⟨.inl rfl,.inl (aT aq (jD ab)),an⟩,aJ⟩
  ·have hlr:r<=m:=by have:=h;simp at this;omega
   clear h;(try refine' uN);exact⟨(lo,m),⟨h1,hlr,by dsimp only;omega⟩,by dsimp only;omega,iE.le an,aJ⟩
 ·have iI:lo=r:=by have:=aX h;dsimp only at this;omega
  subst iI;clear h;(try refine' uN);refine' rB;all_goals rfl
variable{y':Bool}{c' e':Int}{t':ByteArray}{l':List iD}
def UH{l:List iD}(h:iZ c e=0)(h':iZ c' e'=0):ya (.mk 3 y c e t l) (.mk 3 y' c' e' t' l')=if iR c e<iR c' e' then -1 else if iR c' e'<iR c e then 1 else 0:=by
 have a:=(jT h).1;have b:=(jT h').1;have e1:ty (pA (.mk 3 y c e t l) (.mk 3 y' c' e' t' l'))=true↔iR c e<iR c' e':=by rw[xd,aW ⟨rfl,rfl⟩,aV (by rw[h,h'];simp),NW,decide_eq_true_iff,vM ab ab,CD]
 have e2:ty (pA (.mk 3 y' c' e' t' l') (.mk 3 y c e t l))=true↔iR c' e'<iR c e:=by rw[xd,aW ⟨rfl,rfl⟩,aV (by rw[h,h'];simp),NW,decide_eq_true_iff,vM ab ab,CD]
 unfold ya;simp only[e1,e2]
def P4{l:List iD}:ya (.mk 4 y c e t l) (.mk 4 y' c' e' t' l')=if Op.bytesLess t.toList t'.toList=true then -1 else if Op.bytesLess t'.toList t.toList=true then 1 else 0:=by
 have e1:∀(y y':Bool) (c e c' e':Int) (t t':ByteArray) (l l':List iD),ty (pA (.mk 4 y c e t l) (.mk 4 y' c' e' t' l'))=Op.bytesLess t.toList t'.toList:=λy y' c e c' e' t t' l l'=>by rw[xd,aV af,aW ⟨rfl,rfl⟩,NW]
 unfold ya;rw[e1,e1]
def UI:∀{P:List TX} {v:TX} {i:Nat} {p:TX},mD P->P[i]?=some p->(Op.bytesLess p v=true↔i<wI P v)
 |[],_,_,_,_,h=>by simp at h|a::r,v,0,p,_,h=>by simp at h;subst h;rw[wI];split;rename_i q;exact⟨λ_=>Nat.succ_pos _,λ_=>q⟩;rename_i q;exact⟨λk=>absurd k q,λk=>absurd k (Nat.lt_irrefl 0)⟩
 |a::r,v,i+1,p,hr,h=>by
  obtain⟨kP,ha⟩:=pX hr;have h':r[i]?=some p:=by simpa using h
  have ih:=UI (v:=v) kP h';rw[wI];split;rw[ih];omega;rename_i q;refine⟨λk=>absurd (s7 (ha p (aY h')) k) q,λk=>absurd k (Nat.not_lt_zero _)⟩
def Mbi:Tryz.prog.underlying 60=some (.map 4 3):=aj
def Ubb:Tryz.prog.underlying 4=some .bool:=aj
def aaG(kd:Int)(hz:∀t∈l,mJ t.g)(Ef:l.length<=maxLen)(Hi:mJ v.g):ak 7 [aq kd,av (iJ.gs l),.g v.g] (.tuple [aq (qx VD kd l v).1,aq (qx VD kd l v).2]):=by
 have hP:=Mc kd hz Ef;have hW:=PD abf v Hi;by_cases he:(kN VD kd l).2=0;rotate_left
 ·have hR:qx VD kd l v=(0,(kN VD kd l).2):=by unfold qx;rw[aW he]
  rw[hR];clear hR;generalize(kN VD kd l).2=er at *
  generalize(kN VD kd l).1=W at *
  have js:(er !=0)=true:=by simpa using he
  obtain⟨v0,v1,v2,v3,v4,v5⟩:=v;refine' eN func7;(try refine' wn @hP);refine' sQ<;>intro h;rotate_left;exfalso;rw[js]at h;cases h;(try refine' uD);refine' rE;all_goals rfl
 obtain⟨x0,sJ,zo⟩:=Lj he;obtain⟨hk,GM,jU⟩:=vU he;have pn:=xj he;rw[he]at hP;by_cases hv:(kJ VD v 0 1).2=0;rotate_left
 ·have hR:qx VD kd l v=(0,(kJ VD v 0 1).2):=by unfold qx;rw[aV (dM he),aW hv]
  rw[hR];clear hR pn;generalize(kJ VD v 0 1).2=er at *
  generalize(kN VD kd l).1=W at *
  have js:(er !=0)=true:=by simpa using hv
  obtain⟨v0,v1,v2,v3,v4,v5⟩:=v;refine' eN func7;(try refine' wo @hP @hW);refine' sQ<;>intro h;rotate_left;exfalso;rw[js]at h;cases h;(try refine' uD);refine' rE;all_goals rfl
 have hR:qx VD kd l v=if iY v≠kd then(0,9)else if kd=2 then((if Vz v=true then 1 else 0),0)else if kd=3 then(((mN (ku (l.flatMap jF)) (ow v):Nat):Int),0)else(((vP (ko (l.flatMap jj)) (nN v):Nat):Int),0):=by unfold qx;rw[aV (dM he),aV (dM hv)]
 generalize Q9:qx VD kd l v=R at hR⊢;clear Q9;have GN:((kN VD kd l).1)[(0:Int).toNat]?=some x0.g:=sJ;rw[hv]at hW;by_cases zM:iY v=kd;rotate_left
 ·rw[aW zM]at hR;subst hR;clear pn;generalize(kN VD kd l).1=W at *
  have js:(iY v !=iY x0)=true:=by rw[zo];simpa using zM
  obtain⟨v0,v1,v2,v3,v4,v5⟩:=v;obtain⟨x0,x1,x2,x3,x4,x5⟩:=x0;refine' eN func7;(repeat first|refine' uD|(refine' oX;(first|exact iV hP|exact iV hW|exact jA (q:=aI GN));exact kq));refine' sQ<;>intro h;rotate_left;exfalso;rw[show(v0 !=x0)=true from js]at h;cases h;(try refine' uD);refine' rE;all_goals rfl
 rw[aV (dM zM)]at hR;have heq:(iY v !=iY x0)=false:=by rw[zo,zM];simp
 rcases hk with rfl|rfl|rfl
 ·rw[aW rfl]at hR;clear pn;generalize(kN VD 2 l).1=W at *
  obtain⟨v0,v1,v2,v3,v4,v5⟩:=v;obtain⟨x0,x1,x2,x3,x4,x5⟩:=x0;have hR:R=if v1=true then(1,0)else(0,0):=by rw[hR];show(if v1=true then(1:Int)else 0,(0:Int))=_;split<;>rfl
  subst hR;cases v1;all_goals
   refine' eN func7
   (repeat first|refine' uD|(refine' oX;(first|exact iV hP|exact iV hW|exact jA (q:=aI GN));exact kq))
   refine' sQ<;>intro h
   ·exfalso;rw[show(v0 !=x0)=false from heq]at h;cases h
   clear h
   (repeat first|refine' uD|(refine' oX;(first|exact yF rfl|exact AE rfl Mbi Ubb rfl rfl rfl rfl rfl rfl|exact Kn rfl Mbi Ubb (ZR rfl) rfl rfl rfl rfl rfl rfl);exact kq))
   refine' rE
  all_goals rfl
 ·rw[aV af,aW rfl]at hR pn;have Fk:∀k∈ku (l.flatMap jF),SmallK k:=λk hk=>(EP jU k hk).2;have ub:=(si (l.flatMap jF)).1;have UE:(ku (l.flatMap jF)).length<=6400000:=by
   have h1:=kH (lt:=λa b=>decide (a<b)) (l.flatMap jF) [];have h2:=pU GM λt ht=>nH 4 (nU jU t ht).1 rfl;rw[bH,bc]at h1;exact b8 h1 h2
  have L3:=Qc Fk;have zu:=RW (v:=ow v) (show(0:Int)<mh by decide) ub L3;have hPr:=JA (show(0:Int)<mh by decide) ub L3;have wD:=λi (hi:i<(jN mh pf (ku (l.flatMap jF))).length)=>MC Fk hi;have Ui:(kN VD 3 l).1.length=(jN mh pf (ku (l.flatMap jF))).length:=by rw[pn,wK,mZ]
  have hPl:(jN mh pf (ku (l.flatMap jF))).length=2*(ku (l.flatMap jF)).length+1:=mZ ..;rw[<-pn]at wD;rw[<-zu]at hR;have Jt:=Ad (jN mh pf (ku (l.flatMap jF))) (ow v);unfold Np at hR;generalize(kN VD 3 l).1=W at *
  generalize jN mh pf (ku (l.flatMap jF))=P at *
  clear L3 zu Fk pn jU ub;have hlen:P.length<=100000000:=ab
  have jX:1<=P.length:=ab
  clear hPl UE;obtain⟨v0,v1,v2,v3,v4,v5⟩:=v;have ox:v0=3:=zM;subst ox;have IE:=xP hv;have afu:∀i k,P[i]?=some k->(k<iR v2 v3↔i<mg P (iR v2 v3)):=λi k h=>uk hPr h;rw[show ow (.mk 3 v1 v2 v3 v4 v5)=iR v2 v3 from rfl]at hR Jt;generalize mg P (iR v2 v3)=r at *
  have hf:∀i,i<W.length->al 28 [aq i,.ptr 0 0,.ptr 1 0] (Bb W (.mk 3 v1 v2 v3 v4 v5)) (ax (decide (r<=i))) (Bb W (.mk 3 v1 v2 v3 v4 v5)):=λi hi=>by obtain⟨k,a1,a2,c,e,a3,rfl⟩:=wD i ab;have h:=P3 (v:=.mk 3 v1 v2 v3 v4 v5) a2;have hc:=afu i _ a1;rw[CG a3,UH a3 IE]at h;rwa[show decide ((if iR c e<iR v2 v3 then(-1:Int)else if iR v2 v3<iR c e then 1 else 0)≥0)=decide (r<=i)from gw.2 (by split<;>(try split)<;>omega)]at h
  have hs:=Md hf ab ab;unfold Bb at hs;clear hf;by_cases hrP:r=W.length
  ·rw[aW ab]at hR;have IZ:((r:Int)==(W.length:Int))=true:=bQ.2 ab;obtain⟨x0,x1,x2,x3,x4,x5⟩:=x0;subst hR;refine' eN func7;(repeat first|refine' uD|(refine' oX;(first|exact iV hP|exact iV hW|exact jA (q:=aI GN));exact kq));refine' sQ<;>intro h;exfalso;rw[show((3:Int) !=x0)=false from heq]at h;cases h;clear h;(repeat first|refine' uD|(refine' oX;exact cd [] rfl rfl RN hs rfl rfl rfl rfl rfl rfl rfl rfl rfl rfl rfl;exact kq));refine' sQ<;>intro h;rotate_left;exfalso;rw[IZ]at h;cases h;clear h;(try refine' uD);refine' rE;refine aT (λz=>GV.int .i64 z) ?_;show i64.wrap ((r:Int)-1)=_;rw[jD ab];omega;all_goals rfl
  ·rw[aV ab]at hR;have IZ:((r:Int)==(W.length:Int))=false:=bk.2 ab;obtain⟨k,a1,a2,c,e,a3,rfl⟩:=wD r ab;have ho:=zW (kn (iR c e)) (.mk 3 v1 v2 v3 v4 v5);have hO:=UH (y:=false) (t:=⟨#[]⟩) (l:=[]) (y':=v1) (t':=v4) (l':=v5) a3 IE;rw[CG a3]at a2 ho;have a2:W[(r:Int).toNat]?=some (iD.mk 3 false c e ⟨#[]⟩ []).g:=a2;generalize ya (.mk 3 false c e ⟨#[]⟩ []) (.mk 3 v1 v2 v3 v4 v5)=o at *
   obtain⟨x0,x1,x2,x3,x4,x5⟩:=x0;simp only[a1,cg]at hR;by_cases hq:iR c e=iR v2 v3
   ·rw[aW (.inl hq)]at hR;subst hR;have ho0:(o==0)=true:=(by rw[hO,hq];simp);refine' eN func7;(repeat first|refine' uD|(refine' oX;(first|exact iV hP|exact iV hW|exact jA (q:=aI GN));exact kq));refine' sQ<;>intro h;exfalso;rw[show((3:Int) !=x0)=false from heq]at h;cases h;clear h;(repeat first|refine' uD|(refine' oX;exact cd [] rfl rfl RN hs rfl rfl rfl rfl rfl rfl rfl rfl rfl rfl rfl;exact kq));refine' sQ<;>intro h;exfalso;rw[IZ]at h;cases h;clear h;(repeat first|refine' uD|(refine' oX;(first|exact iV ho|exact jA (q:=aI a2));exact kq));refine' sQ<;>intro h;rotate_left;exfalso;rw[ho0]at h;cases h;clear h;(try refine' uD);refine' rE;all_goals rfl
   ·have ho0:(o==0)=false:=(by rw[hO];split<;>(try split)<;>first|rfl|omega);have hR:R=if r%2=0 then((r:Int),0)else((r:Int)-1,0):=by
     rw[hR];by_cases h2:r%2=0;rw[aW (.inr h2),aW h2];rw[aV (by rintro(q|q);exact hq q;exact h2 q),aV h2];refine Prod.ext ?_ rfl;show((r-1:Nat):Int)=(r:Int)-1;omega
    refine' eN func7;(repeat first|refine' uD|(refine' oX;(first|exact iV hP|exact iV hW|exact jA (q:=aI GN));exact kq));refine' sQ<;>intro h;exfalso;rw[show((3:Int) !=x0)=false from heq]at h;cases h;clear h;(repeat first|refine' uD|(refine' oX;exact cd [] rfl rfl RN hs rfl rfl rfl rfl rfl rfl rfl rfl rfl rfl rfl;exact kq));refine' sQ<;>intro h;exfalso;rw[IZ]at h;cases h;clear h;(repeat first|refine' uD|(refine' oX;(first|exact iV ho|exact jA (q:=aI a2));exact kq));refine' sQ<;>intro h;exfalso;rw[ho0]at h;cases h;clear h;(repeat first|refine' uD|(refine' oX;exact jR;exact kq));refine' sQ<;>intro h
    ·have h2:r%2=0:=by
      have:=bQ.1 h;rw[Int.tmod_eq_emod_of_nonneg ab]at this;omega
     rw[aW h2]at hR;subst hR;(try refine' uD);refine' rE;all_goals rfl
    ·have h2:¬r%2=0:=by
      have:=bk.1 h;rw[Int.tmod_eq_emod_of_nonneg ab]at this;omega
     rw[aV h2]at hR;subst hR;(try refine' uD);refine' rE;refine aT (λz=>GV.int .i64 z) ?_;show i64.wrap ((r:Int)-1)=_;rw[jD ab];all_goals rfl
 ·rw[aV af,aV af]at hR pn;have ub:=(qP (l.flatMap jj)).1;have UE:(ko (l.flatMap jj)).length<=6400000:=by
   have h1:=kH (lt:=λa b=>Op.bytesLess a b) (l.flatMap jj) [];have h2:=oN GM λt ht=>nH 4 (nU jU t ht).1 rfl;rw[bH,bc]at h1;exact b8 h1 h2
  have zu:=P8 (v:=nN v) ub;have hPr:=tM ub;have hP0:(jZ (ko (l.flatMap jj)))[0]?=some []:=rfl;have hPl:(jZ (ko (l.flatMap jj))).length<=2*(ko (l.flatMap jj)).length+1:=by have:=wL (ko (l.flatMap jj)) [];rw[jZ,bu];omega
  rw[<-zu]at hR;have Jt:=Mz (jZ (ko (l.flatMap jj))) (nN v);unfold Xh at hR;generalize(kN VD 4 l).1=W at *
  generalize jZ (ko (l.flatMap jj))=P at *
  have wD:∀i p,P[i]?=some p->W[i]?=some (km p).g:=λi p h=>by rw[pn,iD.jd,bj,bj,h];rfl
  have Ui:W.length=P.length:=by rw[pn,iD.jd,dm,dm]
  clear zu pn jU ub;have hlen:P.length<=100000000:=ab
  have jX:1<=P.length:=(aR.1 hP0).1;clear hPl UE;obtain⟨v0,v1,v2,v3,v4,v5⟩:=v;have ox:v0=4:=zM;subst ox;have vD:∀i p,P[i]?=some p->(Op.bytesLess p v4.toList=true↔i<wI P v4.toList):=λi p h=>UI hPr h;rw[show nN (.mk 4 v1 v2 v3 v4 v5)=v4.toList from rfl]at hR Jt;generalize wI P v4.toList=r at *
  have hf:∀i,i<W.length->al 28 [aq i,.ptr 0 0,.ptr 1 0] (Bb W (.mk 4 v1 v2 v3 v4 v5)) (ax (decide (r<=i))) (Bb W (.mk 4 v1 v2 v3 v4 v5)):=λi hi=>by have a1:P[i]?=some (P[i]'(by omega)):=aS ab;have h:=P3 (v:=.mk 4 v1 v2 v3 v4 v5) (wD i _ a1);have hc:=vD i _ a1;unfold km at h;rw[P4,lZ]at h;rwa[show decide ((if Op.bytesLess (P[i]'(by omega)) v4.toList=true then(-1:Int)else if Op.bytesLess v4.toList (P[i]'(by omega))=true then 1 else 0)≥0)=decide (r<=i)from gw.2 (by by_cases q:Op.bytesLess (P[i]'(by omega)) v4.toList=true;have:=hc.1 q;rw[aW q];omega;have:¬i<r:=λk=>q (hc.2 k);rw[aV q];split<;>omega)]at h
  have hs:=Md hf ab ab;unfold Bb at hs;clear hf;by_cases hrP:r=W.length
  ·rw[aW (.inl ab)]at hR;have IZ:((r:Int)==(W.length:Int))=true:=bQ.2 ab;obtain⟨x0,x1,x2,x3,x4,x5⟩:=x0;subst hR;refine' eN func7;(repeat first|refine' uD|(refine' oX;(first|exact iV hP|exact iV hW|exact jA (q:=aI GN));exact kq));refine' sQ<;>intro h;exfalso;rw[show((4:Int) !=x0)=false from heq]at h;cases h;clear h;(repeat first|refine' uD|(refine' oX;exact cd [] rfl rfl RN hs rfl rfl rfl rfl rfl rfl rfl rfl rfl rfl rfl;exact kq));refine' sQ<;>intro h;rotate_left;exfalso;rw[IZ]at h;cases h;clear h;(try refine' uD);refine' rE;refine aT (λz=>GV.int .i64 z) ?_;show i64.wrap ((r:Int)-1)=_;rw[jD ab];omega;all_goals rfl
  ·have IZ:((r:Int)==(W.length:Int))=false:=bk.2 ab;obtain⟨p,a1⟩:∃p,P[r]?=some p:=⟨_,aS ab⟩;have hc:=vD r _ a1;have ha:=wD r _ a1;have zP:r=0->p=[]:=λq=>by
    subst q;rw[a1]at hP0;exact cE hP0
   have ho:=zW (km p) (.mk 4 v1 v2 v3 v4 v5);unfold km at ha ho;have hO:=P4 (y:=false) (y':=v1) (c:=0) (e:=0) (c':=v2) (e':=v3) (t:=qD p) (t':=v4) (l:=[]) (l':=v5);have a2:W[(r:Int).toNat]?=some (iD.mk 4 false 0 0 (qD p) []).g:=ha;rw[lZ]at hO;generalize ya (.mk 4 false 0 0 (qD p) []) (.mk 4 v1 v2 v3 v4 v5)=o at *
   generalize qD p=bp at *
   obtain⟨x0,x1,x2,x3,x4,x5⟩:=x0;simp only[a1,cg,fV]at hR;have rG:¬uf p v4.toList:=λq=>absurd (hc.1 q) (Nat.lt_irrefl r);by_cases hq:p=v4.toList
   ·rw[aV (by rintro(q|q);omega;exact q hq)]at hR;subst hR;have ho0:(o !=0)=false:=(by rw[hO,hq,wV];rfl);refine' eN func7;(repeat first|refine' uD|(refine' oX;(first|exact iV hP|exact iV hW|exact jA (q:=aI GN));exact kq));refine' sQ<;>intro h;exfalso;rw[show((4:Int) !=x0)=false from heq]at h;cases h;clear h;(repeat first|refine' uD|(refine' oX;exact cd [] rfl rfl RN hs rfl rfl rfl rfl rfl rfl rfl rfl rfl rfl rfl;exact kq));refine' sQ<;>intro h;exfalso;rw[IZ]at h;cases h;clear h;(repeat first|refine' uD|(refine' oX;(first|exact iV ho|exact jA (q:=aI a2));exact kq));refine' sQ<;>intro h;exfalso;rw[ho0]at h;cases h;clear h;(try refine' uD);refine' rE;all_goals rfl
   ·have nV:r≠0:=λq=>by
     have hp0:=zP q;rcases CF rG with k|k
     exact hq k.symm;rw[hp0]at k;exact Mx _ k
    rw[aW (.inr hq)]at hR;subst hR;have oJ:Op.bytesLess v4.toList p=true:=by
     rcases CF rG with k|k
     exact absurd k.symm hq;exact k
    have ho0:(o !=0)=true:=(by rw[hO,aV (show ¬Op.bytesLess p v4.toList=true from rG),aW oJ];rfl);refine' eN func7;(repeat first|refine' uD|(refine' oX;(first|exact iV hP|exact iV hW|exact jA (q:=aI GN));exact kq));refine' sQ<;>intro h;exfalso;rw[show((4:Int) !=x0)=false from heq]at h;cases h;clear h;(repeat first|refine' uD|(refine' oX;exact cd [] rfl rfl RN hs rfl rfl rfl rfl rfl rfl rfl rfl rfl rfl rfl;exact kq));refine' sQ<;>intro h;exfalso;rw[IZ]at h;cases h;clear h;(repeat first|refine' uD|(refine' oX;(first|exact iV ho|exact jA (q:=aI a2));exact kq));refine' sQ<;>intro h;rotate_left;exfalso;rw[ho0]at h;cases h;clear h;(try refine' uD);refine' rE;refine aT (λz=>GV.int .i64 z) ?_;show i64.wrap ((r:Int)-1)=_;rw[jD ab];omega;all_goals rfl
end Go.Proofs.YtckjndkmmfmjjaaGreatDoor