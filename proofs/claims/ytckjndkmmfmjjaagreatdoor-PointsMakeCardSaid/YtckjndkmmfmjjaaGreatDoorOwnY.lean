/- Steps to pointsMake_card. -/
import Derived.Test.YtckjndkmmfmjjaaGreatDoorOwnX
set_option linter.all false
open Go.IntKind (i64)
open Go.Proofs.Tryz
set_option maxRecDepth 100000
set_option maxHeartbeats 32000000
namespace Go.Proofs.YtckjndkmmfmjjaaGreatDoor
open Go Go.Pure
attribute [local irreducible] PW jQ ju PO PC lS
variable{y y':Bool}{c e c' e':Int}{t t':ByteArray}{l l':List iD}
def L5(h:iZ c e=0)(h':iZ c' e'=0):F5 (.mk 3 y c e t l) (.mk 3 y' c' e' t' l')=hB (decide (iR c e<iR c' e')):=by have a:=(jT h).1;have b:=(jT h').1;rw[F5,aW ⟨rfl,rfl⟩];congr 1;rw[gw,vM ab ab,CD]
def adn(h:iZ c e=0)(h':iZ c' e'=0):T7 (.mk 3 y c e t l) (.mk 3 y' c' e' t' l')=hB (decide (iR c' e'=iR c e)):=by rw[Le,aV af,aV af,aV af,aW rfl];congr 1;rw[gw];refine⟨λk=>by rw[k.1,k.2],λk=>?_⟩;obtain⟨k1,k2⟩:=Y4 h' h k;exact⟨k1.symm,k2.symm⟩
variable{v:iD}
def WK{l:List iJ}(hz:∀t∈l,mJ t.g)(Ef:l.length<=maxLen)(Hi:mJ v.g)(he:(kN VD 3 l).2=0)(hv:(kJ VD v 0 1).2=0)(zM:iY v=3):
  ak 8 [aq 3,av (iJ.gs l),.g v.g] (.tuple [aq (mN (ku (l.flatMap jF)) (ow v):Nat),aq 0]):=by
 have hP:=vx 3 hz Ef;have hW:=vu v Hi;rw[he]at hP;rw[hv]at hW;obtain⟨hk,GM,jU⟩:=vU he;have pn:=xj he;rw[aV af,aW rfl]at pn;have Fk:∀k∈ku (l.flatMap jF),SmallK k:=λk hk=>(EP jU k hk).2;have ub:=(si (l.flatMap jF)).1;have UE:(ku (l.flatMap jF)).length<=6400000:=by have h1:=kH (lt:=λa b=>decide (a<b)) (l.flatMap jF) [];have h2:=pU GM λt ht=>nH 4 (nU jU t ht).1 rfl;rw[bH,bc]at h1;exact b8 h1 h2
 have zu:=RY (u:=mh) (mid:=pf) (v:=ow v) ub;have wD:=λi (hi:i<(jN mh pf (ku (l.flatMap jF))).length)=>MC Fk hi;have Ui:(kN VD 3 l).1.length=(jN mh pf (ku (l.flatMap jF))).length:=by rw[pn,wK,mZ]
 have hPl:(jN mh pf (ku (l.flatMap jF))).length=2*(ku (l.flatMap jF)).length+1:=mZ ..;rw[<-pn]at wD;rw[<-zu];generalize(kN VD 3 l).1=W at *
 generalize jN mh pf (ku (l.flatMap jF))=P at *
 clear zu Fk pn jU ub;have hlen:P.length<=100000000:=ab
 have jX:1<=P.length:=ab
 clear hPl UE;have Aj:∀i,i<P.length->∃c e,P[i]?=some (iR c e)∧W[i]?=some (iD.mk 3 false c e ⟨#[]⟩ []).g∧iZ c e=0:=λi hi=>by obtain⟨k,a1,a2,c,e,a3,rfl⟩:=wD i hi;exact⟨c,e,a1,by rw[<-CG a3];exact a2,a3⟩
 clear wD;obtain⟨v0,v1,v2,v3,v4,v5⟩:=v;have ox:v0=3:=zM;subst ox;have IE:=xP hv;rw[show ow (.mk 3 v1 v2 v3 v4 v5)=iR v2 v3 from rfl];have wE:∀c e,mJ (iD.mk 3 false c e ⟨#[]⟩ []).g:=λc e=>X6 (bm _) (bm _) (λv h=>absurd h cF);have hEq:∀c e,iZ c e=0->ak 32 [.g (iD.mk 3 v1 v2 v3 v4 v5).g,.g (iD.mk 3 false c e ⟨#[]⟩ []).g] (aq (hB (decide (iR c e=iR v2 v3)))):=λc e w=>by have h:=A7 (iD.mk 3 v1 v2 v3 v4 v5) (iD.mk 3 false c e ⟨#[]⟩ []) Hi (wE c e);rwa[adn IE w]at h
 have WL:∀c e,iZ c e=0->ak 31 [.g (iD.mk 3 false c e ⟨#[]⟩ []).g,.g (iD.mk 3 v1 v2 v3 v4 v5).g] (aq (hB (decide (iR c e<iR v2 v3)))):=λc e w=>by have h:=zU (iD.mk 3 false c e ⟨#[]⟩ []) (iD.mk 3 v1 v2 v3 v4 v5) (λk y c e t l k' y' c' e' t' l' e1 e2 _ _=>by cases e1;cases e2;exact⟨w,IE⟩);rwa[L5 w IE]at h
 have D5:∀c e,iZ c e=0->ak 31 [.g (iD.mk 3 v1 v2 v3 v4 v5).g,.g (iD.mk 3 false c e ⟨#[]⟩ []).g] (aq (hB (decide (iR v2 v3<iR c e)))):=λc e w=>by have h:=zU (iD.mk 3 v1 v2 v3 v4 v5) (iD.mk 3 false c e ⟨#[]⟩ []) (λk y c e t l k' y' c' e' t' l' e1 e2 _ _=>by cases e1;cases e2;exact⟨IE,w⟩);rwa[L5 IE w]at h
 clear wE;obtain⟨c0,e0,_,h0,_⟩:=Aj 0 ab;have h0:W[(0:Int).toNat]?=some (iD.mk 3 false c0 e0 ⟨#[]⟩ []).g:=h0;refine' eN func8;(repeat first|refine' uD|(refine' oX;(first|exact iV hP|exact iV hW|exact jA (q:=aI h0));exact kq));refine jf (S:=Nat) (λi=>iL [(0,aq 3),(5,.ptr 0 0),(8,av W),(11,aq (F3 P (iR v2 v3) i:Nat)),(35,aq W.length),(36,aq i)])
  (λ_=>⟨[(iD.mk 3 v1 v2 v3 v4 v5).g.cells.map PV.g],[],[]⟩) (λi=>i<=W.length) (λi=>W.length-i) 0 (bm _)
  (iE.le an) aJ (λi hi=>?_)
 (try refine' uD);refine' sQ<;>intro h;rotate_left
 ·have lk:i=W.length:=by have:=aX h;omega
  subst lk;rw[Ui];clear h;(try refine' uD);refine' rE;all_goals rfl
 have iI:i<W.length:=by have:=aU h;omega
 have AT:F3 P (iR v2 v3) (i+1)=if nY P (iR v2 v3) i=true then i else F3 P (iR v2 v3) i:=rfl
 have Fl:i64.wrap ((i:Int)+1)=((i+1:Nat):Int):=by rw[uu ab];rfl
 have hwp:1<=i->i64.wrap ((i:Int)-1)=((i-1:Nat):Int):=λq=>by rw[LZ ab];omega
 have su:(i:Int).tmod 2=((i%2:Nat):Int):=by rw[Int.tmod_eq_emod_of_nonneg ab];omega
 clear h;by_cases aba:i%2=1
 ·obtain⟨c1,e1,a1,a2,a3⟩:=Aj i ab;have a2:W[(i:Int).toNat]?=some (iD.mk 3 false c1 e1 ⟨#[]⟩ []).g:=a2;have ho:((i:Int).tmod 2==1)=true:=by rw[su];exact bQ.2 ab
  have PY:((i:Int).tmod 2==0)=false:=by rw[su];exact bk.2 ab
  clear Aj WL D5 hwp hlen jX su;by_cases q:iR c1 e1=iR v2 v3
  ·have oW:nY P (iR v2 v3) i=true:=by unfold nY;rw[aW aba,getD_some a1];exact bU q
   have hc:ak 32 [.g (iD.mk 3 v1 v2 v3 v4 v5).g,.g (iD.mk 3 false c1 e1 ⟨#[]⟩ []).g] (aq 2):=(by have h:=hEq c1 e1 a3;rw[bU q]at h;exact h);(repeat first|refine' uD|(refine' oX;exact jR;exact kq));refine' sQ<;>intro h;rotate_left;exfalso;rw[ho]at h;cases h;clear h;(repeat first|refine' uD|(refine' oX;(first|exact iV hc|exact jR|exact jA (q:=aI a2));exact kq));refine' sQ<;>intro h;exfalso;rw[PY]at h;cases h;clear h;(try refine' uD);rw[oW,aW rfl]at AT;exact⟨i+1,iI,by omega,iE.le (aB ⟨.inl (aT (λk:Nat=>aq k) AT.symm),.inl rfl,.inl (aT aq Fl),trivial⟩),aJ⟩
  ·have oW:nY P (iR v2 v3) i=false:=by unfold nY;rw[aW aba,getD_some a1];exact bA q
   have hc:ak 32 [.g (iD.mk 3 v1 v2 v3 v4 v5).g,.g (iD.mk 3 false c1 e1 ⟨#[]⟩ []).g] (aq 0):=(by have h:=hEq c1 e1 a3;rw[bA q]at h;exact h);(repeat first|refine' uD|(refine' oX;exact jR;exact kq));refine' sQ<;>intro h;rotate_left;exfalso;rw[ho]at h;cases h;clear h;(repeat first|refine' uD|(refine' oX;(first|exact iV hc|exact jR|exact jA (q:=aI a2));exact kq));refine' sQ<;>intro h;exfalso;rw[PY]at h;cases h;clear h;(try refine' uD);rw[oW,aV af]at AT;exact⟨i+1,iI,by omega,iE.le (aB ⟨.inl (aT (λk:Nat=>aq k) AT.symm),.inl rfl,.inl (aT aq Fl),trivial⟩),aJ⟩
 have aox:i%2=0:=ab
 have ho:((i:Int).tmod 2==1)=false:=by rw[su];exact bk.2 ab
 have PY:((i:Int).tmod 2==0)=true:=by rw[su];exact bQ.2 ab
 by_cases BF:i=0
 ·have tR:((i:Int)==0)=true:=bQ.2 ab;by_cases oY:i+1=P.length
  ·have Jv:(i64.wrap ((i:Int)+1)==(W.length:Int))=true:=by rw[Fl];exact bQ.2 ab
   clear Aj hEq;have oW:nY P (iR v2 v3) i=true:=(by unfold nY;rw[aV ab];exact bU ⟨.inl BF,.inl oY⟩);(repeat first|refine' uD|(refine' oX;exact jR;exact kq));refine' sQ<;>intro h;exfalso;rw[ho]at h;cases h;clear h;(repeat first|refine' uD|(refine' oX;exact jR;exact kq));refine' sQ<;>intro h;rotate_left;exfalso;rw[PY]at h;cases h;clear h;(repeat first|refine' uD|(refine' oX;exact jR;exact kq));refine' sQ<;>intro h;rotate_left;exfalso;rw[tR]at h;cases h;clear h;(repeat first|refine' uD|(refine' oX;exact jR;exact kq));refine' sQ<;>intro h;rotate_left;exfalso;rw[Jv]at h;cases h;clear h;(repeat first|refine' uD|(refine' oX;exact jR;exact kq));rw[oW,aW rfl]at AT;exact⟨i+1,iI,by omega,iE.le (aB ⟨.inl (aT (λk:Nat=>aq k) AT.symm),.inl rfl,.inl (aT aq Fl),trivial⟩),aJ⟩
  ·have Jv:(i64.wrap ((i:Int)+1)==(W.length:Int))=false:=by rw[Fl];exact bk.2 ab
   obtain⟨c2,e2,b1,b2,b3⟩:=Aj (i+1) ab;have b2:W[(i64.wrap ((i:Int)+1)).toNat]?=some (iD.mk 3 false c2 e2 ⟨#[]⟩ []).g:=(by rw[Fl];exact b2);have BM:0<=i64.wrap ((i:Int)+1):=(by rw[Fl];omega);clear Aj hEq;by_cases q2:iR v2 v3<iR c2 e2
   ·have oW:nY P (iR v2 v3) i=true:=(by unfold nY;rw[aV ab];exact bU ⟨.inl BF,.inr (by rw[getD_some b1];exact q2)⟩);have rh:ak 31 [.g (iD.mk 3 v1 v2 v3 v4 v5).g,.g (iD.mk 3 false c2 e2 ⟨#[]⟩ []).g] (aq 2):=by
     have h:=D5 c2 e2 b3;rw[bU q2]at h;exact h
    (repeat first|refine' uD|(refine' oX;(first|exact jR|exact iV rh|exact jA (z:=BM) (q:=aI b2));exact kq));refine' sQ<;>intro h;exfalso;rw[ho]at h;cases h;clear h;(repeat first|refine' uD|(refine' oX;(first|exact jR|exact iV rh|exact jA (z:=BM) (q:=aI b2));exact kq));refine' sQ<;>intro h;rotate_left;exfalso;rw[PY]at h;cases h;clear h;(repeat first|refine' uD|(refine' oX;(first|exact jR|exact iV rh|exact jA (z:=BM) (q:=aI b2));exact kq));refine' sQ<;>intro h;rotate_left;exfalso;rw[tR]at h;cases h;clear h;(repeat first|refine' uD|(refine' oX;(first|exact jR|exact iV rh|exact jA (z:=BM) (q:=aI b2));exact kq));refine' sQ<;>intro h;exfalso;rw[Jv]at h;cases h;clear h;(repeat first|refine' uD|(refine' oX;(first|exact jR|exact iV rh|exact jA (z:=BM) (q:=aI b2));exact kq));rw[oW,aW rfl]at AT;exact⟨i+1,iI,by omega,iE.le (aB ⟨.inl (aT (λk:Nat=>aq k) AT.symm),.inl rfl,.inl (aT aq Fl),trivial⟩),aJ⟩
   ·have oW:nY P (iR v2 v3) i=false:=(by unfold nY;rw[aV ab];exact bA (λk=>k.2.elim (λk=>oY k) (λk=>by rw[getD_some b1]at k;exact q2 k)));have rh:ak 31 [.g (iD.mk 3 v1 v2 v3 v4 v5).g,.g (iD.mk 3 false c2 e2 ⟨#[]⟩ []).g] (aq 0):=by
     have h:=D5 c2 e2 b3;rw[bA q2]at h;exact h
    (repeat first|refine' uD|(refine' oX;(first|exact jR|exact iV rh|exact jA (z:=BM) (q:=aI b2));exact kq));refine' sQ<;>intro h;exfalso;rw[ho]at h;cases h;clear h;(repeat first|refine' uD|(refine' oX;(first|exact jR|exact iV rh|exact jA (z:=BM) (q:=aI b2));exact kq));refine' sQ<;>intro h;rotate_left;exfalso;rw[PY]at h;cases h;clear h;(repeat first|refine' uD|(refine' oX;(first|exact jR|exact iV rh|exact jA (z:=BM) (q:=aI b2));exact kq));refine' sQ<;>intro h;rotate_left;exfalso;rw[tR]at h;cases h;clear h;(repeat first|refine' uD|(refine' oX;(first|exact jR|exact iV rh|exact jA (z:=BM) (q:=aI b2));exact kq));refine' sQ<;>intro h;exfalso;rw[Jv]at h;cases h;clear h;(repeat first|refine' uD|(refine' oX;(first|exact jR|exact iV rh|exact jA (z:=BM) (q:=aI b2));exact kq));rw[oW,aV af]at AT;exact⟨i+1,iI,by omega,iE.le (aB ⟨.inl (aT (λk:Nat=>aq k) AT.symm),.inl rfl,.inl (aT aq Fl),trivial⟩),aJ⟩
 ·have tR:((i:Int)==0)=false:=bk.2 ab;obtain⟨c1,e1,a1,a2,a3⟩:=Aj (i-1) ab;have hwp:=hwp ab;have a2:W[(i64.wrap ((i:Int)-1)).toNat]?=some (iD.mk 3 false c1 e1 ⟨#[]⟩ []).g:=by rw[hwp];exact a2
  have rZ:0<=i64.wrap ((i:Int)-1):=by rw[hwp];omega
  by_cases oY:i+1=P.length
  ·have Jv:(i64.wrap ((i:Int)+1)==(W.length:Int))=true:=by rw[Fl];exact bQ.2 ab
   clear Aj hEq;by_cases q1:iR c1 e1<iR v2 v3
   ·have oW:nY P (iR v2 v3) i=true:=(by unfold nY;rw[aV ab];exact bU ⟨.inr (by rw[getD_some a1];exact q1),.inl oY⟩);have mM:ak 31 [.g (iD.mk 3 false c1 e1 ⟨#[]⟩ []).g,.g (iD.mk 3 v1 v2 v3 v4 v5).g] (aq 2):=by
     have h:=WL c1 e1 a3;rw[bU q1]at h;exact h
    (repeat first|refine' uD|(refine' oX;(first|exact jR|exact iV mM|exact jA (z:=rZ) (q:=aI a2));exact kq));refine' sQ<;>intro h;exfalso;rw[ho]at h;cases h;clear h;(repeat first|refine' uD|(refine' oX;(first|exact jR|exact iV mM|exact jA (z:=rZ) (q:=aI a2));exact kq));refine' sQ<;>intro h;rotate_left;exfalso;rw[PY]at h;cases h;clear h;(repeat first|refine' uD|(refine' oX;(first|exact jR|exact iV mM|exact jA (z:=rZ) (q:=aI a2));exact kq));refine' sQ<;>intro h;exfalso;rw[tR]at h;cases h;clear h;(repeat first|refine' uD|(refine' oX;(first|exact jR|exact iV mM|exact jA (z:=rZ) (q:=aI a2));exact kq));refine' sQ<;>intro h;rotate_left;exfalso;rw[Jv]at h;cases h;clear h;(repeat first|refine' uD|(refine' oX;(first|exact jR|exact iV mM|exact jA (z:=rZ) (q:=aI a2));exact kq));rw[oW,aW rfl]at AT;exact⟨i+1,iI,by omega,iE.le (aB ⟨.inl (aT (λk:Nat=>aq k) AT.symm),.inl rfl,.inl (aT aq Fl),trivial⟩),aJ⟩
   ·have oW:nY P (iR v2 v3) i=false:=(by unfold nY;rw[aV ab];exact bA (λk=>k.1.elim (λk=>BF k) (λk=>by rw[getD_some a1]at k;exact q1 k)));have mM:ak 31 [.g (iD.mk 3 false c1 e1 ⟨#[]⟩ []).g,.g (iD.mk 3 v1 v2 v3 v4 v5).g] (aq 0):=by
     have h:=WL c1 e1 a3;rw[bA q1]at h;exact h
    (repeat first|refine' uD|(refine' oX;(first|exact jR|exact iV mM|exact jA (z:=rZ) (q:=aI a2));exact kq));refine' sQ<;>intro h;exfalso;rw[ho]at h;cases h;clear h;(repeat first|refine' uD|(refine' oX;(first|exact jR|exact iV mM|exact jA (z:=rZ) (q:=aI a2));exact kq));refine' sQ<;>intro h;rotate_left;exfalso;rw[PY]at h;cases h;clear h;(repeat first|refine' uD|(refine' oX;(first|exact jR|exact iV mM|exact jA (z:=rZ) (q:=aI a2));exact kq));refine' sQ<;>intro h;exfalso;rw[tR]at h;cases h;clear h;(repeat first|refine' uD|(refine' oX;(first|exact jR|exact iV mM|exact jA (z:=rZ) (q:=aI a2));exact kq));rw[oW,aV af]at AT;exact⟨i+1,iI,by omega,iE.le (aB ⟨.inl (aT (λk:Nat=>aq k) AT.symm),.inl rfl,.inl (aT aq Fl),trivial⟩),aJ⟩
  ·have Jv:(i64.wrap ((i:Int)+1)==(W.length:Int))=false:=by rw[Fl];exact bk.2 ab
   obtain⟨c2,e2,b1,b2,b3⟩:=Aj (i+1) ab;have b2:W[(i64.wrap ((i:Int)+1)).toNat]?=some (iD.mk 3 false c2 e2 ⟨#[]⟩ []).g:=(by rw[Fl];exact b2);have BM:0<=i64.wrap ((i:Int)+1):=(by rw[Fl];omega);clear Aj hEq;by_cases q1:iR c1 e1<iR v2 v3
   ·by_cases q2:iR v2 v3<iR c2 e2
    ·have oW:nY P (iR v2 v3) i=true:=(by unfold nY;rw[aV ab];exact bU ⟨.inr (by rw[getD_some a1];exact q1),.inr (by rw[getD_some b1];exact q2)⟩);have mM:ak 31 [.g (iD.mk 3 false c1 e1 ⟨#[]⟩ []).g,.g (iD.mk 3 v1 v2 v3 v4 v5).g] (aq 2):=by
      have h:=WL c1 e1 a3;rw[bU q1]at h;exact h
     have rh:ak 31 [.g (iD.mk 3 v1 v2 v3 v4 v5).g,.g (iD.mk 3 false c2 e2 ⟨#[]⟩ []).g] (aq 2):=(by have h:=D5 c2 e2 b3;rw[bU q2]at h;exact h);(repeat first|refine' uD|(refine' oX;(first|exact jR|exact iV mM|exact jA (z:=rZ) (q:=aI a2)|exact iV rh|exact jA (z:=BM) (q:=aI b2));exact kq));refine' sQ<;>intro h;exfalso;rw[ho]at h;cases h;clear h;(repeat first|refine' uD|(refine' oX;(first|exact jR|exact iV mM|exact jA (z:=rZ) (q:=aI a2)|exact iV rh|exact jA (z:=BM) (q:=aI b2));exact kq));refine' sQ<;>intro h;rotate_left;exfalso;rw[PY]at h;cases h;clear h;(repeat first|refine' uD|(refine' oX;(first|exact jR|exact iV mM|exact jA (z:=rZ) (q:=aI a2)|exact iV rh|exact jA (z:=BM) (q:=aI b2));exact kq));refine' sQ<;>intro h;exfalso;rw[tR]at h;cases h;clear h;(repeat first|refine' uD|(refine' oX;(first|exact jR|exact iV mM|exact jA (z:=rZ) (q:=aI a2)|exact iV rh|exact jA (z:=BM) (q:=aI b2));exact kq));refine' sQ<;>intro h;exfalso;rw[Jv]at h;cases h;clear h;(repeat first|refine' uD|(refine' oX;(first|exact jR|exact iV mM|exact jA (z:=rZ) (q:=aI a2)|exact iV rh|exact jA (z:=BM) (q:=aI b2));exact kq));rw[oW,aW rfl]at AT;exact⟨i+1,iI,by omega,iE.le (aB ⟨.inl (aT (λk:Nat=>aq k) AT.symm),.inl rfl,.inl (aT aq Fl),trivial⟩),aJ⟩
    ·have oW:nY P (iR v2 v3) i=false:=(by unfold nY;rw[aV ab];exact bA (λk=>k.2.elim (λk=>oY k) (λk=>by rw[getD_some b1]at k;exact q2 k)));have mM:ak 31 [.g (iD.mk 3 false c1 e1 ⟨#[]⟩ []).g,.g (iD.mk 3 v1 v2 v3 v4 v5).g] (aq 2):=by
      have h:=WL c1 e1 a3;rw[bU q1]at h;exact h
     have rh:ak 31 [.g (iD.mk 3 v1 v2 v3 v4 v5).g,.g (iD.mk 3 false c2 e2 ⟨#[]⟩ []).g] (aq 0):=(by have h:=D5 c2 e2 b3;rw[bA q2]at h;exact h);(repeat first|refine' uD|(refine' oX;(first|exact jR|exact iV mM|exact jA (z:=rZ) (q:=aI a2)|exact iV rh|exact jA (z:=BM) (q:=aI b2));exact kq));refine' sQ<;>intro h;exfalso;rw[ho]at h;cases h;clear h;(repeat first|refine' uD|(refine' oX;(first|exact jR|exact iV mM|exact jA (z:=rZ) (q:=aI a2)|exact iV rh|exact jA (z:=BM) (q:=aI b2));exact kq));refine' sQ<;>intro h;rotate_left;exfalso;rw[PY]at h;cases h;clear h;(repeat first|refine' uD|(refine' oX;(first|exact jR|exact iV mM|exact jA (z:=rZ) (q:=aI a2)|exact iV rh|exact jA (z:=BM) (q:=aI b2));exact kq));refine' sQ<;>intro h;exfalso;rw[tR]at h;cases h;clear h;(repeat first|refine' uD|(refine' oX;(first|exact jR|exact iV mM|exact jA (z:=rZ) (q:=aI a2)|exact iV rh|exact jA (z:=BM) (q:=aI b2));exact kq));refine' sQ<;>intro h;exfalso;rw[Jv]at h;cases h;clear h;(repeat first|refine' uD|(refine' oX;(first|exact jR|exact iV mM|exact jA (z:=rZ) (q:=aI a2)|exact iV rh|exact jA (z:=BM) (q:=aI b2));exact kq));rw[oW,aV af]at AT;exact⟨i+1,iI,by omega,iE.le (aB ⟨.inl (aT (λk:Nat=>aq k) AT.symm),.inl rfl,.inl (aT aq Fl),trivial⟩),aJ⟩
   ·by_cases q2:iR v2 v3<iR c2 e2
    ·have oW:nY P (iR v2 v3) i=false:=(by unfold nY;rw[aV ab];exact bA (λk=>k.1.elim (λk=>BF k) (λk=>by rw[getD_some a1]at k;exact q1 k)));have mM:ak 31 [.g (iD.mk 3 false c1 e1 ⟨#[]⟩ []).g,.g (iD.mk 3 v1 v2 v3 v4 v5).g] (aq 0):=by
      have h:=WL c1 e1 a3;rw[bA q1]at h;exact h
     (repeat first|refine' uD|(refine' oX;(first|exact jR|exact iV mM|exact jA (z:=rZ) (q:=aI a2));exact kq));refine' sQ<;>intro h;exfalso;rw[ho]at h;cases h;clear h;(repeat first|refine' uD|(refine' oX;(first|exact jR|exact iV mM|exact jA (z:=rZ) (q:=aI a2));exact kq));refine' sQ<;>intro h;rotate_left;exfalso;rw[PY]at h;cases h;clear h;(repeat first|refine' uD|(refine' oX;(first|exact jR|exact iV mM|exact jA (z:=rZ) (q:=aI a2));exact kq));refine' sQ<;>intro h;exfalso;rw[tR]at h;cases h;clear h;(repeat first|refine' uD|(refine' oX;(first|exact jR|exact iV mM|exact jA (z:=rZ) (q:=aI a2));exact kq));rw[oW,aV af]at AT;exact⟨i+1,iI,by omega,iE.le (aB ⟨.inl (aT (λk:Nat=>aq k) AT.symm),.inl rfl,.inl (aT aq Fl),trivial⟩),aJ⟩
    ·have oW:nY P (iR v2 v3) i=false:=(by unfold nY;rw[aV ab];exact bA (λk=>k.1.elim (λk=>BF k) (λk=>by rw[getD_some a1]at k;exact q1 k)));have mM:ak 31 [.g (iD.mk 3 false c1 e1 ⟨#[]⟩ []).g,.g (iD.mk 3 v1 v2 v3 v4 v5).g] (aq 0):=by
      have h:=WL c1 e1 a3;rw[bA q1]at h;exact h
     (repeat first|refine' uD|(refine' oX;(first|exact jR|exact iV mM|exact jA (z:=rZ) (q:=aI a2));exact kq));refine' sQ<;>intro h;exfalso;rw[ho]at h;cases h;clear h;(repeat first|refine' uD|(refine' oX;(first|exact jR|exact iV mM|exact jA (z:=rZ) (q:=aI a2));exact kq));refine' sQ<;>intro h;rotate_left;exfalso;rw[PY]at h;cases h;clear h;(repeat first|refine' uD|(refine' oX;(first|exact jR|exact iV mM|exact jA (z:=rZ) (q:=aI a2));exact kq));refine' sQ<;>intro h;exfalso;rw[tR]at h;cases h;clear h;(repeat first|refine' uD|(refine' oX;(first|exact jR|exact iV mM|exact jA (z:=rZ) (q:=aI a2));exact kq));rw[oW,aV af]at AT;exact⟨i+1,iI,by omega,iE.le (aB ⟨.inl (aT (λk:Nat=>aq k) AT.symm),.inl rfl,.inl (aT aq Fl),trivial⟩),aJ⟩
def aay(kd:Int){l:List iJ}(hz:∀t∈l,mJ t.g)(Ef:l.length<=maxLen)(Hi:mJ v.g):ak 8 [aq kd,av (iJ.gs l),.g v.g] (.tuple [aq (qx VD kd l v).1,aq (qx VD kd l v).2]):=by
 have hP:=vx kd hz Ef;have hW:=vu v Hi;by_cases he:(kN VD kd l).2=0;rotate_left
 ·have hR:qx VD kd l v=(0,(kN VD kd l).2):=by unfold qx;rw[aW he]
  rw[hR];clear hR;generalize(kN VD kd l).2=er at *
  generalize(kN VD kd l).1=W at *
  have js:(er !=0)=true:=by simpa using he
  obtain⟨v0,v1,v2,v3,v4,v5⟩:=v;refine' eN func8;(try refine' wn @hP);refine' sQ<;>intro h;rotate_left;exfalso;rw[js]at h;cases h;(try refine' uD);refine' rE;all_goals rfl
 obtain⟨x0,sJ,zo⟩:=Lj he;obtain⟨hk,GM,jU⟩:=vU he;by_cases hv:(kJ VD v 0 1).2=0;rotate_left
 ·have hR:qx VD kd l v=(0,(kJ VD v 0 1).2):=by unfold qx;rw[aV (dM he),aW hv]
  rw[hR];clear hR;rw[he]at hP;generalize(kJ VD v 0 1).2=er at *
  generalize(kN VD kd l).1=W at *
  have js:(er !=0)=true:=by simpa using hv
  obtain⟨v0,v1,v2,v3,v4,v5⟩:=v;refine' eN func8;(try refine' wo @hP @hW);refine' sQ<;>intro h;rotate_left;exfalso;rw[js]at h;cases h;(try refine' uD);refine' rE;all_goals rfl
 have hR:qx VD kd l v=if iY v≠kd then(0,9)else if kd=2 then((if Vz v=true then 1 else 0),0)else if kd=3 then(((mN (ku (l.flatMap jF)) (ow v):Nat):Int),0)else(((vP (ko (l.flatMap jj)) (nN v):Nat):Int),0):=by unfold qx;rw[aV (dM he),aV (dM hv)]
 generalize Q9:qx VD kd l v=R at hR⊢;clear Q9;by_cases zM:iY v=kd;rotate_left
 ·rw[aW zM]at hR;subst hR;have GN:((kN VD kd l).1)[(0:Int).toNat]?=some x0.g:=sJ;rw[hv]at hW;rw[he]at hP;generalize(kN VD kd l).1=W at *
  have js:(iY v !=iY x0)=true:=by rw[zo];simpa using zM
  obtain⟨v0,v1,v2,v3,v4,v5⟩:=v;obtain⟨x0,x1,x2,x3,x4,x5⟩:=x0;refine' eN func8;(repeat first|refine' uD|(refine' oX;(first|exact iV hP|exact iV hW|exact jA (q:=aI GN));exact kq));refine' sQ<;>intro h;rotate_left;exfalso;rw[show(v0 !=x0)=true from js]at h;cases h;(try refine' uD);refine' rE;all_goals rfl
 rw[aV (dM zM)]at hR;rcases hk with rfl|rfl|rfl
 rw[aW rfl]at hR;subst hR;exact WH hz Ef Hi he hv zM;rw[aV af,aW rfl]at hR;subst hR;exact WK hz Ef Hi he hv zM;rw[aV af,aV af]at hR;subst hR;exact WI hz Ef Hi he hv zM
def SO{X:List iD}(hz:∀x∈X,mJ x.g)(hl:X.length<=maxLen):ak 6 [av (iD.gs X),av (iD.gs X)] (ax true):=by
 have pE:(iD.gs X).length=X.length:=by simp[iD.jd]
 have js:(((iD.gs X).length:Int) !=((iD.gs X).length:Int))=false:=aa
 refine' eN func6;(try refine' uD);refine' sQ<;>intro h;exfalso;rw[js]at h;cases h;clear h;(try refine' uD);refine jf (S:=Nat) (λi=>iL [(0,av (iD.gs X)),(1,av (iD.gs X)),(12,aq X.length),(13,aq i)]) (λ_=>⟨[],[],[]⟩) (λi=>i<=X.length) (λi=>X.length-i) 0 (bm _)
  (iE.le (aA ⟨.inl (aT (λk:Nat=>aq k) pE),an⟩)) aJ (λi hi=>?_)
 (try refine' uD);refine' sQ<;>intro h
 ·have iI:i<X.length:=by have:=aU h;omega
  have hg:(iD.gs X)[(i:Int).toNat]?=some X[i].g:=by rw[iD.jd];exact lg iI
  have hx:=hz _ (bJ iI);have hs:=Us X[i] X[i] hx hx;rw[(EJ _ _).2 rfl]at hs;generalize X[i]=x at *
  obtain⟨x0,x1,x2,x3,x4,x5⟩:=x;clear h;(repeat first|refine' uD|(refine' oX;(first|exact iV hs|exact jA (q:=aI hg));exact kq));exact⟨i+1,iI,by omega,iE.le (aB ⟨.inl (aT aq (jD (by unfold maxLen at hl;omega))),trivial⟩),aJ⟩
 ·have lk:i=X.length:=by have:=aX h;omega
  subst lk;clear h;(try refine' uD);refine' rT;all_goals rfl
end Go.Proofs.YtckjndkmmfmjjaaGreatDoor