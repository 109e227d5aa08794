/- Steps to pointsMake_card. -/
import Derived.Test.YtckjndkmmfmjjaaGreatDoorOwnP
set_option linter.all false
open Go.IntKind (i64)
open Go.Proofs.Tryz
set_option maxRecDepth 100000
set_option maxHeartbeats 32000000
namespace Go.Proofs.YtckjndkmmfmjjaaGreatDoor
open Go Go.Pure
attribute [local irreducible] PW jQ ju PO PC lS
def iJ.L7{k:Int}{a b:iD}{oa ob:Bool}{kids:List iJ}(h:mJ (iJ.mk k a b oa ob kids).g):mJ a.g∧mJ b.g∧kids.length<=maxLen∧∀x∈kids,mJ x.g:=by simp only[iJ.g,mJ,yI]at h;have h2:=nF.1 h.2;refine⟨xO.1 (nF.2 λx hx=>h2 x (fi _ hx)),xO.1 (nF.2 λx hx=>h2 x (ed _ (fi _ hx))),?_⟩;have h3:=h2 (.sl (iJ.gs kids)) (ed _ (ed _ aa));simp only[mJ,iJ.jd,dm]at h3;exact⟨h3.1,λx hx=>nF.1 h3.2 _ (List.mem_map_of_mem hx)⟩
def aaz:ak 88 [] (.g (.agg [.int .i64 1,.int .i64 9])):=by refine' eN func88;(try refine' uN);refine' rT;rfl
def SP{c e:Int}(h:iZ c e=0):iZ (c.natAbs:Int) e=0:=by
 obtain⟨h1,h2,h3⟩:=jT h;unfold iZ;rw[aV ab,aV ab];refine aV λq=>h3 ab ?_;rcases Int.natAbs_eq c with e1|e1
 rw[<-e1]at q;exact q.2;rw[e1,Int.neg_tmod,q.2];rfl
variable{V:ByteArray->Bool}
def P0(hV:∀s:ByteArray,s.size<=maxLen->ak 82 [ay s] (ax (V s)))(v:iD)(hz:mJ v.g):ak 59 [.g v.g] (aq (lX V v)):=by
 have hw:=PD hV v hz;obtain⟨k,y,c,e,t,l⟩:=v;rw[xQ];by_cases h0:(kJ V (.mk k y c e t l) 0 1).2=0
 ·rw[aV (dM h0)];rw[h0]at hw;by_cases h5:k=5;subst h5;rw[aW rfl];refine' eN func59;(try refine' wn @hw);refine' rT;rfl
  ·rw[aV h5];by_cases h3:k=3
   ·subst h3;rw[aW rfl];have hd:=xP h0;have b:=(jT hd).1;have hl:=aaz;have hc:=Up (SP hd) (show iZ 1 9=0 by decide);by_cases Dm:c<0
    ·have EC:i64.wrap (0-c)=(c.natAbs:Int):=(by rw[jD ab];omega);generalize s6 (c.natAbs:Int) e 1 9=r at *
     rw[<-EC]at hc;clear h0 hd;refine' eN func59;(repeat' first|refine' wt @hw @hl @hc|refine' sN<;>intro h|fail);all_goals(first|(exfalso;(try simp only[cX,cP,bQ,dO,bk,dh,c9,dq,eO,eP,fV]at *);omega)|(refine' rT;first|(rw[aW (by(try simp only[cX,cP,bQ,dO,bk,dh,c9,dq,eO,eP,fV]at *);omega)]<;>rfl)|(rw[aV (by(try simp only[cX,cP,bQ,dO,bk,dh,c9,dq,eO,eP,fV]at *);omega)]<;>rfl)))
    ·have EC:c=(c.natAbs:Int):=ab;generalize s6 (c.natAbs:Int) e 1 9=r at *
     rw[<-EC]at hc;clear h0 hd;refine' eN func59;(repeat' first|refine' wt @hw @hl @hc|refine' sN<;>intro h|fail);all_goals(first|(exfalso;(try simp only[cX,cP,bQ,dO,bk,dh,c9,dq,eO,eP,fV]at *);omega)|(refine' rT;first|(rw[aW (by(try simp only[cX,cP,bQ,dO,bk,dh,c9,dq,eO,eP,fV]at *);omega)]<;>rfl)|(rw[aV (by(try simp only[cX,cP,bQ,dO,bk,dh,c9,dq,eO,eP,fV]at *);omega)]<;>rfl)))
   ·rw[aV h3];clear h0;refine' eN func59;(repeat' first|refine' wn @hw|refine' sN<;>intro h|fail);all_goals(first|(exfalso;(try simp only[cX,cP,bQ,dO,bk,dh,c9,dq,eO,eP,fV]at *);omega)|(refine' rT;rfl))
 ·rw[aW h0];generalize(kJ V (.mk k y c e t l) 0 1).2=w at *
  refine' eN func59;(repeat' first|refine' wn @hw|refine' sN<;>intro h|fail);all_goals(first|(exfalso;(try simp only[cX,cP,bQ,dO,bk,dh,c9,dq,eO,eP,fV]at *);omega)|(refine' rT;rfl))
def SQ(v:iD):ak 60 [.g v.g] (ax (decide (iY v=3∨iY v=4))):=by
 obtain⟨k,y,c,e,t,l⟩:=v;show PC _ _ _ _ (ax (decide (k=3∨k=4))) _;by_cases h3:k=3;subst h3;refine' eN func60;(try refine' uN);refine' rT;rfl
 ·by_cases h4:k=4;subst h4;refine' eN func60;(try refine' uN);refine' rT;rfl
  ·rw[bA ab];refine' eN func60;(repeat' first|refine' uN|refine' sN<;>intro h|fail);all_goals(first|(exfalso;(try simp only[cX,cP,bQ,dO,bk,dh,c9,dq,eO,eP,fV]at *);omega)|(refine' rT;first|rfl|(simp_all;done)))
def L8{V:ByteArray->Bool}(hV:∀s:ByteArray,s.size<=maxLen->ak 82 [ay s] (ax (V s))):
  ∀(t:iJ) (d:Nat),mJ t.g->d<=5->ak 33 [.pat t.g.cells,aq d] (aq (kG V t d))
 |.mk k a b oa ob kids,d,hz,hd=>by
  obtain⟨hza,hzb,zu,mq⟩:=iJ.L7 hz;have A9:=P0 hV a hza;have Hf:=P0 hV b hzb;have WS:=SQ a;have g1:(iJ.gs kids).length=kids.length:=by simp[iJ.jd]
  have ih:∀x∈kids,d+1<=5->ak 33 [.pat x.g.cells,aq ((d+1:Nat):Int)] (aq (kG V x (d+1))):=λx hx hd=>L8 hV x (d+1) (mq x hx) hd;rw[AQ];obtain⟨a0,a1,a2,a3,a4,a5⟩:=a;obtain⟨b0,b1,b2,b3,b4,b5⟩:=b;have hga:([(iD.mk a0 a1 a2 a3 a4 a5).g,(iD.mk b0 b1 b2 b3 b4 b5).g]:List GV)[(0:Int).toNat]?=some (iD.mk a0 a1 a2 a3 a4 a5).g:=rfl;have Lq:([(iD.mk a0 a1 a2 a3 a4 a5).g,(iD.mk b0 b1 b2 b3 b4 b5).g]:List GV)[(1:Int).toNat]?=some (iD.mk b0 b1 b2 b3 b4 b5).g:=rfl;rw[show iY (.mk a0 a1 a2 a3 a4 a5)=a0 from rfl]at *
  rw[show iY (.mk b0 b1 b2 b3 b4 b5)=b0 from rfl]at *
  generalize lX V (.mk a0 a1 a2 a3 a4 a5)=va,lX V (.mk b0 b1 b2 b3 b4 b5)=vb at *
  by_cases h4:4<d;rw[aW h4];clear ih;refine' eN func33;(try refine' uD);refine' sQ<;>intro h;(try refine' uD);refine' rT;rfl;exfalso;have:=aX h;omega;rw[aV h4];by_cases h1:k=1;subst h1;rw[aW rfl];clear ih;refine' eN func33;(try refine' uD);refine' sQ<;>intro h;exfalso;have:=aU h;omega;(try refine' uD);refine' rT;rfl;rw[aV h1];by_cases h2:k=2;subst h2;rw[aW rfl];clear ih;refine' eN func33;(try refine' uD);refine' sQ<;>intro h;exfalso;have:=aU h;omega;(try refine' wn @A9);refine' rT;rfl;rw[aV h2];by_cases h36:3<=k∧k<=6
  ·rw[aW h36];clear ih;have hk:k=3∨k=4∨k=5∨k=6:=ab;by_cases ox:va=0
   ·subst ox;rw[aV af];by_cases ho:a0=3∨a0=4
    ·rw[bU ho]at WS;rw[aW ho];rcases hk with rfl|rfl|rfl|rfl
     all_goals
      refine' eN func33
      (try refine' uD)
      refine' sQ<;>intro h
      ·exfalso;have:=aU h;omega
      (try refine' wo @A9 @WS)
      refine' rT
      rfl
    ·rw[bA ho]at WS;rw[aV ho];rcases hk with rfl|rfl|rfl|rfl
     all_goals
      refine' eN func33
      (try refine' uD)
      refine' sQ<;>intro h
      ·exfalso;have:=aU h;omega
      (try refine' wo @A9 @WS)
      refine' rT
      rfl
   ·rw[aW ox];have js:(va !=0)=true:=(by simpa using ox);rcases hk with rfl|rfl|rfl|rfl
    all_goals
     refine' eN func33
     (try refine' uD)
     refine' sQ<;>intro h
     ·exfalso;have:=aU h;omega
     clear h
     (try refine' wn @A9)
     refine' sQ<;>intro h
     ·(try refine' uD)
      refine' rT
      rfl
     ·exfalso;rw[js]at h;cases h
  rw[aV h36];by_cases h7:k=7
  ·subst h7;rw[aW rfl];clear ih;by_cases ox:va=0
   ·subst ox;rw[aV af];by_cases nn:vb=0
    ·subst nn;rw[aV af];by_cases ho:a0=3∨a0=4;rw[bU ho]at WS;by_cases lr:a0=b0;subst lr;rw[aW ⟨ho,rfl⟩];have F2:(a0 !=a0)=false:=aa;refine' eN func33;(try refine' uD);refine' sQ<;>intro h;exfalso;have:=aU h;omega;clear h;(try refine' uD);refine me 3 ?_;(repeat first|refine' uD|(refine' oX;(first|exact iV A9|exact iV Hf|exact iV WS|exact jB (g:=(iD.mk a0 a1 a2 a3 a4 a5).g)|exact jB (g:=(iD.mk a0 b1 b2 b3 b4 b5).g));exact kq));refine' sQ<;>intro h;exfalso;rw[F2]at h;cases h;(try refine' uD);refine' rT;rfl;rw[aV (λq=>lr q.2)];have F2:(a0 !=b0)=true:=(by simpa using lr);refine' eN func33;(try refine' uD);refine' sQ<;>intro h;exfalso;have:=aU h;omega;clear h;(try refine' uD);refine me 3 ?_;(repeat first|refine' uD|(refine' oX;(first|exact iV A9|exact iV Hf|exact iV WS|exact jB (g:=(iD.mk a0 a1 a2 a3 a4 a5).g)|exact jB (g:=(iD.mk b0 b1 b2 b3 b4 b5).g));exact kq));refine' sQ<;>intro h;(try refine' uD);refine' rT;rfl;exfalso;rw[F2]at h;cases h;rw[bA ho]at WS;rw[aV (λq=>ho q.1)];refine' eN func33;(try refine' uD);refine' sQ<;>intro h;exfalso;have:=aU h;omega;clear h;(try refine' uD);refine me 3 ?_;(repeat first|refine' uD|(refine' oX;(first|exact iV A9|exact iV Hf|exact iV WS|exact jB (g:=(iD.mk a0 a1 a2 a3 a4 a5).g)|exact jB (g:=(iD.mk b0 b1 b2 b3 b4 b5).g));exact kq));refine' rT;rfl
    rw[aW nn];have js:(vb !=0)=true:=(by simpa using nn);refine' eN func33;(try refine' uD);refine' sQ<;>intro h;exfalso;have:=aU h;omega;clear h;(try refine' uD);refine me 3 ?_;(repeat first|refine' uD|(refine' oX;(first|exact iV A9|exact iV Hf|exact jB (g:=(iD.mk a0 a1 a2 a3 a4 a5).g)|exact jB (g:=(iD.mk b0 b1 b2 b3 b4 b5).g));exact kq));refine' sQ<;>intro h;(try refine' uD);refine' rT;rfl;exfalso;rw[js]at h;cases h
   rw[aW ox];have js:(va !=0)=true:=(by simpa using ox);refine' eN func33;(try refine' uD);refine' sQ<;>intro h;exfalso;have:=aU h;omega;clear h;(try refine' uD);refine me 3 ?_;(repeat first|refine' uD|(refine' oX;(first|exact iV A9|exact jB (g:=(iD.mk a0 a1 a2 a3 a4 a5).g));exact kq));refine' sQ<;>intro h;(try refine' uD);refine' rT;rfl;exfalso;rw[js]at h;cases h
  rw[aV h7];by_cases uG:k=8∨k=9
  ·rw[aW uG];have hd4:d+1<=5:=ab;have IE:i64.wrap ((d:Int)+1)=((d+1:Nat):Int):=(by rw[jD ab];omega);by_cases hl:kids.length<1∨20<kids.length
   ·rw[aW hl];clear ih;rcases uG with rfl|rfl
    all_goals
     refine' eN func33
     (try refine' uD)
     refine' sQ<;>intro h
     ·exfalso;have:=aU h;omega
     clear h
     (repeat' first|refine' wb|refine xU [33] rfl ?_|refine' sN<;>intro h|fail)
     all_goals(first|(exfalso;(try simp only[cX,cP,bQ,dO,bk,dh,c9,dq,eO,eP,fV]at *);omega)|(refine' rT;rfl))
   ·rw[aV hl];generalize hR:pe V kids (d+1)=R;rcases uG with rfl|rfl
    all_goals
     refine' eN func33
     (try refine' uD)
     refine' sQ<;>intro h
     ·exfalso;have:=aU h;omega
     clear h
     (repeat' first|refine' wb|refine xU [33] rfl ?_|refine' sN<;>intro h|fail)
     all_goals(first|(exfalso;(try simp only[cX,cP,bQ,dO,bk,dh,c9,dq,eO,eP,fV]at *);omega)|skip)
    all_goals
     (try refine' uD)
     refine jf (S:=Nat) (λi=>iL [(0,.pat (iJ.mk _ (iD.mk a0 a1 a2 a3 a4 a5) (iD.mk b0 b1 b2 b3 b4 b5) oa ob kids).g.cells),(1,aq d),(107,aq kids.length),(108,aq i)]) (λ_=>⟨[],[],[]⟩) (λi=>i<=kids.length∧pe V (kids.drop i) (d+1)=R) (λi=>kids.length-i) 0 ⟨bm _,hR⟩
      (iE.le (aA ⟨.inl (aT (λk:Nat=>aq k) g1),an⟩)) aJ (λi hi=>?_)
     obtain⟨hi,kS⟩:=hi
     try clear h
     (try refine' uD)
     refine' sQ<;>intro h
     ·have iI:i<kids.length:=by have:=aU h;omega
      have hg:(iJ.gs kids)[((i:Int)).toNat]?=some kids[i].g:=by rw[iJ.jd];exact lg iI
      have ih:=ih kids[i] (bJ iI) hd4
      rw[bY iI,pe]at kS
      generalize kids[i]=x at hg ih kS
      generalize kG V x (d+1)=r at ih kS
      obtain⟨x0,⟨y0,y1,y2,y3,y4,y5⟩,⟨z0,z1,z2,z3,z4,z5⟩,x3,x4,x5⟩:=x
      rw[<-IE]at ih
      clear h
      (repeat first|refine' uD|(refine' oX;(first|exact cB [] ih|exact jA (q:=aI hg));exact kq))
      refine' sQ<;>intro h
      ·have js:r≠0:=by simpa[bne]using h
       rw[aW js]at kS
       subst kS
       (try refine' uD)
       refine' rT
       rfl
      ·have he:r=0:=by simpa[bne]using h
       rw[aV (λq=>q he)]at kS
       (try refine' uD)
       exact⟨i+1,⟨iI,kS⟩,by omega,iE.le (aB ⟨.inl (aT aq (jD (by unfold maxLen at zu;omega))),trivial⟩),aJ⟩
     ·have lk:i=kids.length:=by have:=aX h;omega
      subst lk
      rw[dv,pe]at kS
      subst kS
      (try refine' uD)
      refine' rT
      rfl
  ·rw[aV uG];clear ih;refine' eN func33;(repeat' first|refine' uD|refine' sN<;>intro h|fail);all_goals(first|(exfalso;(try simp only[cX,cP,bQ,dO,bk,dh,c9,dq,eO,eP,fV]at *);omega)|(refine' rT;rfl))
def Fm(hV:∀s:ByteArray,s.size<=maxLen->ak 82 [ay s] (ax (V s)))(t:iJ)(hz:mJ t.g):ak 9 [.g t.g] (aq (kG V t 1)):=by have h:=L8 hV t 1 hz af;generalize kG V t 1=r at h;obtain⟨k,⟨a0,a1,a2,a3,a4,a5⟩,⟨b0,b1,b2,b3,b4,b5⟩,oa,ob,kids⟩:=t;refine' eN func9;refine ace [(2,aq 0)] 1 (iJ.mk k (iD.mk a0 a1 a2 a3 a4 a5) (iD.mk b0 b1 b2 b3 b4 b5) oa ob kids).g.cells ⟨[],[],[]⟩ rfl ?_ ?_;(try refine' uN);exact⟨iE.le ⟨.inl rfl,trivial⟩,rfl,aJ⟩;(try refine' we @h);refine' rT;rfl
end Go.Proofs.YtckjndkmmfmjjaaGreatDoor