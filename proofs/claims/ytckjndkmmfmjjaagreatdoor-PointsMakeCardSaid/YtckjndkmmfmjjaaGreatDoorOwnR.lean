/- Steps to pointsMake_card. -/
import Derived.Test.YtckjndkmmfmjjaaGreatDoorPureE
import Derived.Test.YtckjndkmmfmjjaaGreatDoorOwnN
set_option linter.all false
open Go.IntKind (i64)
open Go.Proofs.Tryz
set_option maxRecDepth 100000
set_option maxHeartbeats 32000000
namespace Go.Proofs.YtckjndkmmfmjjaaGreatDoor
open Go Go.Pure Go.Lib
attribute [local irreducible] PW jQ ju PO PC lS
def acX(s:ByteArray)(hm:s.size<=1000):ak 86 [ay s] (ax (validD s.data.toList)):=by
 have kl:s.data.toList.length=s.size:=by rw[fA];rfl
 refine' eN func86;(try refine' uN);refine jf (S:=Nat) (λi=>iL [(0,ay s),(3,aq i)]) (λ_=>⟨[],[],[]⟩) (λi=>i<=s.size∧validD (s.data.toList.drop i)=validD s.data.toList) (λi=>s.size-i) 0 ⟨bm _,rfl⟩
  (iE.le ⟨.inl rfl,.inl rfl,trivial⟩) aJ (λi hi=>?_)
 obtain⟨hi,hv⟩:=hi;(try refine' uN);refine' sQ<;>intro h
 ·have iI:i<s.size:=by have:=aU h;omega
  obtain⟨b0,g0,g1⟩:=byte_at iI;have x8:s[((i:Int)).toNat]?=some b0:=g0;have hlen:(s.data.toList.drop i).length=s.size-i:=by rw[eY,kl]
  have js:s.data.toList.drop i≠[]:=λe=>by rw[e]at hlen;simp at hlen;omega
  have BR:(s.data.toList.drop i).getD 0 0=b0:=by rw[dE,bD,b9,g1];rfl
  have Q3:=b0.toNat_lt;have nn:i64.wrap ((b0.toNat:Nat):Int)=((b0.toNat:Nat):Int):=wrap64 ab;clear h;(repeat first|refine' wa|refine oQ (nf rfl (ST rfl) rfl rfl (br _) x8) ?_|refine xU [4] rfl ?_);refine ja (env':=iL [(0,ay s),(3,aq i),(4,aq (b0.toNat:Nat))]) (H':=⟨[],[],[]⟩) (iE.le (aA ⟨.inl (aT aq nn),trivial⟩)) aJ ?_;by_cases c0:b0.toNat<128
  ·have hs:validD (s.data.toList.drop (i+1))=validD s.data.toList:=by
    rw[<-hv];have hq:s.data.toList.drop i=b0::s.data.toList.drop (i+1):=(by rw[bY (show i<s.data.toList.length by omega)];rw[aS ab]at g1;rw[cE g1]);rw[hq,validD_cons b0 _ c0]
   generalize b0.toNat=B at *
   (repeat' first|refine' wa|refine xU [14] rfl ?_|refine' sN<;>intro h|fail);all_goals(first|(exfalso;(try simp only[fX]at *);omega)|skip)
   exact⟨i+1,⟨iI,hs⟩,by omega,iE.le ⟨.inl rfl,.inl (aT aq (wrap64 ab)),trivial⟩,aJ⟩
  ·by_cases cb:b0.toNat<192∨248<=b0.toNat
   ·have hf:validD s.data.toList=false:=(by rw[<-hv];exact Zz js (by rw[BR];omega) (by rw[BR];exact cb));rw[hf];generalize b0.toNat=B at *
    (repeat' first|refine' wa|refine xU [14] rfl ?_|refine' sN<;>intro h|fail);all_goals(first|(refine' rT;rfl)|(exfalso;(try simp only[fX]at *);omega))
   ·obtain⟨n,least,off,hc⟩:∃n least off,ae9 b0.toNat n least off:=by
     unfold ae9;rcases(by omega:(192<=b0.toNat∧b0.toNat<224)∨(224<=b0.toNat∧b0.toNat<240)∨(240<=b0.toNat∧b0.toNat<248))with h|h|h
     exact⟨1,128,192,.inl ⟨h.1,h.2,rfl,rfl,rfl⟩⟩;exact⟨2,2048,224,.inr (.inl ⟨h.1,h.2,rfl,rfl,rfl⟩)⟩;exact⟨3,65536,240,.inr (.inr ⟨h.1,h.2,rfl,rfl,rfl⟩)⟩
    (repeat first|refine' wa|refine xU [6] rfl ?_);refine nK (iL [(0,ay s),(3,aq i),(4,aq ((b0.toNat-off:Nat):Int)),(5,aq n),(6,aq least)]) ⟨[],[],[]⟩ ?_ ?_
    ·have hw:i64.wrap (((b0.toNat:Nat):Int)-(off:Int))=((b0.toNat-off:Nat):Int):=by
      rcases hc with⟨a,b,rfl,rfl,rfl⟩|⟨a,b,rfl,rfl,rfl⟩|⟨a,b,rfl,rfl,rfl⟩<;>(rw[wrap64 ab];omega)
     rcases hc with⟨a,b,rfl,rfl,rfl⟩|⟨a,b,rfl,rfl,rfl⟩|⟨a,b,rfl,rfl,rfl⟩
     all_goals
      generalize b0.toNat=B at *
      (repeat' first|refine' wa|refine xU [14] rfl ?_|refine' sN<;>intro h|fail)
      all_goals(first|exact⟨iE.le (aA ⟨.inl (aT aq hw),an⟩),aJ⟩|(exfalso;(try simp only[fX]at *);omega))
    ·have hn3:1<=n∧n<=3∧b0.toNat-off<32:=(by rcases hc with⟨a,b,rfl,rfl,rfl⟩|⟨a,b,rfl,rfl,rfl⟩|⟨a,b,rfl,rfl,rfl⟩<;>omega);obtain⟨n1,n3,amr⟩:=hn3;have lC:i64.wrap ((i:Int)+(n:Int))=((i+n:Nat):Int):=(by rw[wrap64 ab];omega);(try refine' uN);refine' sQ<;>intro h
     ·have hf:validD s.data.toList=false:=by
       rw[<-hv];rw[lC]at h;have:=aU h;refine Sn (n:=n) js (by rw[BR];omega) ?_ ab;rw[BR];rcases hc with⟨a,b,rfl,rfl,rfl⟩|⟨a,b,rfl,rfl,rfl⟩|⟨a,b,rfl,rfl,rfl⟩<;>omega
      rw[hf];clear h;(try refine' uN);refine' rT;rfl
     ·have hl:n<(s.data.toList.drop i).length:=by
       rw[lC]at h;have:=aX h;omega
      have hld:=agy (l:=s.data.toList.drop i) (n:=n) (least:=least) (off:=off) (by rw[BR];exact hc) hl;rw[BR]at hld;obtain⟨LI,lL⟩:=hld;have kS:s.data.toList.drop (i+n+1)=(s.data.toList.drop i).drop (n+1):=(by rw[gr];rfl);have ny:∀k,(s.data.toList.drop i)[k]?=s.data.toList[i+k]? :=λk=>bD;clear h;(try refine' uN);refine jf (S:=Nat) (λk=>iL [(0,ay s),(3,aq i),(4,aq (cc (s.data.toList.drop i) (b0.toNat-off) k:Nat)),(5,aq n),(6,aq least),(7,aq ((k+1:Nat):Int))]) (λ_=>⟨[],[],[]⟩) (λk=>k<=n∧∀j,1<=j->j<=k->Iw (s.data.toList.drop i) j) (λk=>n-k) 0 ⟨bm _,λj h1 h2=>ab⟩
       (iE.le an) aJ (λk hk=>?_)
      obtain⟨hk,nT⟩:=hk;have sv:=aed (l:=s.data.toList.drop i) amr k nT;have hp:32*64^k<=8388608:=(by have:64^k<=64^3:=cf af ab;omega);(try refine' uN);refine' sQ<;>intro h
      ·have hkn:k<n:=(by have:=aU h;omega);obtain⟨b,q0,q1⟩:=byte_at (show i+(k+1)<s.size by omega);have hik:i64.wrap ((i:Int)+((k+1:Nat):Int))=((i+(k+1):Nat):Int):=(by rw[wrap64 ab];omega);have Lq:s[(i64.wrap ((i:Int)+((k+1:Nat):Int))).toNat]?=some b:=(by rw[hik];exact q0);have hgn:0<=i64.wrap ((i:Int)+((k+1:Nat):Int)):=(by rw[hik];omega);have hbd:(s.data.toList.drop i).getD (k+1) 0=b:=(by rw[dE,ny,q1];rfl);have D9:=b.toNat_lt;have hwb:i64.wrap ((b.toNat:Nat):Int)=((b.toNat:Nat):Int):=wrap64 ab;have LI:=LI (k+1) ab ab;have ams:cc (s.data.toList.drop i) (b0.toNat-off) (k+1)=cc (s.data.toList.drop i) (b0.toNat-off) k*64+(b.toNat-128):=(by rw[CL,hbd]);have ai4:Iw (s.data.toList.drop i) (k+1)↔128<=b.toNat∧b.toNat<192:=(by unfold Iw;rw[hbd]);rw[ai4,hv]at LI;clear h;by_cases hob:128<=b.toNat∧b.toNat<192
       ·have kR:i64.wrap (i64.wrap (i64.wrap ((cc (s.data.toList.drop i) (b0.toNat-off) k:Int)*64)+i64.wrap ((b.toNat:Nat):Int))-128)=(cc (s.data.toList.drop i) (b0.toNat-off) (k+1):Int):=by
         rw[ams,hwb];generalize cc (s.data.toList.drop i) (b0.toNat-off) k=C at *
         rw[wrap64 (n:=(C:Int)*64) ab,wrap64 (n:=(C:Int)*64+((b.toNat:Nat):Int)) ab,wrap64 ab];omega
        (repeat first|refine' uN|refine oQ (nf rfl (ST rfl) rfl rfl hgn Lq) ?_);refine' sQ<;>intro h;exfalso;rw[hwb]at h;have:=aU h;omega;clear h;(try refine' uN);refine' sQ<;>intro h;exfalso;rw[hwb]at h;have:=aU h;omega;clear h;(try refine' uN);exact⟨k+1,⟨hkn,λj h1 h2=>by by_cases hj:j=k+1;subst hj;exact ai4.2 hob;exact nT j h1 ab⟩,by omega,iE.le (aA ⟨.inl (aT aq kR),(aA ⟨.inl (aT aq (wrap64 ab)),trivial⟩)⟩),aJ⟩
       ·rw[LI hob];(repeat' first|refine' wa|refine oQ (nf rfl (ST rfl) rfl rfl hgn Lq) ?_|refine xU [22] rfl ?_|refine' sN<;>intro h|fail);all_goals(first|(refine' rT;rfl)|(exfalso;rw[hwb]at *;(try simp only[fX]at *);omega)|(exfalso;simp only[hwb]at *;(try simp only[fX]at *);omega))
      ·have hkn:k=n:=(by have:=aX h;omega);subst hkn;have lL:=lL nT;clear h LI;generalize cc (s.data.toList.drop i) (b0.toNat-off) k=C at *
       obtain⟨Z,hZ⟩:∃Z:Int,Z=((C:Nat):Int):=⟨_,rfl⟩;obtain⟨Y,hY⟩:∃Y:Int,Y=((least:Nat):Int):=⟨_,rfl⟩;rw[<-hZ,<-hY];by_cases hq:C<least∨1114111<C∨(55296<=C∧C<57344)
       ·rw[aW hq,hv]at lL;rw[lL];(repeat' first|refine' wa|refine xU [25] rfl ?_|refine' sN<;>intro h|fail);all_goals(first|(refine' rT;rfl)|(exfalso;(try simp only[fX]at *);omega))
       ·rw[aV hq,hv,<-kS]at lL;(repeat' first|refine' wa|refine xU [25] rfl ?_|refine' sN<;>intro h|fail);all_goals(first|(exfalso;(try simp only[fX]at *);omega)|skip)
        all_goals
         (try refine' uN)
         exact⟨i+k+1,⟨by omega,lL.symm⟩,by omega,iE.le ⟨.inl rfl,.inl (aT aq (by rw[lC,wrap64 ab];omega)),trivial⟩,aJ⟩
 ·have lk:i=s.size:=by have:=aX h;omega
  subst lk;rw[dH ab]at hv;rw[<-hv];clear h;(try refine' uN);refine' rT;rfl
def VD(s:ByteArray):Bool:=validD s.data.toList
def E6(c e:Int):ak 85 [.g (.agg [.int .i64 c,.int .i64 e])] (aq (iZ c e)):=by
 by_cases h1:999999999999999999<c∨c< -999999999999999999∨40<e∨e< -40
 ·rw[show iZ c e=3 by unfold iZ;rw[aW h1]];refine' eN func85;(repeat' first|refine' wa|refine xU [3] rfl ?_|refine' sN<;>intro h|fail);all_goals(first|(refine' rT;rfl)|(exfalso;(try simp only[fX]at *);first|done|omega)|(exfalso;simp at h;done)|(exfalso;simp_all;done))
 ·by_cases h2:c.tmod 10=0∧(c≠0∨e≠0)
  ·rw[show iZ c e=2 by
    unfold iZ;rw[aV h1];by_cases h3:c=0∧e≠0;rw[aW h3];rw[aV h3,aW ⟨by omega,h2.1⟩]]
   refine' eN func85;(repeat' first|refine' wa|refine oQ jR ?_|refine xU [5] rfl ?_|refine' sN<;>intro h|fail);all_goals(first|(refine' rT;rfl)|(exfalso;(try simp only[fX]at *);first|done|omega)|(exfalso;simp at h;done)|(exfalso;simp_all;done)|(exfalso;simp_all;omega))
  ·rw[show iZ c e=0 by
    unfold iZ;rw[aV h1];have h0:(0:Int).tmod 10=0:=rfl;by_cases h3:c=0;subst h3;rw[aV (λh=>h2 ⟨h0,.inr h.2⟩),aV (λh=>h.1 rfl)];rw[aV (λh=>h3 h.1),aV (λh=>h2 ⟨h.2,.inl h3⟩)]]
   refine' eN func85;(repeat' first|refine' wa|refine oQ jR ?_|refine xU [5] rfl ?_|refine' sN<;>intro h|fail);all_goals(first|(exfalso;(try simp only[fX]at *);first|done|omega)|(exfalso;simp at h;done)|(exfalso;simp_all;done)|(exfalso;simp_all;done)|skip)
   all_goals((try refine' uN);refine' rT;rfl)
def PF:∀(v:iD) (n d:Nat),mJ v.g->n<=2000->d<=21->al 57 [.ptr 0 0,.g v.g,aq d] ⟨[[aq n]],[],[]⟩ (aq (kJ VD v n d).2) ⟨[[aq ((kJ VD v n d).1:Nat)]],[],[]⟩
 |.mk k y c e t l,n,d,hz,hn,hd=>by
  obtain⟨He,V4⟩:=iD.uX hz;have g1:(iD.gs l).length=l.length:=by simp[iD.jd]
  have hw:i64.wrap ((n:Int)+1)=((n+1:Nat):Int):=by rw[wrap64 ab];omega
  have hD:=E6 c e;rw[uY];refine' eN func57;(repeat first|refine' wa|refine xU [2] rfl ?_);refine ja (env':=iL [(0,.ptr 0 0),(2,aq d),(4,.ptr 1 0)]) (H':=⟨[[aq (n+1:Nat)],[aq k,ax y,aq c,aq e,ay t,av (iD.gs l)]],[],[]⟩) (iE.le an) (kW.of_eq (aT (λz=>(⟨[[aq z],[aq k,ax y,aq c,aq e,ay t,av (iD.gs l)]],[],[]⟩:PH)) hw)) ?_;by_cases h1:2000<n+1∨20<d
  ·rw[aW h1];(repeat' first|refine' wa|refine xU [4] rfl ?_|refine' sN<;>intro h|fail);all_goals(first|(refine' rB;all_goals rfl)|(exfalso;(try simp only[fX]at *);first|done|omega)|(exfalso;simp at h;done)|(exfalso;simp_all;done))
  ·rw[aV h1];(repeat' first|refine' wa|refine xU [4] rfl ?_|refine' sN<;>intro h|fail);all_goals(first|(exfalso;(try simp only[fX]at *);first|done|omega)|(exfalso;simp at h;done)|(exfalso;simp_all;done)|skip)
   all_goals try clear h
   by_cases h2:k=1∨k=2
   ·rw[aW h2];rcases h2 with rfl|rfl
    all_goals
     (try refine' uN)
     refine' rB
     all_goals rfl
   ·rw[aV h2];by_cases h3:k=3
    ·subst h3;rw[aW rfl];(try refine' wk @hD);refine' rB;all_goals rfl
    ·rw[aV h3];by_cases h4:k=4
     ·subst h4;rw[aW rfl];by_cases hs:1000<t.size
      ·rw[aW hs];(repeat' first|refine' wa|refine xU [11] rfl ?_|refine' sN<;>intro h|fail);all_goals(first|(refine' rB;all_goals rfl)|(exfalso;(try simp only[fX]at *);first|done|omega)|(exfalso;simp at h;done)|(exfalso;simp_all;done))
      ·rw[aV hs];have hT:=acX t ab;have Nw:VD t=validD t.data.toList:=rfl;rw[Nw];cases hb:validD t.data.toList with
       |true=>
        rw[aW rfl];rw[hb]at hT;(repeat' first|refine' wk @hT|refine' sN<;>intro h|fail);all_goals(first|(exfalso;(try simp only[fX]at *);first|done|omega)|(exfalso;simp at h;done)|(exfalso;simp_all;done)|(refine' rB;all_goals rfl))
       |false=>
        rw[aV af];rw[hb]at hT;(repeat' first|refine' wk @hT|refine' sN<;>intro h|fail);all_goals(first|(exfalso;(try simp only[fX]at *);first|done|omega)|(exfalso;simp at h;done)|(exfalso;simp_all;done)|(refine' rB;all_goals rfl))
     ·rw[aV h4];by_cases h5:k=5
      ·subst h5;rw[aW rfl];by_cases h6:200<l.length
       ·rw[aW h6];(repeat' first|refine' wa|refine xU [16] rfl ?_|refine' sN<;>intro h|fail);all_goals(first|(refine' rB;all_goals rfl)|(exfalso;(try simp only[fX]at *);first|done|omega)|(exfalso;simp at h;done)|(exfalso;simp_all;done))
       ·rw[aV h6];have ih:∀x∈l,∀m:Nat,m<=2000->al 57 [.ptr 0 0,.g x.g,aq ((d+1:Nat):Int)] ⟨[[aq m]],[],[]⟩ (aq (kJ VD x m (d+1)).2) ⟨[[aq ((kJ VD x m (d+1)).1:Nat)]],[],[]⟩:=λx hx m hm=>PF x m (d+1) (V4 x hx) hm ab;have IE:i64.wrap ((d:Int)+1)=((d+1:Nat):Int):=(by rw[wrap64 ab];omega);generalize hR:oM VD l (n+1) (d+1)=R;(repeat' first|refine' wa|refine xU [16] rfl ?_|refine' sN<;>intro h|fail);all_goals(first|(exfalso;(try simp only[fX]at *);first|done|omega)|(exfalso;simp at h;done)|(exfalso;simp_all;done)|skip)
        try clear h
        (try refine' uN);refine jK (S:=Nat×Nat) (λs=>[(0,.ptr 0 0),(2,aq d),(59,av (iD.gs l)),(60,aq l.length),(61,aq s.1)])
         (λs=>⟨[[aq (s.2:Nat)],[aq 5,ax y,aq c,aq e,ay t,av (iD.gs l)]],[],[]⟩) (λs=>s.1<=l.length∧s.2<=2000∧oM VD (l.drop s.1) s.2 (d+1)=R) (λs=>l.length-s.1) (0,n+1) ⟨bm _,by dsimp only;omega,hR⟩
         (iE.le (aB ⟨.inl (aT (λk:Nat=>aq k) g1),an⟩)) aJ (λ_=>rfl) (λs hs=>?_)
        obtain⟨i,m⟩:=s;obtain⟨hi,hm,kS⟩:=hs;dsimp only at hi hm kS;(try refine' uN);refine' sQ<;>intro h
        ·have iI:i<l.length:=(by have:=aU h;omega);have hg:(iD.gs l)[((i:Int)).toNat]?=some l[i].g:=(by rw[iD.jd];exact lg iI);have ih:=ih l[i] (bJ iI) m hm;have nT:=C8 (V:=VD) l[i] m (d+1);rw[bY iI,oM]at kS;generalize l[i]=x at hg ih kS nT;generalize kJ VD x m (d+1)=r at ih kS nT;obtain⟨r1,r2⟩:=r;obtain⟨x0,x1,x2,x3,x4,x5⟩:=x;dsimp only at ih kS nT;rw[<-IE]at ih;clear h;(repeat first|refine' uN|refine oQ (cB [] ih) ?_|refine oQ (jA (q:=aI hg)) ?_);refine' sQ<;>intro h
         ·have js:¬r2=0:=(by simpa[bne]using h);rw[aV js]at kS;subst kS;(try refine' uN);refine' rB;all_goals rfl
         have he:r2=0:=(by simpa[bne]using h);rw[aW he]at kS;(try refine' uN);exact⟨(i+1,r1),⟨iI,(nT he).2,kS⟩,by dsimp only;omega,iE.le (aC ⟨.inl (aT aq (wrap64 ab)),trivial⟩),lq.mk [(iD.mk x0 x1 x2 x3 x4 x5).g.cells.map PV.g] [] [] rfl⟩
        ·have lk:i=l.length:=(by have:=aX h;omega);subst lk;rw[dv,oM]at kS;subst kS;(try refine' uN);refine' rB;all_goals rfl
      ·rw[aV h5];(repeat' first|refine' wa|refine xU [6] rfl ?_|refine' sN<;>intro h|fail);all_goals(first|(refine' rB;all_goals rfl)|(exfalso;(try simp only[fX]at *);first|done|omega)|(exfalso;simp at h;done)|(exfalso;simp_all;done))
def vu(v:iD)(hz:mJ v.g):ak 30 [.g v.g] (aq (kJ VD v 0 1).2):=by have h:=PF v 0 1 hz ab ab;generalize kJ VD v 0 1=r at h⊢;obtain⟨r1,r2⟩:=r;obtain⟨k,y,c,e,t,l⟩:=v;dsimp only at h;refine' eN func30;(try refine' we @h);refine' rT;rfl
end Go.Proofs.YtckjndkmmfmjjaaGreatDoor
namespace Go.Proofs.YtckjndkmmfmjjaaGreatDoor
end Go.Proofs.YtckjndkmmfmjjaaGreatDoor
namespace Go.Proofs.YtckjndkmmfmjjaaGreatDoor
open Go Go.Pure
attribute [local irreducible] PW jQ ju PO PC lS
def A7:∀(a b:iD),mJ a.g->mJ b.g->ak 32 [.g a.g,.g b.g] (aq (T7 a b))
 |.mk k y c e t l,.mk k' y' c' e' t' l',ha,hb=>by
  obtain⟨He,V4⟩:=iD.uX ha;obtain⟨PG,hmb⟩:=iD.uX hb;have ih:∀x∈l,∀z∈l',ak 32 [.g x.g,.g z.g] (aq (T7 x z)):=λx hx z hz=>A7 x z (V4 x hx) (hmb z hz);have g1:(iD.gs l).length=l.length:=by simp[iD.jd]
  have g2:(iD.gs l').length=l'.length:=by simp[iD.jd]
  rw[Le];by_cases k1:k=1∨k'=1
  ·rw[aW k1];by_cases hk:k=k'
   ·rw[aW hk];refine' eN func32;(repeat' first|refine' wb|refine xU [5] rfl ?_|refine' sN<;>intro h|fail);all_goals(first|(refine' rT;rfl)|(exfalso;(try simp only[fX]at *);first|done|omega)|(exfalso;simp at h;done)|(exfalso;simp_all;done))
   ·rw[aV hk];refine' eN func32;(repeat' first|refine' wb|refine xU [5] rfl ?_|refine' sN<;>intro h|fail);all_goals(first|(refine' rT;rfl)|(exfalso;(try simp only[fX]at *);first|done|omega)|(exfalso;simp at h;done)|(exfalso;simp_all;done))
  ·rw[aV k1];by_cases hk:k=k'
   ·subst hk;rw[aV aa];have kd:(k==1)=false:=bk.2 ab;by_cases k2:k=2
    ·subst k2;rw[aW rfl];cases y<;>cases y';all_goals
      refine' eN func32
      (try refine' uD)
      refine' rT
      rfl
    ·rw[aV k2];by_cases k3:k=3
     ·subst k3;rw[aW rfl];by_cases TO:c=c'∧e=e'
      ·rw[bU TO];obtain⟨rfl,rfl⟩:=TO;refine' eN func32;(repeat' first|refine' uD|refine' sN<;>intro h|fail);all_goals(first|(refine' rT;rfl)|(exfalso;simp at h;done)|(exfalso;simp_all;done))
      ·rw[bA TO];refine' eN func32;(repeat' first|refine' uD|refine' sN<;>intro h|fail);all_goals(first|(refine' rT;rfl)|(exfalso;simp_all;done))
     ·rw[aV k3];by_cases k4:k=4
      ·subst k4;rw[aW rfl];cases hb:(t.toList==t'.toList)with
       |true=>
        refine' eN func32;(repeat' first|refine' uD|refine' sN<;>intro h|fail);all_goals(first|(refine' rT;rfl)|(exfalso;simp_all;done))
       |false=>
        refine' eN func32;(repeat' first|refine' uD|refine' sN<;>intro h|fail);all_goals(first|(refine' rT;rfl)|(exfalso;simp_all;done))
      ·rw[aV k4];by_cases k5:k=5
       ·subst k5;rw[aW rfl];by_cases hl:l.length=l'.length
        ·rw[aW hl];refine' eN func32;(repeat' first|refine' wb|refine xU [18] rfl ?_|refine' sN<;>intro h|fail);all_goals(first|(exfalso;(try simp only[fX]at *);first|done|omega)|(exfalso;simp at h;done)|(exfalso;simp_all;done)|skip)
         try clear h
         (try refine' uD);refine jf (S:=Nat×Int) (λs=>iL [(2,.ptr 0 0),(3,.ptr 1 0),(6,aq s.2),(61,aq l.length),(62,aq s.1)])
          (λs=>⟨[[aq 5,ax y,aq c,aq e,ay t,av (iD.gs l)],[aq 5,ax y',aq c',aq e',ay t',av (iD.gs l')]],[],[]⟩)
          (λs=>s.1<=l.length∧Ob (l.drop s.1) (l'.drop s.1) s.2=Ob l l' 2) (λs=>l.length-s.1) (0,2) ⟨bm _,rfl⟩
          (iE.le (aB ⟨.inl (aT (λk:Nat=>aq k) g1),an⟩)) aJ (λs hs=>?_)
         obtain⟨i,acc⟩:=s;obtain⟨hi,kS⟩:=hs;dsimp only at hi kS;(try refine' uD);refine' sQ<;>intro h;have iI:i<l.length:=(by have:=aU h;omega);have vy:i<l'.length:=ab;have hg:(iD.gs l)[((i:Int)).toNat]?=some l[i].g:=(by rw[iD.jd];exact lg iI);have sX:(iD.gs l')[((i:Int)).toNat]?=some l'[i].g:=(by rw[iD.jd];exact lg vy);have ih:=ih l[i] (bJ iI) l'[i] (bJ vy);rw[bY iI,bY vy,Ob]at kS;generalize l[i]=x at hg ih kS;generalize l'[i]=z at sX ih kS;generalize T7 x z=r at ih kS;obtain⟨x0,x1,x2,x3,x4,x5⟩:=x;obtain⟨z0,z1,z2,z3,z4,z5⟩:=z;clear h;(repeat first|refine' uD|(refine' oX;(first|exact iV ih|exact jA (q:=aI hg)|exact jA (q:=aI sX));exact kq));refine' sQ<;>intro h;rw[aW (aU h)]at kS;clear h;(try refine' uD);exact⟨(i+1,r),⟨iI,kS⟩,by dsimp only;omega,iE.le (aC ⟨.inl (aT aq (wrap64 (by simp only[maxLen]at He;omega))),trivial⟩),aJ⟩;rw[aV (aX h)]at kS;clear h;(try refine' uD);exact⟨(i+1,acc),⟨iI,kS⟩,by dsimp only;omega,iE.le (aC ⟨.inl (aT aq (wrap64 (by simp only[maxLen]at He;omega))),trivial⟩),aJ⟩
         ·have lk:i=l.length:=(by have:=aX h;omega);subst lk;rw[dv,hl,dv,Ob]at kS;subst kS;(try refine' uD);refine' rT;rfl;all_goals simp
        ·rw[aV hl];refine' eN func32;(repeat' first|refine' wb|refine xU [18] rfl ?_|refine' sN<;>intro h|fail);all_goals(first|(refine' rT;rfl)|(exfalso;(try simp only[fX]at *);first|done|omega)|(exfalso;simp at h;done)|(exfalso;simp_all;done))
       ·rw[aV k5];refine' eN func32;(repeat' first|refine' uD|refine' sN<;>intro h|fail);all_goals(first|(exfalso;(try simp only[fX]at *);first|done|omega)|(exfalso;simp at h;done)|(exfalso;simp_all;done)|(refine' rT;rfl))
   ·rw[aW hk];refine' eN func32;(repeat' first|refine' wb|refine xU [7] rfl ?_|refine' sN<;>intro h|fail);all_goals(first|(refine' rT;rfl)|(exfalso;(try simp only[fX]at *);first|done|omega)|(exfalso;simp at h;done)|(exfalso;simp_all;done))
def Us:∀(a b:iD),mJ a.g->mJ b.g->ak 25 [.g a.g,.g b.g] (ax (Ac a b))
 |.mk k y c e t l,.mk k' y' c' e' t' l',ha,hb=>by
  obtain⟨He,V4⟩:=iD.uX ha;obtain⟨PG,hmb⟩:=iD.uX hb;have ih:∀x∈l,∀z∈l',ak 25 [.g x.g,.g z.g] (ax (Ac x z)):=λx hx z hz=>Us x z (V4 x hx) (hmb z hz);have g1:(iD.gs l).length=l.length:=by simp[iD.jd]
  have g2:(iD.gs l').length=l'.length:=by simp[iD.jd]
  by_cases hs:k=k'∧y=y'∧(c=c'∧e=e')∧t=t'∧l.length=l'.length
  ·obtain⟨rfl,rfl,⟨rfl,rfl⟩,rfl,hl⟩:=hs;have hv:Ac (.mk k y c e t l) (.mk k y c e t l')=tA l l':=(by rw[Ac];simp);rw[hv];refine' eN func25;(repeat' first|refine' wb|refine xU [3] rfl ?_|refine' sN<;>intro h|fail);all_goals(first|(exfalso;simp_all;done)|skip)
   (try refine' uD);refine jf (S:=Nat) (λi=>iL [(2,.ptr 0 0),(3,.ptr 1 0),(43,aq l.length),(44,aq i)])
    (λ_=>⟨[[aq k,ax y,aq c,aq e,ay t,av (iD.gs l)],[aq k,ax y,aq c,aq e,ay t,av (iD.gs l')]],[],[]⟩)
    (λi=>i<=l.length∧tA (l.drop i) (l'.drop i)=tA l l') (λi=>l.length-i) 0 ⟨bm _,rfl⟩
    (iE.le (aA ⟨.inl (aT (λk:Nat=>aq k) g1),an⟩)) aJ (λi hs=>?_)
   obtain⟨hi,kS⟩:=hs;clear h;(try refine' uD);refine' sQ<;>intro h
   ·have iI:i<l.length:=(by have:=aU h;omega);have vy:i<l'.length:=ab;have hg:(iD.gs l)[((i:Int)).toNat]?=some l[i].g:=(by rw[iD.jd];exact lg iI);have sX:(iD.gs l')[((i:Int)).toNat]?=some l'[i].g:=(by rw[iD.jd];exact lg vy);have ih:=ih l[i] (bJ iI) l'[i] (bJ vy);rw[bY iI,bY vy,tA]at kS;generalize l[i]=x at hg ih kS;generalize l'[i]=z at sX ih kS;generalize Ac x z=r at ih kS;obtain⟨x0,x1,x2,x3,x4,x5⟩:=x;obtain⟨z0,z1,z2,z3,z4,z5⟩:=z;clear h;cases r with
    |true=>
     (repeat first|refine' uD|(refine' oX;(first|exact iV ih|exact jA (q:=aI hg)|exact jA (q:=aI sX));exact kq));exact⟨i+1,⟨iI,by simpa using kS⟩,by omega,iE.le (aB ⟨.inl (aT aq (wrap64 (by simp only[maxLen]at He;omega))),trivial⟩),aJ⟩
    |false=>
     (repeat first|refine' uD|(refine' oX;(first|exact iV ih|exact jA (q:=aI hg)|exact jA (q:=aI sX));exact kq));refine' rT;simpa using kS
   have lk:i=l.length:=(by have:=aX h;omega);subst lk;rw[dv,hl,dv,tA]at kS;(try refine' uD);refine' rT;exact kS
  ·have hv:Ac (.mk k y c e t l) (.mk k' y' c' e' t' l')=false:=by
    cases hq:Ac (.mk k y c e t l) (.mk k' y' c' e' t' l')with
    |false=>rfl
    |true=>
     have:=(EJ _ _).1 hq;simp only[iD.mk.injEq]at this;obtain⟨h1,h2,h3,h4,h5,h6⟩:=this;exact absurd ⟨h1,h2,⟨h3,h4⟩,h5,by rw[h6]⟩ hs
   rw[hv];have hlz:((iD.gs l).length:Int)=((iD.gs l').length:Int)->l.length=l'.length:=(by rw[g1,g2];omega);have htz:t.toList=t'.toList->t=t':=Hu;refine' eN func25;(repeat' first|refine' wb|refine xU [3] rfl ?_|refine' sN<;>intro h|fail);all_goals(first|(refine' rT;rfl)|(exfalso;simp_all;done))
end Go.Proofs.YtckjndkmmfmjjaaGreatDoor