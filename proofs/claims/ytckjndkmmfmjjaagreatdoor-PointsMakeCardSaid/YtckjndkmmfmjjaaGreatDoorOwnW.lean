/- Steps to pointsMake_card. -/
import Derived.Test.YtckjndkmmfmjjaaGreatDoorOwnU
set_option linter.all false
open Go.IntKind (i64)
open Go.Proofs.Tryz
set_option maxRecDepth 100000
set_option maxHeartbeats 32000000
namespace Go.Pure.V
open Go Go.Proofs Go.Proofs.YtckjndkmmfmjjaaGreatDoor
attribute [local irreducible] PW jQ ju PO PC lS
variable{v:Bool}{n:List Nat}
def aav{u:Bool}{m l:List Nat}:al 78 [.ptr 0 0,ax false,av (iG l)] ⟨[[ax u,av (iG m),ax v,av (iG n)]],[],[]⟩ (.ptr 0 0) ⟨[[ax false,av (iG l),ax v,av (iG n)]],[],[]⟩:=by refine' eN func78;(try refine' uN);refine' rB;all_goals rfl
def adi{x:Int}(hm:(iF x.natAbs).length<=1000000):al 67 [.ptr 0 0,.ptr 1 0] ⟨[[ax false,.iM],[ax (decide (x<0)),av (iG (iF x.natAbs)),ax v,av (iG n)]],[],[]⟩ (.ptr 0 0) ⟨[jn x,[ax (decide (x<0)),av (iG (iF x.natAbs)),ax v,av (iG n)]],[],[]⟩:=by
 have ht:=CR (l:=iF x.natAbs) hm;have hg:=mR (p:= ax false) (q:=.iM) (neg:=decide (x<0)) (l:=iF x.natAbs);rw[HK]at hg;unfold jn;clear hm;generalize iF x.natAbs=xs at *
 generalize decide (x<0)=xb at *
 refine' eN func67;(repeat first|refine' wc|(refine' oX;(first|exact iV ht|exact cD [] hg);exact kq)|refine' xW [1]);refine' rB;all_goals rfl
variable{Y:Nat}
def NS{x:Int}(hY:Y≠0)(hx:x.natAbs<WB*WB∨Y<WB*WB)(AH:(iF x.natAbs).length<=10000)(hm:(iF Y).length<=10000)(hc:Nat.gcd x.natAbs Y=1):al 45 [.ptr 0 0,.ptr 0 0,.ptr 0 2] ⟨[jO x Y],[],[]⟩ (.ptr 0 0) ⟨[jO x Y],[],[]⟩:=by
 have AI:=adi (x:=x) (v:=false) (n:=iF Y) ab;have zf:=UA (p:=decide (x<0)) (l:=iF x.natAbs) (b:=Y) ab;have hn:=mH (A:=x.natAbs) (B:=Y) (p:=decide (x<0)) hx AH hY hm;rw[hc,fe,fe]at hn;have hp:=jl hY;unfold jO;unfold jn at *
 clear hx AH hm hc hY;generalize iF x.natAbs=xs at *
 generalize iF Y=ys,decide (x<0)=s at *
 refine' eN func45;(try refine' uN);refine' sQ<;>intro h;exfalso;have hh:=bQ.1 h;omega;clear h;(try refine' wg @AI @zf @hn);refine' rB;all_goals rfl
def Qo{x:Int}(hY:Y≠0)(hx:x.natAbs<WB*WB∨Y<WB*WB)(AH:(iF x.natAbs).length<=10000)(hm:(iF Y).length<=10000)(hc:Nat.gcd x.natAbs Y=1):al 142 [.ptr 0 0,.ptr 0 0] ⟨[jO x Y],[],[]⟩ (.ptr 0 0) ⟨[jO x Y],[],[]⟩:=by
 have h:=NS hY hx AH hm hc;have e1:=tF (p:=decide (x<0)) (q:=false) (l:=iF x.natAbs) hY;unfold jO at *
 clear hx AH hm hc hY;generalize iF x.natAbs=xs at *
 generalize iF Y=ys,decide (x<0)=s at *
 refine' eN func142;(try refine' wi @e1 @h);refine' rB;all_goals rfl
def SJ{x:Int}(hm:(iF x.natAbs).length<=1000000):al 143 [.ptr 0 0,.ptr 0 0] ⟨[[ax (decide (x<0)),av (iG (iF x.natAbs)),ax v,av (iG n)]],[],[]⟩ (.ptr 0 0) ⟨[[ax false,av (iG (iF x.natAbs)),ax v,av (iG n)]],[],[]⟩:=by
 have ht:=CR (l:=iF x.natAbs) hm;have hg:=aav (u:=decide (x<0)) (m:=iF x.natAbs) (v:=v) (n:=n) (l:=iF x.natAbs);clear hm;generalize iF x.natAbs=xs at *
 generalize decide (x<0)=s at *
 refine' eN func143;(try refine' wf @ht @hg);refine' rB;all_goals rfl
def Wv{x:Int}(hY:Y≠0)(hx:x.natAbs<WB*WB∨Y<WB*WB)(AH:(iF x.natAbs).length<=10000)(hm:(iF Y).length<=10000)(hc:Nat.gcd x.natAbs Y=1):al 105 [.ptr 0 0,.ptr 0 0] ⟨[jO x Y],[],[]⟩ (.ptr 0 0) ⟨[jO (x.natAbs:Int) Y],[],[]⟩:=by
 have h:=Qo hY hx AH hm hc;have ha:=SJ (x:=x) (v:=false) (n:=iF Y) ab;have hr:jO (x.natAbs:Int) Y=[ax false,av (iG (iF x.natAbs)),ax false,av (iG (iF Y))]:=by unfold jO;rw[bM,CT]
 rw[hr];unfold jO at h⊢;clear hx AH hm hc hY hr;generalize iF x.natAbs=xs at *
 generalize iF Y=ys,decide (x<0)=s at *
 refine' eN func105;(repeat first|refine' wc|(refine' oX;(first|exact cD [] h|exact cB [] ha);exact kq)|refine' xW []);refine' rB;all_goals rfl
def Ww:al 71 [aq 9] ⟨[],[],[]⟩ (.ptr 0 0) ⟨[jO 1000000000 1],[],[]⟩:=by
 have h2:=zn (n:=9) af af;have h3:=A8 (x:=1000000000) (jv (n:=(1000000000:Int).natAbs) (k:=1) af af);rw[show(10:Nat)^(9:Int).toNat=(1000000000:Int).natAbs by decide]at h2;unfold jO at *
 unfold jn at *
 rw[show decide ((1000000000:Int)<0)=false from rfl]at *
 generalize iF (1000000000:Int).natAbs=ts at *
 generalize iF 1=os at *
 refine PC.Kx (v:=.ptr 0 0) (H1:=⟨[[ax false,av (iG ts),ax false,av (iG os)]],[],[]⟩) ?_ [0] [] [] rfl rfl rfl rfl rfl rfl rfl rfl;refine' eN func71;(try refine' wf @h2 @h3);refine' rB;all_goals rfl
end Go.Pure.V
namespace Go.Proofs.YtckjndkmmfmjjaaGreatDoor
open Go Go.Pure
attribute [local irreducible] PW jQ ju PO PC lS
variable{c e:Int}
def aaw(h:iZ c e=0):N9 ((nO (iR c e)).natAbs:Int) (ni (iR c e)) 1000000000 1=s6 (c.natAbs:Int) e 1 9:=by
 have a:=(jT h).1;have hb:=sb (iR c e);rw[vM ab af,TA hb];have k:=aT Int.natAbs (DX (iR c e));rw[dI,dI,bM,bM]at k;have amC:((iR c e).natAbs:Int)=iR (c.natAbs:Int) e:=by unfold iR;rw[dI,fo,dJ,gH];rfl
 have k9:iR 1 9=1000000000*(sa:Int):=by rw[Ae];unfold iR;decide+kernel
 have hD:=yl;rw[k9,<-amC];generalize(iR c e).natAbs=K at *
 generalize (nO (iR c e)).natAbs=A,ni (iR c e)=B at *
 rw[<-rp (a:=(A:Int)*((1:Nat):Int)) (k:=(sa:Int)) ab,<-rp (a:=(K:Int)) (k:=(B:Int)) ab];have e1:(A:Int)*((1:Nat):Int)*(sa:Int)=(K:Int)*(B:Int):=by
  have:((A*sa:Nat):Int)=((K*B:Nat):Int):=by rw[k]
  rw[dJ,dJ]at this;simpa using this
 have e2:(1000000000:Int)*(B:Int)*(sa:Int)=1000000000*(sa:Int)*(B:Int):=by rw[cO,ez (B:Int),<-cO]
 rw[e1,e2]
def UD(h:iZ c e=0):al 19 [.g (.agg [.int .i64 c,.int .i64 e])] ⟨[],[],[]⟩ (.ptr 0 0) ⟨[V.jO (nO (iR c e)) (ni (iR c e))],[],[]⟩:=by have a:=(jT h).1;have hr:=V.Q8 h;obtain⟨e1,e2⟩:=TF (c:=c) (e:=e) ab;rw[V.xu,e1,e2]at hr;exact hr
def aax(h:iZ c e=0):(V.iF (nO (iR c e)).natAbs).length<=9∧(V.iF (ni (iR c e))).length<=7∧((nO (iR c e)).natAbs<V.WB*V.WB∨ni (iR c e)<V.WB*V.WB):=by have a:=(jT h).1;obtain⟨l1,l2,_⟩:=Fa h;obtain⟨e1,e2⟩:=TF (c:=c) (e:=e) ab;have l1:(V.iF (pg (kT c e) (kY e)).natAbs).length<=9:=l1;have l2:(V.iF (oO (kT c e) (kY e))).length<=7:=l2;rw[e1]at l1;rw[e2]at l2;refine⟨l1,l2,?_⟩;rw[<-e1,<-e2];by_cases he:e<0;left;unfold pg;rw[DW];refine bO (dY _ _) ?_;unfold kT;rw[show e.toNat=0 by omega,Int.pow_zero,Int.mul_one];unfold V.WB;omega;right;unfold oO;refine bO (dY _ _) ?_;unfold kY;rw[show(-e).toNat=0 by omega,eM];decide
def LY(v:iD)(hz:mJ v.g):ak 65 [.g v.g] (aq (lX VD v)):=by
 have hw:=vu v hz;obtain⟨k,y,c,e,t,l⟩:=v;rw[xQ];by_cases h0:(kJ VD (.mk k y c e t l) 0 1).2=0
 ·rw[aV (dM h0)];rw[h0]at hw;by_cases h5:k=5;subst h5;rw[aW rfl];refine' eN func65;(try refine' wk @hw);refine' rT;rfl
  ·rw[aV h5];by_cases h3:k=3
   ·subst h3;rw[aW rfl];have hd:=xP h0;have hr:=UD hd;obtain⟨l1,l2,l3⟩:=aax hd;have hb:=sb (iR c e);have x9:=V.Wv (x:=nO (iR c e)) (Y:=ni (iR c e)) ab l3 ab ab (QP (iR c e) yl);have h9:=V.Ww;have iI:(nO (iR c e)).natAbs<V.WB^9:=by
     have h1:=V.lP (V.ji (nO (iR c e)).natAbs);rw[V.jm]at h1;exact bX h1 (cf af l1)
    have PG:ni (iR c e)<V.WB^7:=(by have h1:=V.lP (V.ji (ni (iR c e)));rw[V.jm]at h1;exact bX h1 (cf af l2));have hc:=V.E9 (a:=((nO (iR c e)).natAbs:Int)) (b:=ni (iR c e)) (x:=1000000000) (y:=1) ab af (by rw[bM];omega) ab (V.jv (n:=(1000000000:Int).natAbs) (k:=1) af af) (V.jv (k:=1) af af)
     (V.jv (V.yr (i:=9) (j:=1) (by rw[bM];exact iI) af) af) (V.jv (V.yr (a:=1000000000) (i:=1) af PG) af)
    rw[aaw hd]at hc;clear hd l1 l2 l3 hb iI PG h0;generalize s6 (c.natAbs:Int) e 1 9=r at *
    unfold V.jO at *
    rw[bM,V.CT]at hc x9;generalize V.iF (nO (iR c e)).natAbs=xs at *
    generalize decide (nO (iR c e)<0)=xb,V.iF (ni (iR c e))=ys at *
    generalize V.iF (1000000000:Int).natAbs=ns at *
    generalize decide ((1000000000:Int)<0)=nb at *
    generalize V.iF 1=os at *
    refine' eN func65;(repeat' first|refine' uN|refine oQ (iV hw) ?_|refine oQ (cB [] hr) ?_|refine oQ (cD [] x9) ?_|refine oQ (cB [] h9) ?_|refine oQ (cB [] hc) ?_|refine' sN<;>intro h|fail);all_goals(first|(exfalso;(try simp only[cX,cP,bQ,dO,bk,dh,c9,dq,eO,eP,fV]at *);omega)|(refine' rT;first|(rw[aW (by(try simp only[cX,cP,bQ,dO,bk,dh,c9,dq,eO,eP,fV]at *);omega)]<;>rfl)|(rw[aV (by(try simp only[cX,cP,bQ,dO,bk,dh,c9,dq,eO,eP,fV]at *);omega)]<;>rfl)))
   ·rw[aV h3];clear h0;refine' eN func65;(repeat' first|refine' wk @hw|refine' sN<;>intro h|fail);all_goals(first|(exfalso;(try simp only[cX,cP,bQ,dO,bk,dh,c9,dq,eO,eP,fV]at *);omega)|(refine' rT;rfl))
 ·rw[aW h0];generalize(kJ VD (.mk k y c e t l) 0 1).2=w at *
  refine' eN func65;(repeat' first|refine' wk @hw|refine' sN<;>intro h|fail);all_goals(first|(exfalso;(try simp only[cX,cP,bQ,dO,bk,dh,c9,dq,eO,eP,fV]at *);omega)|(refine' rT;rfl))
def Qp:∀{v:iD},mc v->iY v=1∨iY v=2∨iY v=3∨iY v=4
 |.mk _ _ _ _ _ _,h=>h.1
def LZ{n:Int}(h: -9223372036854775808<=n∧n<9223372036854775808):i64.wrap n=n:=by simp[IntKind.wrap,IntKind.bits,IntKind.signed];omega
def Dp{ty:Int}:∀(n:Nat) (t:iJ),lp n t->ak 16 [.g t.g,.g (.agg [.int .i64 ty,.sl []])] (ax (tY t ty))
 |n+1,.mk k a b oa ob kids,h=>by
  obtain⟨h1,h2,h3,h4⟩:=h;have ih:8<=k->∀x∈kids,ak 16 [.g x.g,.g (.agg [.int .i64 ty,.sl []])] (ax (tY x ty)):=λh8 x hx=>Dp n x ((h4 h8).2 x hx);have g1:(iJ.gs kids).length=kids.length:=by simp[iJ.jd]
  rw[OW];obtain⟨a0,a1,a2,a3,a4,a5⟩:=a;obtain⟨b0,b1,b2,b3,b4,b5⟩:=b;by_cases k1:k=1;subst k1;rw[aW rfl];clear ih;refine' eN func16;(try refine' uN);refine' rT;rfl;rw[aV k1];by_cases uG:k=8∨k=9
  ·rw[aW uG];have zu:=(h4 ab).1;have QN:=ih ab;clear h1 h2 h3 h4 ih;generalize hR:uF kids ty=R;rcases uG with rfl|rfl
   all_goals
    refine' eN func16
    (try refine' uN)
    refine jK (S:=Nat) (λi=>[(3,.ptr 1 0),(14,av (iJ.gs kids)),(15,aq kids.length),(16,aq i)])
     (λ_=>⟨[(iJ.mk _ (iD.mk a0 a1 a2 a3 a4 a5) (iD.mk b0 b1 b2 b3 b4 b5) oa ob kids).g.cells.map PV.g,[aq ty,av []]],[],[]⟩) (λi=>i<=kids.length∧uF (kids.drop i) ty=R) (λi=>kids.length-i) 0 ⟨bm _,hR⟩
     (iE.le (aA ⟨.inl (aT (λk:Nat=>aq k) g1),an⟩)) aJ (λ_=>rfl) (λi hi=>?_)
    obtain⟨hi,kS⟩:=hi
    (try refine' uN)
    refine' sQ<;>intro h
    ·have iI:i<kids.length:=by have:=aU h;omega
     have hg:(iJ.gs kids)[((i:Int)).toNat]?=some kids[i].g:=by rw[iJ.jd];exact lg iI
     have ih:=QN kids[i] (bJ iI)
     rw[bY iI,uF]at kS
     generalize kids[i]=x at hg ih kS
     generalize tY x ty=r at ih kS
     obtain⟨x0,⟨y0,y1,y2,y3,y4,y5⟩,⟨z0,z1,z2,z3,z4,z5⟩,x3,x4,x5⟩:=x
     clear h
     cases r with
     |true=>
      rw[Bool.true_and]at kS;(repeat first|refine' uN|refine oQ (iV ih) ?_|refine oQ (jA (q:=aI hg)) ?_);exact⟨i+1,⟨iI,kS⟩,by omega,iE.le (aB ⟨.inl (aT aq (LZ ab)),trivial⟩),lq.mk [_] [] [] rfl⟩
     |false=>
      rw[dN]at kS;subst kS;(repeat first|refine' uN|refine oQ (iV ih) ?_|refine oQ (jA (q:=aI hg)) ?_);refine' rT;rfl
    ·have lk:i=kids.length:=by have:=aX h;omega
     subst lk
     rw[dv,uF]at kS
     subst kS
     (try refine' uN)
     refine' rT
     rfl
  ·rw[aV uG];have afs:2<=k∧k<=7:=ab;have Iq:(k==1)=false:=bk.2 k1;have hk8:decide (k≥8)=false:=bA ab;have ha:=Qp (h2 afs);have ha:a0=1∨a0=2∨a0=3∨a0=4:=ha;show PC _ _ _ _ (ax (decide (ty=6∨a0=1∨(if a0=2∨a0=3∨a0=4 then a0 else 0)=ty))) _;clear ih h1 h2 h3 h4;rcases ha with rfl|rfl|rfl|rfl
   all_goals
    refine' eN func16
    (repeat' first|refine' uN|refine' sN<;>intro h|fail)
    all_goals(first|(exfalso;simp_all;done)|(exfalso;(try simp only[cX,cP,bQ,dO,bk,dh,c9,dq,eO,eP,fV]at *);omega)|(refine' rT;simp_all;done)|(refine' rT;rw[gG];simp_all;done)|(refine' rT;rw[gG];simp_all;omega))
def Ed(v:iD)(hv:mc v):ak 66 [.g v.g] (.g (mo v).g):=by
 obtain⟨k,y,c,e,t,l⟩:=v;obtain⟨hk,_⟩:=hv;rw[mo];rcases hk with rfl|rfl|rfl|rfl
 all_goals
  refine' eN func66
  (try refine' uD)
  refine' rT
  rfl
def Wx(l:List iJ):(iJ.gs (vQ l)).length=l.length:=by rw[iJ.jd,xX];simp
def PU:∀(n:Nat) (t:iJ),lp n t->ak 44 [.g t.g] (.g (sH t).g)
 |n+1,.mk k a b oa ob kids,h=>by
  obtain⟨h1,h2,h3,h4⟩:=h;have ih:8<=k->∀x∈kids,ak 44 [.g x.g] (.g (sH x).g):=λh8 x hx=>PU n x ((h4 h8).2 x hx);have g1:(iJ.gs kids).length=kids.length:=by simp[iJ.jd]
  rw[sH];by_cases h8:8<=k
  ·have zu:=(h4 h8).1;have QN:=ih h8;rw[aV ab,aV ab,aV ab,aV ab,aW h8];have hk:k=8∨k=9:=ab;clear h1 h2 h3 h4 ih h8;obtain⟨a0,a1,a2,a3,a4,a5⟩:=a;obtain⟨b0,b1,b2,b3,b4,b5⟩:=b;rcases hk with rfl|rfl
   all_goals
    refine' eN func44
    (try refine' uD)
    refine Vb 2 15 36 (SZ rfl) rfl rfl ?_
    refine jK (S:=Nat) (λi=>[(2,.ptr 1 0),(3,.ptr 2 0),(38,av (iJ.gs kids)),(39,aq kids.length),(40,aq i)])
     (λi=>⟨[(iJ.mk _ (iD.mk a0 a1 a2 a3 a4 a5) (iD.mk b0 b1 b2 b3 b4 b5) oa ob kids).g.cells.map PV.g,
       [aq 0,aq 0,ax false,aq 0,aq 0,ay ⟨#[]⟩,.iM,aq 0,ax false,aq 0,aq 0,ay ⟨#[]⟩,.iM,ax false,ax false,.iM],
       [aq _,aq 0,ax false,aq 0,aq 0,ay ⟨#[]⟩,.iM,aq 0,ax false,aq 0,aq 0,ay ⟨#[]⟩,.iM,ax false,ax false,.own (iJ.gs (vQ (kids.take i))) 0]],[(36,i)],[]⟩) (λi=>i<=kids.length) (λi=>kids.length-i) 0 (bm _)
     (iE.le (aB ⟨.inl (aT (λk:Nat=>aq k) g1),an⟩)) aJ (λ_=>rfl) (λi hi=>?_)
    (try refine' uD)
    refine' sQ<;>intro h
    ·have iI:i<kids.length:=by have:=aU h;omega
     have hg:(iJ.gs kids)[((i:Int)).toNat]?=some kids[i].g:=by rw[iJ.jd];exact lg iI
     have ih:=QN kids[i] (bJ iI)
     have lR:iJ.gs (vQ (kids.take (i+1)))=iJ.gs (vQ (kids.take i))++[(sH kids[i]).g]:=by rw[b7 iI,xX,xX,eU,iJ.jd,iJ.jd,eU];rfl
     have hln:(iJ.gs (vQ (kids.take i))).length=i:=by rw[Wx];simp;omega
     generalize iJ.gs (vQ (kids.take i))=B at hln lR
     generalize kids[i]=x at hg ih lR
     generalize sH x=z at ih lR
     obtain⟨x0,⟨y0,y1,y2,y3,y4,y5⟩,⟨z0,z1,z2,z3,z4,z5⟩,x3,x4,x5⟩:=x
     obtain⟨v0,⟨u0,u1,u2,u3,u4,u5⟩,⟨w0,w1,w2,w3,w4,w5⟩,v3,v4,v5⟩:=z
     have vJ:∀x∈[(iJ.mk v0 (iD.mk u0 u1 u2 u3 u4 u5) (iD.mk w0 w1 w2 w3 w4 w5) v3 v4 v5).g],x.cells.length=16:=by intro x hx;rw[db.1 hx];rfl
     clear h
     (repeat first|refine' wc|(refine' oX;(first|exact iV ih|exact jA (q:=aI hg)|exact aP (xs:=[(iJ.mk v0 (iD.mk u0 u1 u2 u3 u4 u5) (iD.mk w0 w1 w2 w3 w4 w5) v3 v4 v5).g]) rfl (EL rfl) (SZ rfl) (BY rfl) (ZR rfl) rfl rfl rfl rfl hln vJ ad aO);exact kq)|refine' xW [2,3])
     refine⟨i+1,iI,by omega,iE.le (aC ⟨.inl (aT aq (LZ ab)),trivial⟩),lq.mk [(iJ.mk x0 (iD.mk y0 y1 y2 y3 y4 y5) (iD.mk z0 z1 z2 z3 z4 z5) x3 x4 x5).g.cells.map PV.g] [] [] ?_⟩
     rw[lR]
     rfl
    ·have lk:i=kids.length:=by have:=aX h;omega
     subst lk
     rw[du]
     (try refine' uD)
     refine' rT
     rfl
  ·rw[aV h8];clear ih h4;by_cases CI:2<=k∧k<=7
   ·have hba:=Ed a (h2 CI);rw[aW CI];obtain⟨a0,a1,a2,a3,a4,a5⟩:=a;generalize mo (.mk a0 a1 a2 a3 a4 a5)=ba at *
    obtain⟨c0,c1,c2,c3,c4,c5⟩:=ba;by_cases h7:k=7
    ·have hbb:=Ed b (h3 h7);rw[aW h7,aW h7,aW h7];subst h7;obtain⟨b0,b1,b2,b3,b4,b5⟩:=b;generalize mo (.mk b0 b1 b2 b3 b4 b5)=bb at *
     obtain⟨d0,d1,d2,d3,d4,d5⟩:=bb;clear h1 h2 h3 CI h8;refine' eN func44;(try refine' wo @hba @hbb);refine' rT;rfl
    ·rw[aV h7,aV h7,aV h7];have hk:k=2∨k=3∨k=4∨k=5∨k=6:=ab;obtain⟨b0,b1,b2,b3,b4,b5⟩:=b;clear h1 h2 h3 CI h8 h7;rcases hk with rfl|rfl|rfl|rfl|rfl
     all_goals
      refine' eN func44
      (try refine' wn @hba)
      refine' rT
      rfl
   rw[aV CI,aV ab,aV ab,aV ab];have hk:k=1:=ab;subst hk;obtain⟨a0,a1,a2,a3,a4,a5⟩:=a;obtain⟨b0,b1,b2,b3,b4,b5⟩:=b;clear h1 h2 h3 CI h8;refine' eN func44;(try refine' uD);refine' rT;rfl
def Wy{α:Type}{lt eq:α->α->Bool}{r:List α}{b x:α}(h1:lt b x=false)(h2:eq b x= !(lt x b)):ky lt (b::r) x=if eq b x=true then b::r else x::b::r:=by rw[ky,h1,h2];cases lt x b<;>rfl
def YI{α:Type}(f:α->iD)(lt eq:α->α->Bool){bs:List α}{x:α}(hlen:bs.length<=100000000)(Jv:∀b∈bs,ak 31 [.g (f b).g,.g (f x).g] (aq (hB (lt b x))))
  (heq:∀b∈bs,ak 32 [.g (f b).g,.g (f x).g] (aq (hB (eq b x)))) (Rv:∀b∈bs,lt b x=false->eq b x= !(lt x b)):
  ak 24 [av (iD.gs (bs.map f)),.g (f x).g] (av (iD.gs ((ky lt bs x).map f))):=by
 have pE:(iD.gs (bs.map f)).length=bs.length:=by simp[iD.jd]
 have sv:∀y∈iD.gs (bs.map f),y.cells.length=6:=λy hy=>by rw[iD.jd]at hy;obtain⟨v,_,rfl⟩:=cH.1 hy;exact iD.cells v
 have ny:∀i (h:i<bs.length),(iD.gs (bs.map f))[((i:Int)).toNat]?=some (f bs[i]).g:=λi h=>by rw[iD.jd,List.map_map];exact lg (f:=iD.g ∘ f) h
 generalize hfx:f x=fx at Jv heq⊢;obtain⟨v0,v1,v2,v3,v4,v5⟩:=fx;refine' eN func24;(try refine' uD);refine jf (S:=Nat) (λk=>iL [(0,av (iD.gs (bs.map f))),(3,.ptr 0 0),(5,aq k)]) (λ_=>⟨[(iD.mk v0 v1 v2 v3 v4 v5).g.cells.map PV.g],[],[]⟩) (λk=>k<=bs.length∧ky lt bs x=bs.take k++ky lt (bs.drop k) x) (λk=>bs.length-k) 0 ⟨bm _,rfl⟩
  (iE.le an) aJ (λk hk=>?_)
 obtain⟨hk,kS⟩:=hk;by_cases iI:k<bs.length
 ·have hg:=ny k iI;have PG:=Jv bs[k] (bJ iI);have YJ:=heq bs[k] (bJ iI);have htb:=Rv bs[k] (bJ iI);have Jn:bs.drop k=bs[k]::bs.drop (k+1):=bY iI;have lR:bs.take (k+1)=bs.take k++[bs[k]]:=b7 iI;rw[Jn]at kS;generalize hy:bs[k]=y at *
  generalize hfy:f y=fy at hg PG YJ;obtain⟨u0,u1,u2,u3,u4,u5⟩:=fy;have rH:decide ((k:Int)<((iD.gs (bs.map f)).length:Int))=true:=bU ab;cases hl:lt y x with
  |true=>
   rw[hl,show hB true=2 from rfl]at PG;rw[ky,aW hl]at kS;(try refine' uD);refine' sQ<;>intro h;clear h;(repeat first|refine' uD|(refine' oX;(first|exact iV PG|exact jA (q:=aI hg));exact kq));exact⟨k+1,⟨iI,by rw[kS,lR,bV];rfl⟩,by omega,iE.le (aA ⟨.inl (aT aq (LZ ab)),trivial⟩),aJ⟩;exfalso;rw[rH]at h;cases h
  |false=>
   rw[hl,show hB false=0 from rfl]at PG;have htb:=htb hl;rw[Wy hl htb]at kS;(try refine' uD);refine' sQ<;>intro h
   ·clear h;cases he:eq y x with
    |true=>
     rw[he,aW rfl]at kS;rw[he,show hB true=2 from rfl]at YJ;have N3:ky lt bs x=bs:=(by rw[kS,<-Jn,cA]);rw[N3];(repeat first|refine' uD|(refine' oX;(first|exact iV PG|exact iV YJ|exact jA (q:=aI hg));exact kq));refine' sQ<;>intro h;(repeat first|refine' uD|(refine' oX;(first|exact iV PG|exact iV YJ|exact jA (q:=aI hg));exact kq));refine' rT;rfl;exfalso;rw[rH]at h;cases h
    |false=>
     rw[he,aV af]at kS;rw[he,show hB false=0 from rfl]at YJ;have N3:iD.gs ((ky lt bs x).map f)=(iD.gs (bs.map f)).take k++[(iD.mk v0 v1 v2 v3 v4 v5).g]++(iD.gs (bs.map f)).drop k:=(by rw[kS,<-Jn,iD.jd,iD.jd,<-hfx];simp only[eU,dx,gf,List.map_drop,bV,dQ,dX]);rw[N3];have mM:∀z∈(iD.gs (bs.map f)).take k,z.cells.length=6:=λz hz=>sv z (cC hz);have rh:∀z∈(iD.gs (bs.map f)).drop k,z.cells.length=6:=λz hz=>sv z (fj hz);have UP:∀z∈[(iD.mk v0 v1 v2 v3 v4 v5).g],z.cells.length=6:=λz hz=>(by rw[db.1 hz];rfl);have sx:((iD.gs (bs.map f)).take k).length=k:=(by rw[bW];omega);have AI:(((iD.gs (bs.map f)).drop (0:Int).toNat).take ((k:Int).toNat-(0:Int).toNat))=(iD.gs (bs.map f)).take k:=aa;have zf:(((iD.gs (bs.map f)).drop (k:Int).toNat).take ((((iD.gs (bs.map f)).length:Int)).toNat-(k:Int).toNat))=(iD.gs (bs.map f)).drop k:=(by simp only[da];rw[bR aa]);have Jj:((iD.gs (bs.map f)).drop k).length=bs.length-k:=(by rw[eY];omega);(repeat first|refine' uD|(refine' oX;(first|exact iV PG|exact iV YJ|exact jA (q:=aI hg));exact kq));refine' sQ<;>intro h;clear h;by_cases Ez:k=0;subst Ez;have FG:(iD.gs (bs.map f)).take 0=[]:=rfl;rw[FG]at AI;(repeat first|refine' uE|(refine' oX;(first|exact iV YJ|exact jA (q:=aI hg)|exact pJ rfl (EL rfl) (SZ rfl) (AG rfl) (ZR rfl) rfl rfl rfl rfl rfl rfl rfl|exact kg (lE (l:=none) (h:=some (.i64,(((0:Nat):Int):Int))) rfl (EL rfl) (SZ rfl) rfl rfl rfl af (br _) (by show(((0:Nat):Int):Int)<=((iD.gs (bs.map f)).length:Int);omega) sv) (aT av AI)|exact kg (lE (l:=some (.i64,(((0:Nat):Int):Int))) (h:=none) rfl (EL rfl) (SZ rfl) rfl rfl rfl (br _) (by show(((0:Nat):Int):Int)<=((iD.gs (bs.map f)).length:Int);omega) (fK _) sv) (aT av zf)|exact AD rfl (EL rfl) (SZ rfl) rfl rfl|exact tL (es:=[]) (xs:=[(iD.mk v0 v1 v2 v3 v4 v5).g]) rfl (EL rfl) (SZ rfl) (BY rfl) (ZR rfl) rfl rfl rfl (λz hz=>absurd hz cF) UP (Nat.zero_lt_one) ae (by simp[maxLen]<;>omega)|exact aP (es:=[(iD.mk v0 v1 v2 v3 v4 v5).g]) (xs:=(iD.gs (bs.map f)).drop 0) (n:=1) rfl (EL rfl) (SZ rfl) (BY rfl) (ZR rfl) rfl rfl rfl rfl (rfl) rh ae (by simp[maxLen]<;>omega)|exact mO);exact kq));refine' rT;rfl;(repeat first|refine' uE|(refine' oX;(first|exact iV YJ|exact jA (q:=aI hg)|exact pJ rfl (EL rfl) (SZ rfl) (AG rfl) (ZR rfl) rfl rfl rfl rfl rfl rfl rfl|exact kg (lE (l:=none) (h:=some (.i64,(k:Int))) rfl (EL rfl) (SZ rfl) rfl rfl rfl af (br _) (by show(k:Int)<=((iD.gs (bs.map f)).length:Int);omega) sv) (aT av AI)|exact kg (lE (l:=some (.i64,(k:Int))) (h:=none) rfl (EL rfl) (SZ rfl) rfl rfl rfl (br _) (by show(k:Int)<=((iD.gs (bs.map f)).length:Int);omega) (fK _) sv) (aT av zf)|exact tL (es:=[]) (xs:=(iD.gs (bs.map f)).take k) rfl (EL rfl) (SZ rfl) (BY rfl) (ZR rfl) rfl rfl rfl (λz hz=>absurd hz cF) mM (by rw[sx];omega) ae (by simp[maxLen]<;>omega)|exact aP (es:=(iD.gs (bs.map f)).take k) (xs:=[(iD.mk v0 v1 v2 v3 v4 v5).g]) (n:=([]:List GV).length+((iD.gs (bs.map f)).take k).length) rfl (EL rfl) (SZ rfl) (BY rfl) (ZR rfl) rfl rfl rfl rfl aa UP ae (by simp[maxLen]<;>omega)|exact aP (es:=(iD.gs (bs.map f)).take k++[(iD.mk v0 v1 v2 v3 v4 v5).g]) (xs:=(iD.gs (bs.map f)).drop k) (n:=([]:List GV).length+((iD.gs (bs.map f)).take k).length+1) rfl (EL rfl) (SZ rfl) (BY rfl) (ZR rfl) rfl rfl rfl rfl aa rh ae (by simp[maxLen]<;>omega)|exact mO);exact kq));refine' rT;rfl;exfalso;rw[rH]at h;cases h
   exfalso;rw[rH]at h;cases h
 ·have hke:k=bs.length:=ab
  subst hke;rw[dv,ky,du]at kS;have rH:decide (((bs.length:Nat):Int)<((iD.gs (bs.map f)).length:Int))=false:=bA ab;have N3:iD.gs ((ky lt bs x).map f)=iD.gs (bs.map f)++[(iD.mk v0 v1 v2 v3 v4 v5).g]++[]:=by rw[kS,iD.jd,iD.jd,<-hfx];simp
  rw[N3];have UP:∀z∈[(iD.mk v0 v1 v2 v3 v4 v5).g],z.cells.length=6:=λz hz=>by rw[db.1 hz];rfl
  have AI:(((iD.gs (bs.map f)).drop (0:Int).toNat).take (((bs.length:Nat):Int).toNat-(0:Int).toNat))=iD.gs (bs.map f):=by simp only[da,Int.toNat_zero,dz,gD];rw[bR ab]
  have zf:(((iD.gs (bs.map f)).drop ((bs.length:Nat):Int).toNat).take ((((iD.gs (bs.map f)).length:Int)).toNat-((bs.length:Nat):Int).toNat))=[]:=by simp only[da];rw[dH ab];simp
  (try refine' uD);refine' sQ<;>intro h;exfalso;rw[rH]at h;cases h;clear h;(try refine' uD);refine' sQ<;>intro h;exfalso;rw[rH]at h;cases h;clear h;by_cases Ez:bs.length=0;have VA:bs=[]:=df Ez;subst VA;(repeat first|refine' uE|(refine' oX;(first|exact pJ rfl (EL rfl) (SZ rfl) (AG rfl) (ZR rfl) rfl rfl rfl rfl rfl rfl rfl|exact kg (lE (l:=none) (h:=some (.i64,(((([]:List α).length:Nat):Int):Int))) rfl (EL rfl) (SZ rfl) rfl rfl rfl af (br _) (by show(((([]:List α).length:Nat):Int):Int)<=((iD.gs (([]:List α).map f)).length:Int);omega) sv) (aT av AI)|exact kg (lE (l:=some (.i64,(((([]:List α).length:Nat):Int):Int))) (h:=none) rfl (EL rfl) (SZ rfl) rfl rfl rfl (br _) (by show(((([]:List α).length:Nat):Int):Int)<=((iD.gs (([]:List α).map f)).length:Int);omega) (fK _) sv) (aT av zf)|exact AD rfl (EL rfl) (SZ rfl) rfl rfl|exact tL (es:=[]) (xs:=[(iD.mk v0 v1 v2 v3 v4 v5).g]) rfl (EL rfl) (SZ rfl) (BY rfl) (ZR rfl) rfl rfl rfl (λz hz=>absurd hz cF) UP (Nat.zero_lt_one) ae (by simp[maxLen]<;>omega)|exact aP (es:=[(iD.mk v0 v1 v2 v3 v4 v5).g]) (xs:=[]) (n:=1) rfl (EL rfl) (SZ rfl) (BY rfl) (ZR rfl) rfl rfl rfl rfl rfl (λz hz=>absurd hz cF) aa (by simp[maxLen])|exact mO);exact kq));refine' rT;rfl;(repeat first|refine' uE|(refine' oX;(first|exact pJ rfl (EL rfl) (SZ rfl) (AG rfl) (ZR rfl) rfl rfl rfl rfl rfl rfl rfl|exact kg (lE (l:=none) (h:=some (.i64,(((bs.length:Nat):Int):Int))) rfl (EL rfl) (SZ rfl) rfl rfl rfl af (br _) (by show(((bs.length:Nat):Int):Int)<=((iD.gs (bs.map f)).length:Int);omega) sv) (aT av AI)|exact kg (lE (l:=some (.i64,(((bs.length:Nat):Int):Int))) (h:=none) rfl (EL rfl) (SZ rfl) rfl rfl rfl (br _) (by show(((bs.length:Nat):Int):Int)<=((iD.gs (bs.map f)).length:Int);omega) (fK _) sv) (aT av zf)|exact tL (es:=[]) (xs:=iD.gs (bs.map f)) rfl (EL rfl) (SZ rfl) (BY rfl) (ZR rfl) rfl rfl rfl (λz hz=>absurd hz cF) sv ab ae (by simp[maxLen]<;>omega)|exact aP (es:=iD.gs (bs.map f)) (xs:=[(iD.mk v0 v1 v2 v3 v4 v5).g]) (n:=([]:List GV).length+(iD.gs (bs.map f)).length) rfl (EL rfl) (SZ rfl) (BY rfl) (ZR rfl) rfl rfl rfl rfl aa UP ae (by simp[maxLen]<;>omega)|exact aP (es:=iD.gs (bs.map f)++[(iD.mk v0 v1 v2 v3 v4 v5).g]) (xs:=[]) (n:=([]:List GV).length+(iD.gs (bs.map f)).length+1) rfl (EL rfl) (SZ rfl) (BY rfl) (ZR rfl) rfl rfl rfl rfl aa (λz hz=>absurd hz cF) ae (by simp[maxLen]<;>omega)|exact mO);exact kq));refine' rT;rfl
section
variable{α:Type}{lt:α->α->Bool}
def Dq{x:α}:∀{l:List α} {v:α},x∈ky lt l v->x=v∨x∈l
 |[],v,h=>.inl (by simpa[ky]using h)
 |a::r,v,h=>by
  rw[ky]at h;split at h
  ·rcases bN.1 h with h|h
   exact .inr (by simp[h])
   ·rcases Dq h with h|h
    exact .inl h;exact .inr (bw _ h)
  ·split at h
   ·rcases bN.1 h with h|h
    exact .inl h;exact .inr h
   exact .inr h
def zV:∀(l:List α) (v:α),(ky lt l v).length<=l.length+1
 |[],v=>by simp[ky]|a::r,v=>by rw[ky];split;have:=zV r v;simp;omega;split<;>simp
def tc{ok:α->Prop}:∀(l:List α) {acc:List α},(∀b∈acc,ok b)->(∀b∈l,ok b)->∀b∈l.foldl (ky lt) acc,ok b
 |[],_,h,_=>h
 |x::l,acc,h,hl=>tc l (λb hb=>by
   rcases Dq hb with rfl|hb
   exact hl _ (bE ..);exact h b hb) λb hb=>hl b (bw _ hb)
def kH:∀(l acc:List α),(l.foldl (ky lt) acc).length<=acc.length+l.length
 |[],acc=>by simp|x::l,acc=>by have h1:=kH l (ky lt acc x);have h2:=zV (lt:=lt) acc x;simp only[ix,bu];omega
end
def jY{α:Type}(kd:Int)(key:iD->α)(t:iJ):List α:=(jt kd t).map key
variable{kd:Int}
def SK{α:Type}{key:iD->α}(kids:List iJ):(uj kd kids).map key=kids.flatMap (jY kd key):=by
 rw[qw];induction kids with
 |nil=>rfl|cons t r ih=>rw[fv,eU,ih,fv];rfl
variable{t:iJ}
def SL{α:Type}{key:iD->α}(xY:kd=3∨kd=4)(hkb:∀v,iY v=kd->key (mo v)=key v){n:Nat}(h:lp n t):jY kd key (sH t)=jY kd key t:=by unfold jY;rw[Im xY h,List.map_map];exact List.map_congr_left λa ha=>hkb a (mT h a ha).2
def HP{α:Type}{f:α->iD}{lt:α->α->Bool}{kd:Int}{key:iD->α}{ok:α->Prop}(xY:kd=3∨kd=4)(hkb:∀v,iY v=kd->key (mo v)=key v)(hf:∀v,mc v->iY v=kd->mo v=f (key v)∧ok (key v))
  (uo:∀(bs:List α) (x:α),(∀b∈bs,ok b)->ok x->bs.length<=100000000->ak 24 [av (iD.gs (bs.map f)),.g (f x).g] (av (iD.gs ((ky lt bs x).map f)))):
  ∀(n:Nat) (t:iJ) (bs:List α),lp n t->(∀b∈bs,ok b)->bs.length+(jY kd key t).length<=100000000->ak 17 [av (iD.gs (bs.map f)),.g t.g,aq kd] (av (iD.gs (((jY kd key t).foldl (ky lt) bs).map f)))
 |0,t,bs,h,_,_=>by cases t;exact absurd h (by simp[lp])
 |n+1,t,bs,hg,nT,D9=>by
  have RJ:=PU (n+1) t hg;have Lq:=Ca hg;have hke:=SL xY hkb hg;rw[<-hke]at D9⊢;have hAB:∀k A B oa ob ks,sH t=.mk k A B oa ob ks->jY kd key (sH t)=(if iY A=kd then [key A]else [])++(if iY B=kd then [key B]else [])++ks.flatMap (jY kd key)∧(iY A=kd->A=f (key A)∧ok (key A))∧(iY B=kd->B=f (key B)∧ok (key B))∧ks.length<=20∧∀x∈ks,lp n x:=by
   obtain⟨k,a,b,oa,ob,kids⟩:=t;obtain⟨h1,h2,h3,h4⟩:=hg;intro k' A B oa' ob' ks e;have Aw:iY noV≠kd:=(by show(0:Int)≠kd;omega);have hfb:∀v,mc v->iY (mo v)=kd->mo v=f (key (mo v))∧ok (key (mo v)):=λv hv hk=>(by rw[Cb]at hk;rw[hkb v hk];exact hf v hv hk);rw[Hy]at e⊢;cases e;unfold jY;rw[uM];by_cases h8:8<=k;have uG:k=8∨k=9:=ab;rw[aV (show ¬(2<=k∧k<=7) by omega),aV (show ¬k=7 by omega),aW h8,aW uG,aV (λq=>Aw q.2),aV (λq=>Aw q.2),aV Aw,cG,cG,SK];refine⟨rfl,λq=>absurd q Aw,λq=>absurd q Aw,by rw[dm];exact(h4 h8).1,λx hx=>?_⟩;obtain⟨y,hy,rfl⟩:=cH.1 hx;exact Ca ((h4 h8).2 y hy)
   ·rw[aV h8,aV (show ¬(k=8∨k=9) by omega),dX];refine⟨?_,λq=>?_,λq=>?_,bm _,λx hx=>absurd hx cF⟩;rw[List.flatMap_nil,cG,eU];congr 1;by_cases q:2<=k∧k<=7;rw[aW q];by_cases q2:iY (mo a)=kd;rw[aW ⟨q,q2⟩,aW q2];rfl;rw[aV (λz=>q2 z.2),aV q2];rfl;rw[aV q,aV (λz=>Aw z.2),aV Aw];rfl;by_cases q:k=7;rw[aW q];by_cases q2:iY (mo b)=kd;rw[aW ⟨q,q2⟩,aW q2];rfl;rw[aV (λz=>q2 z.2),aV q2];rfl;rw[aV q,aV (λz=>Aw z.2),aV Aw];rfl;by_cases q3:2<=k∧k<=7;rw[aW q3]at q⊢;exact hfb a (h2 q3) q;rw[aV q3]at q;exact absurd q Aw;by_cases q3:k=7;rw[aW q3]at q⊢;exact hfb b (h3 q3) q;rw[aV q3]at q;exact absurd q Aw
  have ih:=fun(x:iJ) (L:List α) (hx:lp n x) (hl:∀b∈L,ok b) (hlen:L.length+(jY kd key x).length<=100000000)=>HP xY hkb hf uo n x L hx hl hlen;obtain⟨t0,⟨s0,s1,s2,s3,s4,s5⟩,⟨r0,r1,r2,r3,r4,r5⟩,t3,t4,t5⟩:=t;generalize hbt:sH (.mk t0 (.mk s0 s1 s2 s3 s4 s5) (.mk r0 r1 r2 r3 r4 r5) t3 t4 t5)=T at *
  obtain⟨k,A,B,oa,ob,ks⟩:=T;obtain⟨Xs,hA,hB,XO,YK⟩:=hAB k A B oa ob ks rfl;rw[Xs,fw,fw];rw[Xs,bd,bd]at D9;clear hAB hke Lq hg Xs hbt;have g1:(iJ.gs ks).length=ks.length:=by simp[iJ.jd]
  obtain⟨B1,Wh,Xt,amD⟩:∃B1,B1=(if iY A=kd then [key A]else []).foldl (ky lt) bs∧(∀b∈B1,ok b)∧B1.length<=bs.length+(if iY A=kd then [key A]else []).length:=by refine⟨_,rfl,tc _ nT λb hb=>?_,kH _ _⟩;split at hb;rename_i q;rw[db.1 hb];exact(hA q).2;cases hb
  obtain⟨B2,hB2,RL,amE⟩:∃B2,B2=(if iY B=kd then [key B]else []).foldl (ky lt) B1∧(∀b∈B2,ok b)∧B2.length<=B1.length+(if iY B=kd then [key B]else []).length:=by refine⟨_,rfl,tc _ Xt λb hb=>?_,kH _ _⟩;split at hb;rename_i q;rw[db.1 hb];exact(hB q).2;cases hb
  rw[<-Wh,<-hB2];have hpA:iY A=kd->ak 24 [av (iD.gs (bs.map f)),.g A.g] (av (iD.gs (B1.map f))):=λq=>by have:=uo bs (key A) nT (hA q).2 ab;rw[<-(hA q).1]at this;rw[Wh,aW q];exact this
  have hpB:iY B=kd->ak 24 [av (iD.gs (B1.map f)),.g B.g] (av (iD.gs (B2.map f))):=λq=>by have:=uo B1 (key B) Xt (hB q).2 ab;rw[<-(hB q).1]at this;rw[hB2,aW q];exact this
  have hnA:iY A≠kd->B1=bs:=λq=>by rw[Wh,aV q];rfl
  have hnB:iY B≠kd->B2=B1:=λq=>by rw[hB2,aV q];rfl
  have I0:B2.length+(ks.flatMap (jY kd key)).length<=100000000:=ab
  clear Wh hB2 hA hB amD amE Xt nT D9;obtain⟨a0,a1,a2,a3,a4,a5⟩:=A;obtain⟨b0,b1,b2,b3,b4,b5⟩:=B;rw[show iY (.mk a0 a1 a2 a3 a4 a5)=a0 from rfl]at hpA hnA;rw[show iY (.mk b0 b1 b2 b3 b4 b5)=b0 from rfl]at hpB hnB;by_cases qA:a0=kd<;>by_cases qB:b0=kd
  ·have hpA:=hpA qA;have eA:(a0==kd)=true:=bQ.2 qA;have hpB:=hpB qB;have eB:(b0==kd)=true:=bQ.2 qB;clear hnA hnB qA qB;refine' eN func17;(try refine' wk @RJ);refine me 3 ?_;(repeat first|refine' uN|refine oQ (jB (g:=(iD.mk a0 a1 a2 a3 a4 a5).g)) ?_);refine' sQ<;>intro h;rotate_left;exfalso;rw[eA]at h;cases h;clear h;(repeat first|refine' uN|refine oQ (iV hpA) ?_|refine oQ (jB (g:=(iD.mk b0 b1 b2 b3 b4 b5).g)) ?_);refine' sQ<;>intro h;rotate_left;exfalso;rw[eB]at h;cases h;clear h;(try refine' wk @hpB);refine jK (S:=Nat) (λi=>[(0,av (iD.gs ((((ks.take i).flatMap (jY kd key)).foldl (ky lt) B2).map f))),(2,aq kd),(33,av (iJ.gs ks)),(34,aq ks.length),(35,aq i)])
    (λ_=>⟨[(iJ.mk t0 (iD.mk s0 s1 s2 s3 s4 s5) (iD.mk r0 r1 r2 r3 r4 r5) t3 t4 t5).g.cells.map PV.g,(iJ.mk k (iD.mk a0 a1 a2 a3 a4 a5) (iD.mk b0 b1 b2 b3 b4 b5) oa ob ks).g.cells.map PV.g,(iD.mk a0 a1 a2 a3 a4 a5).g.cells.map PV.g,(iD.mk b0 b1 b2 b3 b4 b5).g.cells.map PV.g],[],[]⟩) (λi=>i<=ks.length) (λi=>ks.length-i) 0 (bm _)
    (iE.le (aB ⟨.inl (aT (λk:Nat=>aq k) g1),an⟩)) aJ (λ_=>rfl) (λi hi=>?_)
   (try refine' uN);refine' sQ<;>intro h
   ·have iI:i<ks.length:=(by have:=aU h;omega);have DK:(iJ.gs ks)[((i:Int)).toNat]?=some ks[i].g:=(by rw[iJ.jd];exact lg iI);have lR:(ks.take (i+1)).flatMap (jY kd key)=(ks.take i).flatMap (jY kd key)++jY kd key ks[i]:=by
     rw[b7 iI,eI];simp
    have hle:((ks.take (i+1)).flatMap (jY kd key)).length<=(ks.flatMap (jY kd key)).length:=(by have:=aT (λl=>(l.flatMap (jY kd key)).length) (cA (i+1) ks);simp only[eI,bd]at this;omega);have rH:∀b∈(ks.take i).flatMap (jY kd key),ok b:=λb hb=>(by obtain⟨x,hx,hb⟩:=dS.1 hb;obtain⟨a,ha,rfl⟩:=cH.1 hb;have hk:=mT (YK x (cC hx)) a ha;exact(hf a hk.1 hk.2).2);rw[lR,bd]at hle;have MZ:=kH (lt:=lt) ((ks.take i).flatMap (jY kd key)) B2;have Fg:=ih ks[i] (((ks.take i).flatMap (jY kd key)).foldl (ky lt) B2) (YK _ (bJ iI)) (tc _ RL rH) ab;rw[<-fw,<-lR]at Fg;generalize((ks.take i).flatMap (jY kd key)).foldl (ky lt) B2=L at *
    generalize D5:((ks.take (i+1)).flatMap (jY kd key)).foldl (ky lt) B2=L2 at *
    generalize ks[i]=x at DK Fg;obtain⟨x0,⟨y0,y1,y2,y3,y4,y5⟩,⟨z0,z1,z2,z3,z4,z5⟩,x3,x4,x5⟩:=x;clear h lR rH;(repeat first|refine' uN|refine oQ (iV Fg) ?_|refine oQ (jA (q:=aI DK)) ?_);exact⟨i+1,iI,by omega,iE.le ⟨.inl (by rw[D5];rfl),.inl rfl,.inl rfl,.inl rfl,.inl (aT aq (LZ ab)),trivial⟩,lq.mk [_] [] [] rfl⟩
   have lk:i=ks.length:=(by have:=aX h;omega);subst lk;rw[du];(try refine' uN);refine' rT;rfl
  ·have hpA:=hpA qA;have eA:(a0==kd)=true:=bQ.2 qA;have eB:(b0==kd)=false:=bk.2 qB;have e2:=hnB qB;subst e2;clear hnA hnB qA qB;refine' eN func17;(try refine' wk @RJ);refine me 3 ?_;(repeat first|refine' uN|refine oQ (jB (g:=(iD.mk a0 a1 a2 a3 a4 a5).g)) ?_);refine' sQ<;>intro h;rotate_left;exfalso;rw[eA]at h;cases h;clear h;(repeat first|refine' uN|refine oQ (iV hpA) ?_|refine oQ (jB (g:=(iD.mk b0 b1 b2 b3 b4 b5).g)) ?_);refine' sQ<;>intro h;exfalso;rw[eB]at h;cases h;clear h;(try refine' uN);refine jK (S:=Nat) (λi=>[(0,av (iD.gs ((((ks.take i).flatMap (jY kd key)).foldl (ky lt) B2).map f))),(2,aq kd),(33,av (iJ.gs ks)),(34,aq ks.length),(35,aq i)])
    (λ_=>⟨[(iJ.mk t0 (iD.mk s0 s1 s2 s3 s4 s5) (iD.mk r0 r1 r2 r3 r4 r5) t3 t4 t5).g.cells.map PV.g,(iJ.mk k (iD.mk a0 a1 a2 a3 a4 a5) (iD.mk b0 b1 b2 b3 b4 b5) oa ob ks).g.cells.map PV.g,(iD.mk a0 a1 a2 a3 a4 a5).g.cells.map PV.g,(iD.mk b0 b1 b2 b3 b4 b5).g.cells.map PV.g],[],[]⟩) (λi=>i<=ks.length) (λi=>ks.length-i) 0 (bm _)
    (iE.le (aB ⟨.inl (aT (λk:Nat=>aq k) g1),an⟩)) aJ (λ_=>rfl) (λi hi=>?_)
   (try refine' uN);refine' sQ<;>intro h
   ·have iI:i<ks.length:=(by have:=aU h;omega);have DK:(iJ.gs ks)[((i:Int)).toNat]?=some ks[i].g:=(by rw[iJ.jd];exact lg iI);have lR:(ks.take (i+1)).flatMap (jY kd key)=(ks.take i).flatMap (jY kd key)++jY kd key ks[i]:=by
     rw[b7 iI,eI];simp
    have hle:((ks.take (i+1)).flatMap (jY kd key)).length<=(ks.flatMap (jY kd key)).length:=(by have:=aT (λl=>(l.flatMap (jY kd key)).length) (cA (i+1) ks);simp only[eI,bd]at this;omega);have rH:∀b∈(ks.take i).flatMap (jY kd key),ok b:=λb hb=>(by obtain⟨x,hx,hb⟩:=dS.1 hb;obtain⟨a,ha,rfl⟩:=cH.1 hb;have hk:=mT (YK x (cC hx)) a ha;exact(hf a hk.1 hk.2).2);rw[lR,bd]at hle;have MZ:=kH (lt:=lt) ((ks.take i).flatMap (jY kd key)) B2;have Fg:=ih ks[i] (((ks.take i).flatMap (jY kd key)).foldl (ky lt) B2) (YK _ (bJ iI)) (tc _ RL rH) ab;rw[<-fw,<-lR]at Fg;generalize((ks.take i).flatMap (jY kd key)).foldl (ky lt) B2=L at *
    generalize D5:((ks.take (i+1)).flatMap (jY kd key)).foldl (ky lt) B2=L2 at *
    generalize ks[i]=x at DK Fg;obtain⟨x0,⟨y0,y1,y2,y3,y4,y5⟩,⟨z0,z1,z2,z3,z4,z5⟩,x3,x4,x5⟩:=x;clear h lR rH;(repeat first|refine' uN|refine oQ (iV Fg) ?_|refine oQ (jA (q:=aI DK)) ?_);exact⟨i+1,iI,by omega,iE.le ⟨.inl (by rw[D5];rfl),.inl rfl,.inl rfl,.inl rfl,.inl (aT aq (LZ ab)),trivial⟩,lq.mk [_] [] [] rfl⟩
   have lk:i=ks.length:=(by have:=aX h;omega);subst lk;rw[du];(try refine' uN);refine' rT;rfl
  ·have eA:(a0==kd)=false:=bk.2 qA;have e1:=hnA qA;subst e1;have hpB:=hpB qB;have eB:(b0==kd)=true:=bQ.2 qB;clear hnA hnB qA qB;refine' eN func17;(try refine' wk @RJ);refine me 3 ?_;(repeat first|refine' uN|refine oQ (jB (g:=(iD.mk a0 a1 a2 a3 a4 a5).g)) ?_);refine' sQ<;>intro h;exfalso;rw[eA]at h;cases h;clear h;(repeat first|refine' uN|refine oQ (jB (g:=(iD.mk b0 b1 b2 b3 b4 b5).g)) ?_);refine' sQ<;>intro h;rotate_left;exfalso;rw[eB]at h;cases h;clear h;(try refine' wk @hpB);refine jK (S:=Nat) (λi=>[(0,av (iD.gs ((((ks.take i).flatMap (jY kd key)).foldl (ky lt) B2).map f))),(2,aq kd),(33,av (iJ.gs ks)),(34,aq ks.length),(35,aq i)])
    (λ_=>⟨[(iJ.mk t0 (iD.mk s0 s1 s2 s3 s4 s5) (iD.mk r0 r1 r2 r3 r4 r5) t3 t4 t5).g.cells.map PV.g,(iJ.mk k (iD.mk a0 a1 a2 a3 a4 a5) (iD.mk b0 b1 b2 b3 b4 b5) oa ob ks).g.cells.map PV.g,(iD.mk a0 a1 a2 a3 a4 a5).g.cells.map PV.g,(iD.mk b0 b1 b2 b3 b4 b5).g.cells.map PV.g],[],[]⟩) (λi=>i<=ks.length) (λi=>ks.length-i) 0 (bm _)
    (iE.le (aB ⟨.inl (aT (λk:Nat=>aq k) g1),an⟩)) aJ (λ_=>rfl) (λi hi=>?_)
   (try refine' uN);refine' sQ<;>intro h
   ·have iI:i<ks.length:=(by have:=aU h;omega);have DK:(iJ.gs ks)[((i:Int)).toNat]?=some ks[i].g:=(by rw[iJ.jd];exact lg iI);have lR:(ks.take (i+1)).flatMap (jY kd key)=(ks.take i).flatMap (jY kd key)++jY kd key ks[i]:=by
     rw[b7 iI,eI];simp
    have hle:((ks.take (i+1)).flatMap (jY kd key)).length<=(ks.flatMap (jY kd key)).length:=(by have:=aT (λl=>(l.flatMap (jY kd key)).length) (cA (i+1) ks);simp only[eI,bd]at this;omega);have rH:∀b∈(ks.take i).flatMap (jY kd key),ok b:=λb hb=>(by obtain⟨x,hx,hb⟩:=dS.1 hb;obtain⟨a,ha,rfl⟩:=cH.1 hb;have hk:=mT (YK x (cC hx)) a ha;exact(hf a hk.1 hk.2).2);rw[lR,bd]at hle;have MZ:=kH (lt:=lt) ((ks.take i).flatMap (jY kd key)) B2;have Fg:=ih ks[i] (((ks.take i).flatMap (jY kd key)).foldl (ky lt) B2) (YK _ (bJ iI)) (tc _ RL rH) ab;rw[<-fw,<-lR]at Fg;generalize((ks.take i).flatMap (jY kd key)).foldl (ky lt) B2=L at *
    generalize D5:((ks.take (i+1)).flatMap (jY kd key)).foldl (ky lt) B2=L2 at *
    generalize ks[i]=x at DK Fg;obtain⟨x0,⟨y0,y1,y2,y3,y4,y5⟩,⟨z0,z1,z2,z3,z4,z5⟩,x3,x4,x5⟩:=x;clear h lR rH;(repeat first|refine' uN|refine oQ (iV Fg) ?_|refine oQ (jA (q:=aI DK)) ?_);exact⟨i+1,iI,by omega,iE.le ⟨.inl (by rw[D5];rfl),.inl rfl,.inl rfl,.inl rfl,.inl (aT aq (LZ ab)),trivial⟩,lq.mk [_] [] [] rfl⟩
   have lk:i=ks.length:=(by have:=aX h;omega);subst lk;rw[du];(try refine' uN);refine' rT;rfl
  ·have eA:(a0==kd)=false:=bk.2 qA;have e1:=hnA qA;subst e1;have eB:(b0==kd)=false:=bk.2 qB;have e2:=hnB qB;subst e2;clear hnA hnB qA qB;refine' eN func17;(try refine' wk @RJ);refine me 3 ?_;(repeat first|refine' uN|refine oQ (jB (g:=(iD.mk a0 a1 a2 a3 a4 a5).g)) ?_);refine' sQ<;>intro h;exfalso;rw[eA]at h;cases h;clear h;(repeat first|refine' uN|refine oQ (jB (g:=(iD.mk b0 b1 b2 b3 b4 b5).g)) ?_);refine' sQ<;>intro h;exfalso;rw[eB]at h;cases h;clear h;(try refine' uN);refine jK (S:=Nat) (λi=>[(0,av (iD.gs ((((ks.take i).flatMap (jY kd key)).foldl (ky lt) B2).map f))),(2,aq kd),(33,av (iJ.gs ks)),(34,aq ks.length),(35,aq i)])
    (λ_=>⟨[(iJ.mk t0 (iD.mk s0 s1 s2 s3 s4 s5) (iD.mk r0 r1 r2 r3 r4 r5) t3 t4 t5).g.cells.map PV.g,(iJ.mk k (iD.mk a0 a1 a2 a3 a4 a5) (iD.mk b0 b1 b2 b3 b4 b5) oa ob ks).g.cells.map PV.g,(iD.mk a0 a1 a2 a3 a4 a5).g.cells.map PV.g,(iD.mk b0 b1 b2 b3 b4 b5).g.cells.map PV.g],[],[]⟩) (λi=>i<=ks.length) (λi=>ks.length-i) 0 (bm _)
    (iE.le (aB ⟨.inl (aT (λk:Nat=>aq k) g1),an⟩)) aJ (λ_=>rfl) (λi hi=>?_)
   (try refine' uN);refine' sQ<;>intro h
   ·have iI:i<ks.length:=(by have:=aU h;omega);have DK:(iJ.gs ks)[((i:Int)).toNat]?=some ks[i].g:=(by rw[iJ.jd];exact lg iI);have lR:(ks.take (i+1)).flatMap (jY kd key)=(ks.take i).flatMap (jY kd key)++jY kd key ks[i]:=by
     rw[b7 iI,eI];simp
    have hle:((ks.take (i+1)).flatMap (jY kd key)).length<=(ks.flatMap (jY kd key)).length:=(by have:=aT (λl=>(l.flatMap (jY kd key)).length) (cA (i+1) ks);simp only[eI,bd]at this;omega);have rH:∀b∈(ks.take i).flatMap (jY kd key),ok b:=λb hb=>(by obtain⟨x,hx,hb⟩:=dS.1 hb;obtain⟨a,ha,rfl⟩:=cH.1 hb;have hk:=mT (YK x (cC hx)) a ha;exact(hf a hk.1 hk.2).2);rw[lR,bd]at hle;have MZ:=kH (lt:=lt) ((ks.take i).flatMap (jY kd key)) B2;have Fg:=ih ks[i] (((ks.take i).flatMap (jY kd key)).foldl (ky lt) B2) (YK _ (bJ iI)) (tc _ RL rH) ab;rw[<-fw,<-lR]at Fg;generalize((ks.take i).flatMap (jY kd key)).foldl (ky lt) B2=L at *
    generalize D5:((ks.take (i+1)).flatMap (jY kd key)).foldl (ky lt) B2=L2 at *
    generalize ks[i]=x at DK Fg;obtain⟨x0,⟨y0,y1,y2,y3,y4,y5⟩,⟨z0,z1,z2,z3,z4,z5⟩,x3,x4,x5⟩:=x;clear h lR rH;(repeat first|refine' uN|refine oQ (iV Fg) ?_|refine oQ (jA (q:=aI DK)) ?_);exact⟨i+1,iI,by omega,iE.le ⟨.inl (by rw[D5];rfl),.inl rfl,.inl rfl,.inl rfl,.inl (aT aq (LZ ab)),trivial⟩,lq.mk [_] [] [] rfl⟩
   have lk:i=ks.length:=(by have:=aX h;omega);subst lk;rw[du];(try refine' uN);refine' rT;rfl
variable{k:Int}
def iJ.SM{a b:iD}{oa ob:Bool}{kids:List iJ}(h:mJ (iJ.mk k a b oa ob kids).g):mJ a.g∧mJ b.g∧kids.length<=maxLen∧∀x∈kids,mJ x.g:=by simp only[iJ.g,mJ,yI]at h;have h2:=nF.1 h.2;refine⟨xO.1 (nF.2 λx hx=>h2 x (fi _ hx)),xO.1 (nF.2 λx hx=>h2 x (ed _ (fi _ hx))),?_⟩;have h3:=h2 (.sl (iJ.gs kids)) (ed _ (ed _ aa));simp only[mJ,iJ.jd,dm]at h3;exact⟨h3.1,λx hx=>nF.1 h3.2 _ (List.mem_map_of_mem hx)⟩
def uu{n:Int}(h: -9223372036854775808<=n∧n<9223372036854775808):i64.wrap n=n:=by simp[IntKind.wrap,IntKind.bits,IntKind.signed];omega
def II:∀(t:iJ) (d:Nat),mJ t.g->d<=5->ak 43 [.g t.g,aq d] (aq (kG VD t d))
 |.mk k a b oa ob kids,d,hz,hd=>by
  obtain⟨hza,hzb,zu,mq⟩:=iJ.SM hz;have A9:=LY a hza;have Hf:=LY b hzb;have g1:(iJ.gs kids).length=kids.length:=by simp[iJ.jd]
  have ih:∀x∈kids,d+1<=5->ak 43 [.g x.g,aq ((d+1:Nat):Int)] (aq (kG VD x (d+1))):=λx hx hd=>II x (d+1) (mq x hx) hd;rw[AQ];obtain⟨a0,a1,a2,a3,a4,a5⟩:=a;obtain⟨b0,b1,b2,b3,b4,b5⟩:=b;rw[show iY (.mk a0 a1 a2 a3 a4 a5)=a0 from rfl,show iY (.mk b0 b1 b2 b3 b4 b5)=b0 from rfl];generalize lX VD (.mk a0 a1 a2 a3 a4 a5)=va at *
  generalize lX VD (.mk b0 b1 b2 b3 b4 b5)=vb at *
  by_cases h4:4<d;rw[aW h4];clear ih A9 Hf;refine' eN func43;(try refine' uN);refine' sQ<;>intro h;(try refine' uN);refine' rT;rfl;exfalso;have:=aX h;omega;rw[aV h4];by_cases h1:k=1;subst h1;rw[aW rfl];clear ih A9 Hf;refine' eN func43;(try refine' uN);refine' sQ<;>intro h;exfalso;have:=aU h;omega;(try refine' uN);refine' rT;rfl;rw[aV h1];have hsp:a0=3∨a0=4∨(a0≠3∧a0≠4):=ab
  by_cases h26:2<=k∧k<=6
  ·have aeG:(if k=2 then va else if 3<=k∧k<=6 then(if va≠0 then va else if a0=3∨a0=4 then 0 else 9)else if k=7 then(if va≠0 then va else if vb≠0 then vb else if(a0=3∨a0=4)∧a0=b0 then 0 else 9)else if k=8∨k=9 then(if kids.length<1∨20<kids.length then 5 else pe VD kids (d+1))else 1)=(if va≠0 then va else if k=2∨a0=3∨a0=4 then 0 else 9):=by
    by_cases k2:k=2;rw[aW k2];by_cases hv:va=0;rw[aV (dM hv),aW (.inl k2),hv];rw[aW hv];rw[aV k2,aW ab];by_cases hv:va=0;rw[aV (dM hv),aV (dM hv)];by_cases ha:a0=3∨a0=4;rw[aW ha,aW (.inr ha)];rw[aV ha,aV (λq=>q.elim k2 ha)];rw[aW hv,aW hv]
   rw[aeG];clear aeG ih Hf;have hk:k=2∨k=3∨k=4∨k=5∨k=6:=ab;by_cases ox:va=0
   ·subst ox;rw[aV af];rcases hsp with rfl|rfl|⟨n3,n4⟩
    ·rw[aW (.inr (.inl rfl))];rcases hk with rfl|rfl|rfl|rfl|rfl
     all_goals
      refine' eN func43
      (try refine' uN)
      refine' sQ<;>intro h
      ·exfalso;have:=aU h;omega
      (try refine' wk @A9)
      refine' rT
      rfl
    ·rw[aW (.inr (.inr rfl))];rcases hk with rfl|rfl|rfl|rfl|rfl
     all_goals
      refine' eN func43
      (try refine' uN)
      refine' sQ<;>intro h
      ·exfalso;have:=aU h;omega
      (try refine' wk @A9)
      refine' rT
      rfl
    ·rcases hk with rfl|rfl|rfl|rfl|rfl
     ·rw[aW (.inl rfl)];refine' eN func43;(try refine' uN);refine' sQ<;>intro h;exfalso;have:=aU h;omega;clear h;(repeat' first|refine' wk @A9|refine' sN<;>intro h|fail);all_goals(first|(exfalso;simp_all;done)|(refine' rT;rfl))
     all_goals
      rw[aV ab]
      refine' eN func43
      (try refine' uN)
      refine' sQ<;>intro h
      ·exfalso;have:=aU h;omega
      clear h
      (repeat' first|refine' wk @A9|refine' sN<;>intro h|fail)
      all_goals(first|(exfalso;simp_all;done)|(refine' rT;rfl))
   ·rw[aW ox];have js:(va !=0)=true:=(by simpa using ox);rcases hk with rfl|rfl|rfl|rfl|rfl
    all_goals
     refine' eN func43
     (try refine' uN)
     refine' sQ<;>intro h
     ·exfalso;have:=aU h;omega
     clear h
     (try refine' wk @A9)
     refine' sQ<;>intro h
     ·(try refine' uN)
      refine' rT
      rfl
     ·exfalso;rw[js]at h;cases h
  rw[aV (show ¬k=2 by omega),aV (show ¬(3<=k∧k<=6) by omega)];by_cases h7:k=7
  ·subst h7;rw[aW rfl];clear ih;by_cases ox:va=0
   ·subst ox;rw[aV af];by_cases nn:vb=0
    ·subst nn;rw[aV af];rcases hsp with rfl|rfl|⟨n3,n4⟩
     by_cases hb:(3:Int)=b0;subst hb;rw[aW ⟨.inl rfl,rfl⟩];refine' eN func43;(try refine' uN);refine' sQ<;>intro h;exfalso;have:=aU h;omega;(try refine' wl @A9 @Hf);refine' rT;rfl;rw[aV (λq=>hb q.2)];have js:((3:Int) !=b0)=true:=(by simpa using hb);refine' eN func43;(try refine' uN);refine' sQ<;>intro h;exfalso;have:=aU h;omega;clear h;(try refine' wl @A9 @Hf);refine' sQ<;>intro h;(try refine' uN);refine' rT;rfl;exfalso;rw[js]at h;cases h;by_cases hb:(4:Int)=b0;subst hb;rw[aW ⟨.inr rfl,rfl⟩];refine' eN func43;(try refine' uN);refine' sQ<;>intro h;exfalso;have:=aU h;omega;(try refine' wl @A9 @Hf);refine' rT;rfl;rw[aV (λq=>hb q.2)];have js:((4:Int) !=b0)=true:=(by simpa using hb);refine' eN func43;(try refine' uN);refine' sQ<;>intro h;exfalso;have:=aU h;omega;clear h;(try refine' wl @A9 @Hf);refine' sQ<;>intro h;(try refine' uN);refine' rT;rfl;exfalso;rw[js]at h;cases h
     ·rw[aV (λq=>ab)];refine' eN func43;(try refine' uN);refine' sQ<;>intro h;exfalso;have:=aU h;omega;clear h;(repeat' first|refine' wl @A9 @Hf|refine' sN<;>intro h|fail);all_goals(first|(exfalso;simp_all;done)|(refine' rT;rfl))
    rw[aW nn];have js:(vb !=0)=true:=(by simpa using nn);refine' eN func43;(try refine' uN);refine' sQ<;>intro h;exfalso;have:=aU h;omega;clear h;(try refine' wl @A9 @Hf);refine' sQ<;>intro h;(try refine' uN);refine' rT;rfl;exfalso;rw[js]at h;cases h
   rw[aW ox];have js:(va !=0)=true:=(by simpa using ox);refine' eN func43;(try refine' uN);refine' sQ<;>intro h;exfalso;have:=aU h;omega;clear h;(try refine' wk @A9);refine' sQ<;>intro h;(try refine' uN);refine' rT;rfl;exfalso;rw[js]at h;cases h
  rw[aV h7];by_cases uG:k=8∨k=9
  ·rw[aW uG];have hd4:d+1<=5:=ab;have IE:i64.wrap ((d:Int)+1)=((d+1:Nat):Int):=(by rw[uu ab];omega);by_cases hl:kids.length<1∨20<kids.length
   ·rw[aW hl];clear ih;rcases uG with rfl|rfl
    all_goals
     refine' eN func43
     (try refine' uN)
     refine' sQ<;>intro h
     ·exfalso;have:=aU h;omega
     clear h
     (repeat' first|refine' wa|refine xU [8] rfl ?_|refine' sN<;>intro h|fail)
     all_goals(first|(exfalso;(try simp only[cX,cP,bQ,dO,bk,dh,c9,dq,eO,eP,fV]at *);omega)|(refine' rT;rfl))
   ·rw[aV hl];generalize hR:pe VD kids (d+1)=R;rcases uG with rfl|rfl
    all_goals
     refine' eN func43
     (try refine' uN)
     refine' sQ<;>intro h
     ·exfalso;have:=aU h;omega
     clear h
     (repeat' first|refine' wa|refine xU [8] rfl ?_|refine' sN<;>intro h|fail)
     all_goals(first|(exfalso;(try simp only[cX,cP,bQ,dO,bk,dh,c9,dq,eO,eP,fV]at *);omega)|skip)
    all_goals
     (try refine' uN)
     refine jK (S:=Nat) (λi=>[(1,aq d),(35,av (iJ.gs kids)),(36,aq kids.length),(37,aq i)]) (λ_=>⟨[(iJ.mk _ (iD.mk a0 a1 a2 a3 a4 a5) (iD.mk b0 b1 b2 b3 b4 b5) oa ob kids).g.cells.map PV.g],[],[]⟩) (λi=>i<=kids.length∧pe VD (kids.drop i) (d+1)=R) (λi=>kids.length-i) 0 ⟨bm _,hR⟩
      (iE.le (aA ⟨.inl (aT (λk:Nat=>aq k) g1),an⟩)) aJ (λ_=>rfl) (λi hi=>?_)
     obtain⟨hi,kS⟩:=hi
     try clear h
     (try refine' uN)
     refine' sQ<;>intro h
     ·have iI:i<kids.length:=by have:=aU h;omega
      have hg:(iJ.gs kids)[((i:Int)).toNat]?=some kids[i].g:=by rw[iJ.jd];exact lg iI
      have ih:=ih kids[i] (bJ iI) hd4
      rw[bY iI,pe]at kS
      generalize kids[i]=x at hg ih kS
      generalize kG VD x (d+1)=r at ih kS
      obtain⟨x0,⟨y0,y1,y2,y3,y4,y5⟩,⟨z0,z1,z2,z3,z4,z5⟩,x3,x4,x5⟩:=x
      rw[<-IE]at ih
      clear h
      (repeat first|refine' uN|refine oQ (iV ih) ?_|refine oQ (jA (q:=aI hg)) ?_)
      refine' sQ<;>intro h
      ·have js:r≠0:=by simpa[bne]using h
       rw[aW js]at kS
       subst kS
       (try refine' uN)
       refine' rT
       rfl
      ·have he:r=0:=by simpa[bne]using h
       rw[aV (λq=>q he)]at kS
       (try refine' uN)
       exact⟨i+1,⟨iI,kS⟩,by omega,iE.le (aB ⟨.inl (aT aq (uu (by unfold maxLen at zu;omega))),trivial⟩),lq.mk [_] [] [] rfl⟩
     ·have lk:i=kids.length:=by have:=aX h;omega
      subst lk
      rw[dv,pe]at kS
      subst kS
      (try refine' uN)
      refine' rT
      rfl
  ·rw[aV uG];clear ih;refine' eN func43;(try refine' uN);refine' sQ<;>intro h;exfalso;have:=aU h;omega;clear h;(repeat' first|refine' wa|refine xU [5] rfl ?_|refine' sN<;>intro h|fail);all_goals(first|(refine' rT;rfl)|(exfalso;(try simp only[cX,cP,bQ,dO,bk,dh,c9,dq,eO,eP,fV]at *);omega))
def Ci(t:iJ)(hz:mJ t.g):ak 15 [.g t.g] (aq (kG VD t 1)):=by have h:=II t 1 hz af;generalize kG VD t 1=r at h;obtain⟨k,⟨a0,a1,a2,a3,a4,a5⟩,⟨b0,b1,b2,b3,b4,b5⟩,oa,ob,kids⟩:=t;refine' eN func15;(try refine' wk @h);refine' rT;rfl
def PX(k:Int):Prop:= ∃c e,iZ c e=0∧iR c e=k
def vc(h:PX k):iZ (lA k).1 (lA k).2=0∧iR (lA k).1 (lA k).2=k:=by obtain⟨c,e,h1,rfl⟩:=h;rw[Gr h1];exact⟨h1,rfl⟩
variable{a b:Int}
def Wz(ha:PX a)(hb:PX b):F5 (kn a) (kn b)=hB (decide (a<b)):=by obtain⟨a1,a2⟩:=vc ha;obtain⟨b1,b2⟩:=vc hb;have x1:=(jT a1).1;have x2:=(jT b1).1;show(if(3:Int)=3∧(3:Int)=3 then hB (decide (s6 (lA a).1 (lA a).2 (lA b).1 (lA b).2<0))else if(3:Int)=4∧(3:Int)=4 then hB (Op.bytesLess (⟨#[]⟩:ByteArray).toList (⟨#[]⟩:ByteArray).toList)else 1)=_;rw[aW ⟨rfl,rfl⟩,vM ab ab,a2,b2];congr 1;exact gw.2 CD
def adj(ha:PX a)(hb:PX b):T7 (kn a) (kn b)=hB (decide (a=b)):=by obtain⟨a1,a2⟩:=vc ha;obtain⟨b1,b2⟩:=vc hb;unfold kn;rw[Le];have:(decide ((lA a).1=(lA b).1∧(lA a).2=(lA b).2))=decide (a=b):=gw.2 ⟨λh=>by rw[<-a2,<-b2,h.1,h.2],λh=>by rw[h];exact⟨rfl,rfl⟩⟩;simp[this]
def MN(k:Int):mJ (kn k).g:=by unfold kn;simp[iD.g,mJ,yI,iD.gs,ByteArray.size]
def adk(bs:List Int)(x:Int)(hbs:∀b∈bs,PX b)(hx:PX x)(hl:bs.length<=100000000):ak 24 [av (iD.gs (bs.map kn)),.g (kn x).g] (av (iD.gs ((ky (λa b=>decide (a<b)) bs x).map kn))):=by
 refine YI kn (λa b=>decide (a<b)) (λa b=>decide (a=b)) hl (λb hb=>?_) (λb hb=>?_) (λb hb h=>?_)
 ·have:=zU (kn b) (kn x) (λk y c e t l k' y' c' e' t' l' h1 h2 _ _=>by
   unfold kn at h1 h2;cases h1;cases h2;exact⟨(vc (hbs b hb)).1,(vc hx).1⟩)
  rwa[Wz (hbs b hb) hx]at this
 have:=A7 (kn b) (kn x) (MN _) (MN _);rwa[adj (hbs b hb) hx]at this;have h:=aX h;rw[gG];simp;omega
def Fh(s:TX):Prop:=s.length<=1001
def MP{s:TX}(h:Fh s):mJ (km s).g:=by
 unfold km Fh at *
 simp only[iD.g,mJ,yI,iD.gs,bH];rw[sZ];unfold maxLen;refine⟨trivial,trivial,trivial,trivial,by omega,⟨by omega,trivial⟩,trivial⟩
def WA(a b:TX):F5 (km a) (km b)=hB (Op.bytesLess a b):=by show(if(4:Int)=3∧(4:Int)=3 then hB (decide (s6 0 0 0 0<0))else if(4:Int)=4∧(4:Int)=4 then hB (Op.bytesLess (qD a).toList (qD b).toList)else 1)=_;rw[aV af,aW ⟨rfl,rfl⟩,lZ,lZ]
def adl(a b:TX):T7 (km a) (km b)=hB (decide (a=b)):=by unfold km;rw[Le,lZ,lZ];have:(a==b)=decide (a=b):=Bool.beq_eq_decide_eq _ _;simp[this]
def GK(bs:List TX)(x:TX)(hbs:∀b∈bs,Fh b)(hx:Fh x)(hl:bs.length<=100000000):ak 24 [av (iD.gs (bs.map km)),.g (km x).g] (av (iD.gs ((ky (λa b=>Op.bytesLess a b) bs x).map km))):=by
 refine YI km (λa b=>Op.bytesLess a b) (λa b=>decide (a=b)) hl (λb hb=>?_) (λb hb=>?_) (λb hb h=>?_)
 ·have:=zU (km b) (km x) (λk y c e t l k' y' c' e' t' l' h1 h2 h3 _=>by
   unfold km at h1;cases h1;exact absurd h3 af)
  rwa[WA]at this
 have:=A7 (km b) (km x) (MP (hbs b hb)) (MP hx);rwa[adl]at this
 ·have h:¬uf b x:=λq=>by
   have q:Op.bytesLess b x=true:=q;rw[q]at h;cases h
  rcases CE b x with q|q|q
  exact absurd q h;subst q;rw[bU rfl];have:=pd b;cases hq:Op.bytesLess b b;rfl;exact absurd hq this
  ·have js:b≠x:=λe=>by subst e;exact pd _ q
   rw[bA js,show Op.bytesLess x b=true from q];rfl
def L0{v:iD}(h:mc v)(hk:iY v=3):mo v=kn (ow v)∧PX (ow v)∧SmallK (ow v):=by obtain⟨k,y,c,e,t,l⟩:=v;obtain⟨_,h2,_⟩:=h;obtain⟨h3,h4⟩:=h2 hk;exact⟨Vr hk h3,⟨c,e,h3,rfl⟩,h4⟩
def Qq(t:ByteArray):t.toList.length=t.size:=by have h:=sZ t.toList;rw[Af]at h;exact h.symm
def WC{v:iD}(h:mc v)(hk:iY v=4):mo v=km (nN v)∧Fh (nN v):=by obtain⟨k,y,c,e,t,l⟩:=v;obtain⟨_,_,h2⟩:=h;refine⟨R5 hk,?_⟩;have:=h2 hk;unfold Fh;show t.toList.length<=1001;rw[Qq];omega
def Fi{n:Nat}{bs:List Int}(hg:lp n t)(nT:∀b∈bs,PX b)(hl:bs.length+(jF t).length<=100000000):ak 17 [av (iD.gs (bs.map kn)),.g t.g,aq 3] (av (iD.gs (((jF t).foldl (ky λa b=>decide (a<b)) bs).map kn))):=
 HP (f:=kn) (lt:=λa b=>decide (a<b)) (key:=ow) (ok:=PX) (.inl rfl) (λv hv=>Vs hv) (λv hv hk=>⟨(L0 hv hk).1,(L0 hv hk).2.1⟩) adk n t bs hg nT hl
def Fj{n:Nat}{bs:List TX}(hg:lp n t)(nT:∀b∈bs,Fh b)(hl:bs.length+(jj t).length<=100000000):ak 17 [av (iD.gs (bs.map km)),.g t.g,aq 4] (av (iD.gs (((jj t).foldl (ky λa b=>Op.bytesLess a b) bs).map km))):=
 HP (f:=km) (lt:=λa b=>Op.bytesLess a b) (key:=nN) (ok:=Fh) (.inr rfl) (λv hv=>R6 hv) (λv hv hk=>WC hv hk) GK n t bs hg nT hl
def adm{K:Int}(h:wJ K):al 20 [.ptr 0 0] ⟨[V.jO (nO K) (ni K)],[],[]⟩ (.g (kn K).g) ⟨[V.jO (nO K) (ni K)],[],[]⟩:=by
 obtain⟨m,rfl,hm⟩:=h;have hf:=V.ahp hm;unfold kn;unfold V.jO at *
 generalize lA (m*10^33)=R at *
 obtain⟨u,v⟩:=R;generalize V.iF (nO (m*10^33)).natAbs=xs at *
 generalize decide (nO (m*10^33)<0)=xb,V.iF (ni (m*10^33))=ys at *
 refine' eN func20;(try refine' we @hf);refine' rP;all_goals rfl
def Qr{l:List iJ}(hz:∀t∈l,mJ t.g)(hl:l.length<=20):ak 5 [aq 2,av (iJ.gs l)] (.tuple [av (kN VD 2 l).1,aq (kN VD 2 l).2]):=by
 have pE:(iJ.gs l).length=l.length:=by simp[iJ.jd]
 have hR:kN VD 2 l=if kB VD 2 l≠0 then([],kB VD 2 l)else([(rU false).g,(rU true).g],0):=by unfold kN;rw[aV af,aV ab];rfl
 generalize Q9:kN VD 2 l=R at hR⊢;clear Q9;refine' eN func5;(try refine' uD);refine' sQ<;>intro h;exfalso;have:=aU h;omega;clear h;(try refine' uD);refine jK (S:=Nat) (λi=>[(0,aq 2),(6,av (iD.gs ((ku ((l.take i).flatMap jF)).map kn))),(7,av (iD.gs ((ko ((l.take i).flatMap jj)).map km))),(29,av (iJ.gs l)),(30,aq l.length),(31,aq i)]) (λ_=>⟨[],[],[]⟩)
  (λi=>i<=l.length∧kB VD 2 l=kB VD 2 (l.drop i)∧∀t∈l.take i,lp 4 t) (λi=>l.length-i) 0 ⟨bm _,rfl,λt ht=>absurd ht cF⟩
  (iE.le ⟨.inl rfl,.inr rfl,.inr rfl,.inl rfl,.inl (aT (λk:Nat=>aq k) pE),an⟩) aJ (λ_=>rfl) (λi hi=>?_)
 obtain⟨hi,jU,lL⟩:=hi;(try refine' uD);refine' sQ<;>intro h
 ·have iI:i<l.length:=by have:=aU h;omega
  have hg:(iJ.gs l)[((i:Int)).toNat]?=some l[i].g:=by rw[iJ.jd];exact lg iI
  have hw:=Ci l[i] (hz _ (bJ iI));rw[bY iI,kB]at jU;have sy:kG VD l[i] 1=0->lp 4 l[i]:=λq=>nH 4 q rfl;clear h;by_cases nn:kG VD l[i] 1=0
  ·have oJ:=sy nn;have hf:=Dp (ty:=2) 4 l[i] oJ;rw[aV (dM nn)]at jU;rw[nn]at hw;by_cases nP:tY l[i] 2=true
   ·rw[aW nP]at jU;rw[nP]at hf;have pz:∀t∈l.take (i+1),lp 4 t:=λt ht=>by
     rw[b7 iI]at ht;rcases bC.1 ht with ht|ht
     exact lL t ht;rw[db.1 ht];exact oJ
    have mM:=pU (l:=l.take (i+1)) (by rw[bW];omega) pz;have rh:=oN (l:=l.take (i+1)) (by rw[bW];omega) pz;have WD:(ku ((l.take i).flatMap jF)).length<=((l.take i).flatMap jF).length:=(by have:=kH (lt:=λa b=>decide (a<b)) ((l.take i).flatMap jF) [];rw[bH,bc]at this;exact this);have WE:(ko ((l.take i).flatMap jj)).length<=((l.take i).flatMap jj).length:=(by have:=kH (lt:=λa b=>Op.bytesLess a b) ((l.take i).flatMap jj) [];rw[bH,bc]at this;exact this);rw[oy iI,bd]at mM rh;have hN:=Fi (n:=4) (t:=l[i]) (bs:=ku ((l.take i).flatMap jF)) oJ (λb hb=>by have hb:=((si _).2 b).1 hb;obtain⟨t,ht,hb⟩:=dS.1 hb;exact(vn (lL t ht) b hb).1) ab;have hT:=Fj (n:=4) (t:=l[i]) (bs:=ko ((l.take i).flatMap jj)) oJ (λb hb=>by have hb:=((qP _).2 b).1 hb;obtain⟨t,ht,hb⟩:=dS.1 hb;have:=vo (lL t ht) b hb;unfold Fh;omega) ab;rw[<-Cd,<-oy iI]at hN;rw[<-Ce,<-oy iI]at hT;clear mM rh WD WE sy;generalize ku ((l.take i).flatMap jF)=N1 at *
    generalize ko ((l.take i).flatMap jj)=T1 at *
    generalize hN2:ku ((l.take (i+1)).flatMap jF)=N2 at *
    generalize Yv:ko ((l.take (i+1)).flatMap jj)=T2 at *
    generalize l[i]=x at hg hw hf hN hT;obtain⟨x0,⟨y0,y1,y2,y3,y4,y5⟩,⟨z0,z1,z2,z3,z4,z5⟩,x3,x4,x5⟩:=x;(repeat first|refine' uD|(refine' oX;(first|exact iV hw|exact iV hf|exact iV hN|exact iV hT|exact jA (q:=aI hg));exact kq));exact⟨i+1,⟨iI,jU,pz⟩,by omega,iE.le ⟨.inl rfl,.inl (by rw[hN2];rfl),.inl (by rw[Yv];rfl),(aA ⟨.inl (aT aq (uu ab)),trivial⟩)⟩,lq.mk [_] [] [] rfl⟩
   ·rw[aV nP]at jU;rw[fO]at nP;rw[nP]at hf;rw[jU,aW af]at hR;subst hR;clear sy;generalize l[i]=x at hg hw hf;obtain⟨x0,⟨y0,y1,y2,y3,y4,y5⟩,⟨z0,z1,z2,z3,z4,z5⟩,x3,x4,x5⟩:=x;(repeat first|refine' uD|(refine' oX;(first|exact iV hw|exact iV hf|exact jA (q:=aI hg));exact kq));refine' rE;all_goals rfl
  ·rw[aW nn]at jU;rw[jU,aW nn]at hR;subst hR;clear sy;generalize kG VD l[i] 1=w at *
   generalize l[i]=x at hg hw;obtain⟨x0,⟨y0,y1,y2,y3,y4,y5⟩,⟨z0,z1,z2,z3,z4,z5⟩,x3,x4,x5⟩:=x;have js:(w !=0)=true:=(by simpa using nn);(repeat first|refine' uD|(refine' oX;(first|exact iV hw|exact jA (q:=aI hg));exact kq));refine' sQ<;>intro h
   ·(try refine' uD);refine' rE;all_goals rfl
   exfalso;rw[js]at h;cases h
 ·have lk:i=l.length:=by have:=aX h;omega
  subst lk;rw[dv,kB]at jU;rw[jU,aV af]at hR;rw[du]at *
  clear h jU;subst hR;(try refine' uD);refine' rE;all_goals rfl
end Go.Proofs.YtckjndkmmfmjjaaGreatDoor