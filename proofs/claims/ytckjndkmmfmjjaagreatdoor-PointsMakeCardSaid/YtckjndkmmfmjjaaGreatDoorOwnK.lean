/- Steps to pointsMake_card. -/
import Derived.Test.YtckjndkmmfmjjaaGreatDoorOwnJ
set_option linter.all false
open Go.IntKind (i64 u64)
open Go.Proofs.Tryz
set_option maxRecDepth 100000
set_option maxHeartbeats 32000000
namespace Go.Proofs.YtckjndkmmfmjjaaGreatDoor
open Go Go.Pure
attribute [local irreducible] PW jQ ju PO PC lS
variable{X:Nat}
def acU{xs:List Nat}{n:Nat}(hx:okW xs)(hv:val xs=X)(hl:xs.length=n):iO xs 1 1++[iW xs 1 1]=iQ (n+1) (X+1):=by
 have h1:=rn xs 1 1;have h2:=lP hx;rw[hl]at h1 h2;rw[hv]at h2;rw[hv,cU]at h1;have hp:0<WB^n:=dt af;have h3:X+1<WB^(n+1):=by rw[cW];have:WB^n*2<=WB^n*WB:=ch _ af;omega
 have h4:iW xs 1 1<WB:=by refine Nat.lt_of_mul_lt_mul_left (a:=WB^n) ?_;have e:WB^n*WB=WB^(n+1):=(cW ..).symm;rw[e];omega
 refine val_inj (kz.2 ⟨rm _ _ _,iS.2 ⟨h4,ke⟩⟩) (lJ _ _) (by rw[bd,jh,iN,hl];rfl) ?_;rw[lH h3,jy,jh,hl,kK,mQ,dZ,b9];exact h1
variable{c x0:Nat}{W:List Nat}
def V2{g c':Nat}(h0:W[0]?=some x0):al 127 [.vw 0 g 0 1 c,.vw 0 g 0 1 c',av (iG [1])] ⟨[],[],[AR g W]⟩ (.g (wG ((x0+1+0)/WB))) ⟨[],[],[AR g (iH W 0 [(x0+1+0)%WB])]⟩:=by
 have x8:(iG W)[0+0]?=some (wG x0):=iT h0;have hb:=sT (x:=x0) (y:=1) (c:=0) af;have hW:0<W.length:=(aR.1 h0).1;have nP:W.set (0+0) ((x0+1+0)%WB)=iH W 0 [(x0+1+0)%WB]:=by have:=kx (ws:=W) (us:=[]) (off:=0) (n:=0) (w:=(x0+1+0)%WB) rfl ab;rw[oh]at this;exact this
 generalize (x0+1+0)/WB=cc,(x0+1+0)%WB=zz at *
 generalize iH W 0 [zz]=W1 at *
 refine' eN func127;(repeat first|refine' uD|(refine' oX;exact jL;exact kq));refine me 2 ?_;(repeat first|refine' wc|(apply dR rfl rfl;focus(first|exact lU rfl rfl (AG rfl) rfl rfl x8 rfl))|(refine' oX;(first|exact iV hb|exact jV 0|exact jB|exact jI (iP rfl (SZ rfl) rfl rfl rfl rfl af rfl x8 (aZ _)) (aT (λl=>(⟨[],[],[MO.arr g WT l]⟩:PH)) (jo.trans (aT iG nP))));exact kq)|refine' xW [10000]);refine' rB;all_goals rfl
def SD{g z0:Nat}(h0:W[0]?=some z0):al 127 [.vw 0 g 0 1 c,av (iG [x0]),av (iG [1])] ⟨[],[],[AR g W]⟩ (.g (wG ((x0+1+0)/WB))) ⟨[],[],[AR g (iH W 0 [(x0+1+0)%WB])]⟩:=by
 have x8:(iG W)[0+0]?=some (wG z0):=iT h0;have hb:=sT (x:=x0) (y:=1) (c:=0) af;have hW:0<W.length:=(aR.1 h0).1;have nP:W.set (0+0) ((x0+1+0)%WB)=iH W 0 [(x0+1+0)%WB]:=by have:=kx (ws:=W) (us:=[]) (off:=0) (n:=0) (w:=(x0+1+0)%WB) rfl ab;rw[oh]at this;exact this
 generalize (x0+1+0)/WB=cc,(x0+1+0)%WB=zz at *
 generalize iH W 0 [zz]=W1 at *
 refine' eN func127;(repeat first|refine' uD|(refine' oX;exact jL;exact kq));refine me 2 ?_;(repeat first|refine' wc|(refine' oX;(first|exact iV hb|exact jV 0|exact jB|exact jI (iP rfl (SZ rfl) rfl rfl rfl rfl af rfl x8 (aZ _)) (aT (λl=>(⟨[],[],[MO.arr g WT l]⟩:PH)) (jo.trans (aT iG nP))));exact kq)|refine' xW [10000]);refine' rB;all_goals rfl
def ZU{g:Nat}(hc:1<=c)(hW:c<=W.length):al 158 [.vw 0 g 0 0 c,av (iG [1])] ⟨[],[],[AR g W]⟩ (.vw 0 g 0 1 c) ⟨[],[],[AR g (iH W 0 [1])]⟩:=by
 have mq:=CM (g:=g) (o:=0) (len:=0) (cap:=c) (m:=AR g W) (n:=1) hc;have uo:putAt (iG W) 0 ((iG [1]).take 1)=iG (iH W 0 [1]):=by unfold putAt iH iG;simp
 generalize iH W 0 [1]=W1 at *
 refine' eN func158;(repeat first|refine' uN|refine oQ (cD [] mq) ?_|refine oQ (jI (zO (ys:=iG [1]) rfl (EL rfl) (SZ rfl) (SZ rfl) rfl rfl rfl (λ_ _ _ _ _ e=>by cases e) nA (by rw[iK];omega)) (aT (λl=>(⟨[],[],[MO.arr g WT l]⟩:PH)) uo)) ?_);refine' rB;all_goals rfl
def ahf:ak 158 [.iM,av (iG [1])] (av (iG [1])):=PC.out (Bn (xs:=[1]) af af) rfl
def V3:ak 133 [.iM,.iM,av (iG [1])] (av (iG [1])):=by
 have hs:=ahf;have rH:ak 133 [.iM,av (iG [1]),.iM] (av (iG [1])):=by refine' eN func133;(repeat first|refine' uD|(refine' oX;exact cB [true] hs;exact kq));refine' rT;rfl
 refine' eN func133;(repeat first|refine' uD|(refine' oX;exact cB [true,false,true] rH;exact kq));refine' rT;rfl
def ZV{g:Nat}(hz:pH W c X)(ll:(iF X).length<=1∨(iF X).length+1<=c):al 133 [.vw 0 g 0 (iF X).length c,.vw 0 g 0 (iF X).length c,av (iG [1])] ⟨[],[],[AR g W]⟩ (av (iG (iF (X+1)))) ⟨[],[],[.gone (g+1)]⟩:=by
 have Q5:X<WB^(iF X).length:=by have:=lP (ji X);rwa[jm]at this
 have iI:X+1<WB^((iF X).length+1):=by rw[cW];have:WB^(iF X).length*2<=WB^(iF X).length*WB:=ch _ af;omega
 have hle:=hz.le;have EC:=hz.cw;have ud:=hz.cm;have mM:=hz.c1;have lR:=hz.tk;have hwo:=hz.ok;by_cases h0:X=0
 ·subst h0;rw[jg,jC (n:=0+1) af af];have hs:=ZU (g:=g) mM EC;have zL:((iG (iH W 0 [1])).drop 0).take 1=iG [1]:=qS (by rw[jW];rfl);have rH:al 133 [.vw 0 g 0 0 c,av (iG [1]),.vw 0 g 0 0 c] ⟨[],[],[AR g W]⟩ (.vw 0 g 0 1 c) ⟨[],[],[AR g (iH W 0 [1])]⟩:=by
   generalize iH W 0 [1]=W1 at *
   refine' eN func133;(repeat first|refine' uD|(refine' oX;(first|exact jL|exact cD [] hs);exact kq));refine' rB;all_goals rfl
  generalize iH W 0 [1]=W1 at *
  refine' eN func133;(repeat first|refine' wb|(refine' oX;exact jL;exact kq)|refine xU [4] rfl ?_);refine nK (iL [(6,.vw 0 g 0 1 c)]) ⟨[],[],[AR g W1]⟩ ?_ ?_;(try refine' wh @rH);exact⟨iE.le ⟨.inl rfl,trivial⟩,aJ⟩;refine jP 0 rfl (ja (env':=iL [(6,av (iG [1]))]) (H':=⟨[],[],[.gone (g+1)]⟩) (iE.le ⟨.inl (rM.trans (aT av zL)),trivial⟩) aJ ?_);(try refine' uD);refine' rB;all_goals rfl
 ·have h1:=jl h0;rw[iK]at h1;have EY:=ji X;have Bh:=AO iI;have rG:=mf iI;have afl:=acU (n:=(iF X).length) (ji X) (jm X) rfl;generalize iF X=xs at *
  generalize iF (X+1)=ds at *
  obtain⟨n,hn⟩:∃n,xs.length=n:=⟨_,rfl⟩;rw[hn]at Q5 iI hle lR ll h1 Bh rG afl⊢;have sJ:xs[0]?=some (xs[0]'(by omega)):=aS ab;obtain⟨x0,afj⟩:∃x,x=xs[0]'(by omega):=⟨_,rfl⟩;rw[<-afj]at sJ;have VA:((n:Int)==0)=false:=bk.2 ab;have yu:i64.wrap ((n:Int)+1)=((n+1:Nat):Int):=by rw[jD ab];omega
  obtain⟨s1,s2⟩:=qy (y:=1) (c:=1) sJ;have s1':iO (xs.take 1) 1 1=[(x0+1+0)%WB]:=by rw[s1,cU];rfl
  have s2':iW (xs.take 1) 1 1=(x0+1+0)/WB:=by rw[s2,cU];rfl
  have Of:=Cg (xs.take 1) (xs.drop 1) 1 1;rw[cA,s1',s2']at Of;have p8:=iN (n+1) (X+1);have afk:=EY.at sJ;have hcy:(x0+1+0)/WB<=1:=by refine gJ ((bK af).2 ?_);omega
  have hxd:(xs.drop 1).length=n-1:=by rw[eY];omega
  refine' eN func133;(repeat first|refine' uD|(refine' oX;exact jL;exact kq));refine' sQ<;>intro h;exfalso;have h2:=aU h;change (n:Int)<1 at h2;omega;clear h;(try refine' uD);refine' sQ<;>intro h;exfalso;rw[VA]at h;cases h;clear h;(repeat first|refine' wb|refine xU [9] rfl ?_);refine ja (env':=iL [(0,.vw 0 g 0 n c),(1,.vw 0 g 0 n c),(2,av (iG [1])),(7,aq n),(8,aq 1)]) (H':=⟨[],[],[AR g W]⟩) (iE.le an) aJ ?_;rcases dG c (n+1)with hc|hc
  ·have rZ:n=1:=ab
   subst rZ;have vJ:xs=[x0]:=by
    match xs,hn,sJ with
    |[a],_,h=>simp at h;rw[h]
   subst vJ;have mq:=Dg (g:=g) (o:=0) (len:=1) (cap:=c) (m:=AR g W) (n:=1+1) ab hc ab;rw[<-yu]at mq;have Vu:((iG W).drop 0).take 1=iG [x0]:=qS lR;have Jm:=SD (g:=0) (c:=1+1+4) (x0:=x0) (z0:=0) (W:=List.replicate (1+1+4) 0) rfl;have tR:(iG (iH (List.replicate (1+1+4) 0) 0 [(x0+1+0)%WB]))[0+1]?=some (wG 0):=rfl;have aj4: [(x0+1+0)%WB]++[(x0+1+0)/WB]=iQ (1+1) (X+1):=(by rw[<-afl,Of.1,Of.2];rfl);have nP:(iH (List.replicate (1+1+4) 0) 0 [(x0+1+0)%WB]).set (0+1) ((x0+1+0)/WB)=iH (List.replicate (1+1+4) 0) 0 (iQ (1+1) (X+1)):=(by rw[kx (us:=[(x0+1+0)%WB]) (off:=0) (n:=1) rfl (by rw[cS];decide),aj4]);have y8:=mH (g:=0) (o:=0) (n:=1+1) (cap:=1+1+4) (ws:=iH (List.replicate (1+1+4) 0) 0 (iQ (1+1) (X+1))) (l:=iQ (1+1) (X+1)) (sK p8) (by rw[iX (by rw[p8];decide)];decide) ab ai;rw[rG]at y8;have zL:((iG (iH (List.replicate (1+1+4) 0) 0 (iQ (1+1) (X+1)))).drop 0).take ds.length=iG ds:=qS (by rw[jW,cV (by rw[p8,<-rG,mf iI];exact iU iI)];exact Bh);generalize iH (List.replicate (1+1+4) 0) 0 (iQ (1+1) (X+1))=W2 at *
   generalize (x0+1+0)/WB=cc,(x0+1+0)%WB=zz at *
   obtain⟨W1,TK⟩:∃w,w=iH (List.replicate (1+1+4) 0) 0 [zz]:=⟨_,rfl⟩;rw[<-TK]at Jm tR nP;generalize Yy:List.replicate (1+1+4) 0=Z0 at *
   have xx:(iG W1).set (0+1) (wG cc)=iG W2:=jo.trans (aT iG nP);(repeat first|refine' wb|(refine' oX;exact cD [] mq;exact kq)|refine xU [10] rfl ?_);refine jP 0 rfl (ja (env':=iL [(0,.vw 1 0 0 (1+1) (1+1+4)),(1,av (iG [x0])),(2,av (iG [1])),(7,aq 1),(8,aq 1)]) (H':=⟨[],[],[.gone (g+1),AR 0 Z0]⟩) (iE.le ⟨.inl rfl,.inl (rM.trans (aT av Vu)),an⟩) aJ ?_);(repeat first|refine' wb|(refine' oX;(first|exact qi 1 rfl (EL rfl) (SZ rfl) rfl rfl rfl rfl rfl (by omega)|exact lE rfl (EL rfl) (SZ rfl) rfl rfl rfl af (show(0:Int)<=1 by decide) (show(1:Int)<=1 by decide) (λx hx=>by rw[nA x hx];rfl)|exact ct [] rfl rfl Lw (Jm) rfl rfl rfl rfl rfl rfl rfl rfl rfl rfl rfl|exact jV 1|exact jI (iP rfl (SZ rfl) rfl rfl rfl rfl af rfl tR (aZ _)) (aT (λl=>(⟨[],[],[.gone (g+1),MO.arr 0 WT l]⟩:PH)) xx));exact kq)|refine xU [14] rfl ?_);refine nK (iL [(6,.vw 1 0 0 ds.length (1+1+4))]) ⟨[],[],[.gone (g+1),AR 0 W2]⟩ ?_ ?_;(try refine' wh @y8);exact⟨iE.le ⟨.inl rfl,trivial⟩,aJ⟩;refine jP 1 rfl (ja (env':=iL [(6,av (iG ds))]) (H':=⟨[],[],[.gone (g+1),.gone (0+1)]⟩) (iE.le ⟨.inl (rM.trans (aT av zL)),trivial⟩) aJ ?_);(try refine' uD);refine' rB;all_goals rfl
  ·have mq:=CM (g:=g) (o:=0) (len:=n) (cap:=c) (m:=AR g W) (n:=n+1) hc;rw[<-yu]at mq;have hW0:W[0]?=some x0:=(by rw[<-lR,bq,aW ab]at sJ;exact sJ);have Jm:=V2 (g:=g) (c:=c) (c':=c) hW0;have DL:=jh xs 1 1;have Nj:iH (iH W 0 [(x0+1+0)%WB]) 1 (iO (xs.drop 1) 1 ((x0+1+0)/WB))=iH W 0 (iO xs 1 1):=by
    rw[Of.1];exact P7 (ws:=W) (us:=[(x0+1+0)%WB]) (vs:=iO (xs.drop 1) 1 ((x0+1+0)/WB)) (off:=0) (by rw[jh,hxd];show 0+1+(n-1)<=_;omega)
   have aa9:=fun(h2:2<=n)=>ZT (g:=g) (n:=n-1) (cap:=c-1) (cap':=c-1) (y:=(x0+1+0)/WB) (W:=iH W 0 [(x0+1+0)%WB]) (xs:=xs.drop 1) (EY.drop 1)
    (by have e1:(iH W 0 [(x0+1+0)%WB]).drop 1=W.drop 1:=(by rw[jW];rfl);rw[e1,<-lR,List.drop_take]) hxd ab ab hcy (by rw[iX (by show 0+1<=_;omega)];omega) ab ab
   rw[Nj,<-Of.2]at aa9;have jE:n=1->iH W 0 [(x0+1+0)%WB]=iH W 0 (iO xs 1 1)∧(x0+1+0)/WB=iW xs 1 1:=λh2=>(by have e:xs.drop 1=[]:=dH ab;rw[Of.1,Of.2,e];exact⟨rfl,rfl⟩);have tR:(iG (iH W 0 (iO xs 1 1)))[0+n]?=some (wG ((iH W 0 (iO xs 1 1))[n]'(by rw[iX ab];omega))):=iT (by rw[bc];exact aS _);have nP:(iH W 0 (iO xs 1 1)).set (0+n) (iW xs 1 1)=iH W 0 (iQ (n+1) (X+1)):=(by rw[kx ab ab,afl]);have y8:=mH (g:=g) (o:=0) (n:=n+1) (cap:=c) (ws:=iH W 0 (iQ (n+1) (X+1))) (l:=iQ (n+1) (X+1)) (sK p8) (by rw[iX ab];omega) ab ai;rw[rG]at y8;have zL:((iG (iH W 0 (iQ (n+1) (X+1)))).drop 0).take ds.length=iG ds:=qS (by rw[jW,cV (by rw[p8,<-rG,mf iI];exact iU iI)];exact Bh);generalize(iH W 0 (iO xs 1 1))[n]'_=z at tR;generalize iH W 0 (iQ (n+1) (X+1))=W2 at *
   generalize (x0+1+0)/WB=cc,(x0+1+0)%WB=zz,iW xs 1 1=cx,iH W 0 (iO xs 1 1)=WM at *
   generalize iH W 0 [zz]=W1 at *
   have xx:(iG WM).set (0+n) (wG cx)=iG W2:=jo.trans (aT iG nP);(repeat first|refine' wb|(refine' oX;(first|exact cD [] mq|exact qi 1 rfl (EL rfl) (SZ rfl) rfl rfl rfl rfl rfl (by omega)|exact lE rfl (EL rfl) (SZ rfl) rfl rfl rfl af (show(0:Int)<=1 by decide) (show(1:Int)<=1 by decide) (λx hx=>by rw[nA x hx];rfl)|exact ct [] rfl rfl Lw (Jm) rfl rfl rfl rfl rfl rfl rfl rfl rfl rfl rfl);exact kq)|refine xU [11] rfl ?_);refine nK (iL [(0,.vw 0 g 0 (n+1) c),(7,aq n),(9,.g (wG cx))]) ⟨[],[],[AR g WM]⟩ ?_ ?_;(try refine' uD);refine' sQ<;>intro h;have h2:2<=n:=(by have h3:=aU h;omega);have aa9:=aa9 h2;clear h;(repeat first|refine' uD|(refine' oX;(first|exact kg (N5 1 n rfl (EL rfl) (SZ rfl) rfl rfl rfl rfl rfl ab ab ab) (show _=PV.vw 0 g 1 (n-1) (c-1)from rfl)|exact cD [] aa9);exact kq));exact⟨iE.le an,aJ⟩;have h2:n=1:=(by have h3:=aX h;omega);obtain⟨e1,e2⟩:=jE h2;clear h;rw[e1,e2];(try refine' uD);exact⟨iE.le an,aJ⟩;(repeat first|refine' wb|(refine' oX;(first|exact jV n|exact jI (iP rfl (SZ rfl) rfl rfl rfl rfl af rfl tR (aZ _)) (aT (λl=>(⟨[],[],[MO.arr g WT l]⟩:PH)) xx));exact kq)|refine xU [14] rfl ?_);refine nK (iL [(6,.vw 0 g 0 ds.length c)]) ⟨[],[],[AR g W2]⟩ ?_ ?_;(try refine' wh @y8);exact⟨iE.le ⟨.inl rfl,trivial⟩,aJ⟩;refine jP 0 rfl (ja (env':=iL [(6,av (iG ds))]) (H':=⟨[],[],[.gone (g+1)]⟩) (iE.le ⟨.inl (rM.trans (aT av zL)),trivial⟩) aJ ?_);(try refine' uD);refine' rB;all_goals rfl
def E5:al 153 [.ptr 0 0,.ptr 0 0,ar 1] ⟨[[ax false,.iM]],[],[]⟩ (.ptr 0 0) ⟨[[ax false,av (iG (iF 0))]],[],[]⟩:=by rw[jg];exact PC.post ZS (show kW _ _ ⟨[[ax false,av []]],[],[]⟩from kW.DR)
def Dh:al 91 [.ptr 0 0,.ptr 0 0,.ptr 1 0] ⟨[[ax false,.iM],[ax false,av (iG [1])]],[],[]⟩ (.ptr 0 0) ⟨[[ax false,av (iG [1])],[ax false,av (iG [1])]],[],[]⟩:=by
 have ha:=V3;refine' eN func91;(repeat' first|refine' wc|(refine' oX;exact cB [true,true,false] ha;exact kq)|refine' xW [0,1]|refine' sN<;>intro h|fail);all_goals(refine' rB)
 all_goals rfl
def acV{g:Nat}(hz:pH W c X)(ll:(iF X).length<=1∨(iF X).length+1<=c):al 91 [.ptr 0 0,.ptr 0 0,.ptr 1 0] ⟨[[ax false,.vw 0 g 0 (iF X).length c],[ax false,av (iG [1])]],[],[AR g W]⟩ (.ptr 0 0) ⟨[[ax false,av (iG (iF (X+1)))],[ax false,av (iG [1])]],[],[.gone (g+1)]⟩:=by
 have ha:=ZV (g:=g) hz ll;generalize iF (X+1)=ds at *
 generalize(iF X).length=n at *
 refine' eN func91;(repeat' first|refine' wc|(refine' oX;exact cD [] ha;exact kq)|refine' xW [0,1]|refine' sN<;>intro h|fail);all_goals(refine' rB)
 all_goals rfl
def Di:al 155 [.ptr 0 0,aq 0] ⟨[[ax false,.iM]],[],[]⟩ (.g (wG 0)) ⟨[[ax false,.iM]],[],[]⟩:=by refine' eN func155;(try refine' uD);refine' rB;all_goals rfl
def and_one(n:Nat):u64.wrap (((BitVec.ofInt u64.bits (n:Int) &&& BitVec.ofInt u64.bits 1).toNat:Nat):Int)=((n%2:Nat):Int):=by
 have e:(BitVec.ofInt u64.bits (n:Int) &&& BitVec.ofInt u64.bits 1).toNat=n%2:=by rw[iu,BitVec.toNat_ofInt,BitVec.toNat_ofInt];show((n:Int)%(2^64:Nat)).toNat &&& 1=n%2;rw[Nat.and_one_is_mod];omega
 rw[e];exact jz rfl aL
def acW{g:Nat}(hz:pH W c X):al 155 [.ptr 0 0,aq 0] ⟨[[ax false,.vw 0 g 0 (iF X).length c]],[],[AR g W]⟩ (.g (wG (X%2))) ⟨[[ax false,.vw 0 g 0 (iF X).length c]],[],[AR g W]⟩:=by
 have lR:=hz.tk;have hle:=hz.le;have EC:=hz.cw;by_cases h0:X=0
 ·subst h0;rw[jg];refine' eN func155;(repeat first|refine' uD|(refine' oX;exact jL;exact kq));refine' rB;all_goals rfl
 ·have h1:=jl h0;rw[iK]at h1;have hv:=jm X;generalize iF X=xs at *
  obtain⟨n,hn⟩:∃n,xs.length=n:=⟨_,rfl⟩;rw[hn]at lR hle h1⊢;obtain⟨x0,r,rfl⟩:∃x0 r,xs=x0::r:=by
   cases xs with
   |nil=>simp at hn;omega|cons a b=>exact⟨a,b,rfl⟩
  have sJ:(iG W)[0+0]?=some (wG x0):=iT (by have h2:(W.take n)[0]?=some x0:=(by rw[lR];rfl);rwa[bq,aW ab]at h2);have aba:X%2=x0%2:=by rw[<-hv,kK];unfold WB;omega
  rw[aba];have hand:=and_one x0;generalize x0%2=b at *
  refine' eN func155;(repeat first|refine' uD|(refine' oX;exact jL;exact kq));refine' sQ<;>intro h
  ·clear h;(repeat first|refine' uD|(refine' oX;(first|exact jV 0|exact jM (q:=aI sJ));exact kq));rw[show wG b=GV.int .u64 _ from aT (GV.int .u64) hand.symm];refine' rB;all_goals rfl
  exfalso;have h2:=aX h;omega
def xl(h0:X≠0):al 156 [.ptr 0 0] ⟨[[ax false,av (iG (iF X))]],[],[]⟩ (aq 1) ⟨[[ax false,av (iG (iF X))]],[],[]⟩:=by
 have h1:=jl h0;generalize iF X=xs at *
 have Bq:(((iG xs).length:Int)==0)=false:=bk.2 ab;refine' eN func156;(try refine' uN);refine' sQ<;>intro h;exfalso;rw[Bq]at h;cases h;clear h;(try refine' uN);refine' rB;all_goals rfl
def A0(X Y:Nat):Nat:=if Y<2*(X%Y)then X/Y+1 else if 2*(X%Y)=Y then(if X/Y%2=1 then X/Y+1 else X/Y)else X/Y
variable{Y:Nat}
def CQ(hX:(iF X).length<=100000)(hY:(iF Y).length<=100000):al 120 [.ptr 0 0,.ptr 1 0] ⟨[[ax false,av (iG (iF X))],[ax false,av (iG (iF Y))]],[],[]⟩ (aq (mi X Y)) ⟨[[ax false,av (iG (iF X))],[ax false,av (iG (iF Y))]],[],[]⟩:=by have h:=Lr (x:=(X:Int)) (y:=(Y:Int)) (by rw[bM];exact hX) (by rw[bM];exact hY);rwa[uZ,uZ]at h
def u9:al 93 [aq 1] ⟨[],[],[]⟩ (.ptr 0 0) ⟨[[ax false,av (iG [1])]],[],[]⟩:=by have h:=s9 (z:=1) af af;rwa[show lD (1:Int)=[ax false,av (iG [1])]from by rw[show(1:Int)=((1:Nat):Int)from rfl,uZ,jC af af]]at h
def EA(hY:Y<WB*WB):(iF Y).length<=2:=iU (k:=2) (by rw[cW,dT];exact hY)
def RF{R:Nat}(hY:Y<WB*WB)(hR:R<Y):(iF (2*R)).length<=3:=iU (by
 have h:WB*WB*2<=WB^3:=af
 omega)
def JB(h0:0<Y)(hY:Y<WB*WB)(hq:X/Y=0)(hr:X%Y=0)(LG:al 152 [.ptr 0 0,.ptr 1 0,.ptr 2 0,.ptr 3 0] ⟨[[ax false,.iM],[ax false,av (iG (iF X))],[ax false,av (iG (iF Y))],[ax false,.iM]],[],[]⟩ (.tuple [.ptr 0 0,.ptr 3 0]) ⟨[[ax false,.iM],[ax false,av (iG (iF X))],[ax false,av (iG (iF Y))],[ax false,.iM]],[],[]⟩):
  al 123 [.ptr 0 0,.ptr 1 0] ⟨[[ax false,av (iG (iF X))],[ax false,av (iG (iF Y))]],[],[]⟩ (.ptr 2 0) ⟨[[ax false,av (iG (iF X))],[ax false,av (iG (iF Y))],[ax false,av (iG (iF (A0 X Y)))]],[],[]⟩:=by
 have hRY:=bL X h0;have ua:=CP (Y:=Y) ab (b8 (EA hY) af);have mz:=CQ (X:=2*(X%Y)) (Y:=Y) (b8 (RF hY hRY) af) (b8 (EA hY) af);have jE:=u9;have Ip:=xl (X:=Y) ab;have x9:=HH;have A5:=E5;have qc:=Di;have lC:=Dh;rw[hr]at mz;rw[show mi ((2*0:Nat):Int) (Y:Int)= -1 from by unfold mi;rw[aW ab],dZ]at mz;have he:A0 X Y=0:=by unfold A0;rw[hq,hr,aV ab,aV ab]
 have vO:=Ip;rw[he,jg];refine PC.post (H1:=⟨[[ax false,av (iG (iF X))],[ax false,av (iG (iF Y))],[ax false,.iM]],[],[]⟩) ?_ (show kW _ _ ⟨[[ax false,av (iG (iF X))],[ax false,av (iG (iF Y))],[ax false,av []]],[],[]⟩from kW.DR);generalize iF 0=zs at *
 generalize iF X=xs,iF Y=ys at *
 refine' eN func123;(repeat first|refine' uN|refine oQ (cD [] LG) ?_|refine oQ (cD [] x9) ?_|refine oQ (cD [] A5) ?_|refine oQ (cD [] ua) ?_|refine oQ (cD [] mz) ?_|refine oQ (cD [] qc) ?_|refine oQ (cD [] vO) ?_|refine oQ (cD [] Ip) ?_|refine oQ (cB [] jE) ?_|refine oQ (cD [] lC) ?_);refine' rB;all_goals rfl
def NI(h0:0<Y)(hY:Y<WB*WB){g:Nat}(hq:X/Y=0)(hr:X%Y≠0)(hz:pH W c (X%Y))(LG:al 152 [.ptr 0 0,.ptr 1 0,.ptr 2 0,.ptr 3 0] ⟨[[ax false,.iM],[ax false,av (iG (iF X))],[ax false,av (iG (iF Y))],[ax false,.iM]],[],[]⟩ (.tuple [.ptr 0 0,.ptr 3 0]) ⟨[[ax false,.iM],[ax false,av (iG (iF X))],[ax false,av (iG (iF Y))],[ax false,.vw 0 g 0 (iF (X%Y)).length c]],[],[AR g W]⟩):
  al 123 [.ptr 0 0,.ptr 1 0] ⟨[[ax false,av (iG (iF X))],[ax false,av (iG (iF Y))]],[],[]⟩ (.ptr 2 0) ⟨[[ax false,av (iG (iF X))],[ax false,av (iG (iF Y))],[ax false,av (iG (iF (A0 X Y)))]],[],[]⟩:=by
 have hRY:=bL X h0;have ua:=CP (Y:=Y) ab (b8 (EA hY) af);have mz:=CQ (X:=2*(X%Y)) (Y:=Y) (b8 (RF hY hRY) af) (b8 (EA hY) af);have jE:=u9;have Ip:=xl (X:=Y) ab;have x9:= @Um g (iF (X%Y)).length c W;have A5:=Un (g:=g) hz;have qc:=Di;have lC:=Dh;have vO:=xl (X:=X) (λh=>hr (by rw[h];exact Nat.zero_mod _));have vS:iF 1=[1]:=jC af af;rcases fF (2*(X%Y)) Y with hc|hc|hc
 ·rw[show mi ((2*(X%Y):Nat):Int) (Y:Int)= -1 from by unfold mi;rw[aW ab]]at mz;have he:A0 X Y=0:=by unfold A0;rw[hq,aV ab,aV ab]
  rw[he,jg];refine PC.post (H1:=⟨[[ax false,av (iG (iF X))],[ax false,av (iG (iF Y))],[ax false,.iM]],[],[]⟩) ?_ (show kW _ _ ⟨[[ax false,av (iG (iF X))],[ax false,av (iG (iF Y))],[ax false,av []]],[],[]⟩from kW.DR);clear hz vS;generalize iF (2*(X%Y))=ts at *
  generalize iF X=xs,iF Y=ys,(iF (X%Y)).length=n at *
  refine' eN func123;(repeat first|refine' uN|refine oQ (cD [] LG) ?_|refine oQ (cD [] x9) ?_|refine oQ (cD [] A5) ?_|refine oQ (cD [] ua) ?_|refine oQ (cD [] mz) ?_|refine oQ (cD [] qc) ?_|refine oQ (cD [] vO) ?_|refine oQ (cD [] Ip) ?_|refine oQ (cB [] jE) ?_|refine oQ (cD [] lC) ?_);refine' rB;all_goals rfl
 ·rw[show mi ((2*(X%Y):Nat):Int) (Y:Int)=0 from by unfold mi;rw[aV ab,aV ab]]at mz;have he:A0 X Y=0:=by unfold A0;rw[hq,aV ab,aW hc];rfl
  rw[he,jg];refine PC.post (H1:=⟨[[ax false,av (iG (iF X))],[ax false,av (iG (iF Y))],[ax false,.iM]],[],[]⟩) ?_ (show kW _ _ ⟨[[ax false,av (iG (iF X))],[ax false,av (iG (iF Y))],[ax false,av []]],[],[]⟩from kW.DR);clear hz vS;generalize iF (2*(X%Y))=ts at *
  generalize iF X=xs,iF Y=ys,(iF (X%Y)).length=n at *
  refine' eN func123;(repeat first|refine' uN|refine oQ (cD [] LG) ?_|refine oQ (cD [] x9) ?_|refine oQ (cD [] A5) ?_|refine oQ (cD [] ua) ?_|refine oQ (cD [] mz) ?_|refine oQ (cD [] qc) ?_|refine oQ (cD [] vO) ?_|refine oQ (cD [] Ip) ?_|refine oQ (cB [] jE) ?_|refine oQ (cD [] lC) ?_);refine' rB;all_goals rfl
 ·rw[show mi ((2*(X%Y):Nat):Int) (Y:Int)=1 from by unfold mi;rw[aV ab,aW ab]]at mz;have he:A0 X Y=1:=by unfold A0;rw[hq,aW hc]
  rw[he,vS];clear hz vS;generalize iF (2*(X%Y))=ts at *
  generalize iF X=xs,iF Y=ys,(iF (X%Y)).length=n at *
  refine' eN func123;(repeat first|refine' uN|refine oQ (cD [] LG) ?_|refine oQ (cD [] x9) ?_|refine oQ (cD [] A5) ?_|refine oQ (cD [] ua) ?_|refine oQ (cD [] mz) ?_|refine oQ (cD [] qc) ?_|refine oQ (cD [] vO) ?_|refine oQ (cD [] Ip) ?_|refine oQ (cB [] jE) ?_|refine oQ (cD [] lC) ?_);refine' rB;all_goals rfl
def IY(h0:0<Y)(hY:Y<WB*WB){g:Nat}(hr:X%Y=0)(hz:pH W c (X/Y))(LG:al 152 [.ptr 0 0,.ptr 1 0,.ptr 2 0,.ptr 3 0] ⟨[[ax false,.iM],[ax false,av (iG (iF X))],[ax false,av (iG (iF Y))],[ax false,.iM]],[],[]⟩ (.tuple [.ptr 0 0,.ptr 3 0]) ⟨[[ax false,.vw 0 g 0 (iF (X/Y)).length c],[ax false,av (iG (iF X))],[ax false,av (iG (iF Y))],[ax false,.iM]],[],[AR g W]⟩):
  al 123 [.ptr 0 0,.ptr 1 0] ⟨[[ax false,av (iG (iF X))],[ax false,av (iG (iF Y))]],[],[]⟩ (.ptr 2 0) ⟨[[ax false,av (iG (iF X))],[ax false,av (iG (iF Y))],[ax false,av (iG (iF (A0 X Y)))]],[],[]⟩:=by
 have hRY:=bL X h0;have ua:=CP (Y:=Y) ab (b8 (EA hY) af);have mz:=CQ (X:=2*(X%Y)) (Y:=Y) (b8 (RF hY hRY) af) (b8 (EA hY) af);have jE:=u9;have Ip:=xl (X:=Y) ab;have x9:=HH;have A5:=E5;have qc:=Di;have lC:=Dh;rw[hr]at mz;rw[show mi ((2*0:Nat):Int) (Y:Int)= -1 from by unfold mi;rw[aW ab],dZ]at mz;have he:A0 X Y=X/Y:=by unfold A0;rw[hr,aV ab,aV ab]
 have vO:=Ip;rw[he];have zL:=qS hz.tk;clear hz;generalize iF 0=zs at *
 generalize iF X=xs,iF Y=ys,iF (X/Y)=ds at *
 refine' eN func123;(repeat first|refine' wa|refine oQ (cD [] LG) ?_|refine oQ (cD [] x9) ?_|refine oQ (cD [] A5) ?_|refine oQ (cD [] ua) ?_|refine oQ (cD [] mz) ?_|refine oQ (cD [] qc) ?_|refine oQ (cD [] vO) ?_|refine oQ (cD [] Ip) ?_|refine oQ (cB [] jE) ?_|refine oQ (cD [] lC) ?_|refine xU [5] rfl ?_);refine jP 0 rfl (ja (env':=iL [(5,.ptr 2 0)]) (H':=⟨[[ax false,av (iG xs)],[ax false,av (iG ys)],[ax false,av (iG ds)],[ax false,av (iG zs)],[ax false,av (iG ys)]],[],[.gone (g+1)]⟩) (iE.le ⟨.inl rfl,trivial⟩) (kW.of_eq ?_) ?_);simp only[Gk,Bw,rM,zL];rfl;(try refine' uN);refine' rB;all_goals rfl
def JC(h0:0<Y)(hY:Y<WB*WB){g1 g2 c1 c2:Nat}{W1 W2:List Nat}(hX:X≠0)(hz:pH W1 c1 (X/Y))(Js:pH W2 c2 (X%Y))(ll:(iF (X/Y)).length<=1∨(iF (X/Y)).length+1<=c1)(LG:al 152 [.ptr 0 0,.ptr 1 0,.ptr 2 0,.ptr 3 0] ⟨[[ax false,.iM],[ax false,av (iG (iF X))],[ax false,av (iG (iF Y))],[ax false,.iM]],[],[]⟩ (.tuple [.ptr 0 0,.ptr 3 0]) ⟨[[ax false,.vw 0 g1 0 (iF (X/Y)).length c1],[ax false,av (iG (iF X))],[ax false,av (iG (iF Y))],[ax false,.vw 1 g2 0 (iF (X%Y)).length c2]],[],[AR g1 W1,AR g2 W2]⟩):
  al 123 [.ptr 0 0,.ptr 1 0] ⟨[[ax false,av (iG (iF X))],[ax false,av (iG (iF Y))]],[],[]⟩ (.ptr 2 0) ⟨[[ax false,av (iG (iF X))],[ax false,av (iG (iF Y))],[ax false,av (iG (iF (A0 X Y)))]],[],[]⟩:=by
 have hRY:=bL X h0;have ua:=CP (Y:=Y) ab (b8 (EA hY) af);have mz:=CQ (X:=2*(X%Y)) (Y:=Y) (b8 (RF hY hRY) af) (b8 (EA hY) af);have jE:=u9;have Ip:=xl (X:=Y) ab;have x9:= @Um g2 (iF (X%Y)).length c2 W2;have A5:=Un (g:=g2) Js;have qc:=acW (g:=g1) hz;have lC:=acV (g:=g1) hz ll;have vO:=xl (X:=X) hX;rcases fF (2*(X%Y)) Y with hc|hc|hc
 ·rw[show mi ((2*(X%Y):Nat):Int) (Y:Int)= -1 from by unfold mi;rw[aW ab]]at mz;have he:A0 X Y=X/Y:=by unfold A0;rw[aV ab,aV ab]
  rw[he];have zL:=qS hz.tk;clear hz Js ll;generalize iF (2*(X%Y))=ts at *
  generalize iF X=xs,iF Y=ys,iF (X/Y)=ds,(iF (X%Y)).length=n at *
  refine' eN func123;(repeat first|refine' wa|refine oQ (cD [] LG) ?_|refine oQ (cD [] x9) ?_|refine oQ (cD [] A5) ?_|refine oQ (cD [] ua) ?_|refine oQ (cD [] mz) ?_|refine oQ (cD [] qc) ?_|refine oQ (cD [] vO) ?_|refine oQ (cD [] Ip) ?_|refine oQ (cB [] jE) ?_|refine oQ (cD [] lC) ?_|refine xU [5] rfl ?_);refine jP 0 rfl (ja (env':=iL [(5,.ptr 2 0)]) (H':=⟨[[ax false,av (iG xs)],[ax false,av (iG ys)],[ax false,av (iG ds)],[ax false,av (iG ts)],[ax false,av (iG ys)]],[],[.gone (g1+1),.gone (g2+1)]⟩) (iE.le ⟨.inl rfl,trivial⟩) (kW.of_eq ?_) ?_);simp only[Gk,Bw,rM,zL];rfl;(try refine' uN);refine' rB;all_goals rfl
 ·rw[show mi ((2*(X%Y):Nat):Int) (Y:Int)=0 from by unfold mi;rw[aV ab,aV ab]]at mz;rcases Nat.mod_two_eq_zero_or_one (X/Y)with e|e
  ·have he:A0 X Y=X/Y:=by unfold A0;rw[aV ab,aW hc,aV ab]
   rw[e]at qc;rw[he];have zL:=qS hz.tk;clear hz Js ll;generalize iF (2*(X%Y))=ts at *
   generalize iF X=xs,iF Y=ys,iF (X/Y)=ds,(iF (X%Y)).length=n at *
   refine' eN func123;(repeat first|refine' wa|refine oQ (cD [] LG) ?_|refine oQ (cD [] x9) ?_|refine oQ (cD [] A5) ?_|refine oQ (cD [] ua) ?_|refine oQ (cD [] mz) ?_|refine oQ (cD [] qc) ?_|refine oQ (cD [] vO) ?_|refine oQ (cD [] Ip) ?_|refine oQ (cB [] jE) ?_|refine oQ (cD [] lC) ?_|refine xU [5] rfl ?_);refine jP 0 rfl (ja (env':=iL [(5,.ptr 2 0)]) (H':=⟨[[ax false,av (iG xs)],[ax false,av (iG ys)],[ax false,av (iG ds)],[ax false,av (iG ts)],[ax false,av (iG ys)]],[],[.gone (g1+1),.gone (g2+1)]⟩) (iE.le ⟨.inl rfl,trivial⟩) (kW.of_eq ?_) ?_);simp only[Gk,Bw,rM,zL];rfl;(try refine' uN);refine' rB;all_goals rfl
  ·have he:A0 X Y=X/Y+1:=by unfold A0;rw[aV ab,aW hc,aW e]
   rw[e]at qc;rw[he];clear hz Js ll;generalize iF (2*(X%Y))=ts at *
   generalize iF X=xs,iF Y=ys,iF (X/Y+1)=es,(iF (X/Y)).length=m,(iF (X%Y)).length=n at *
   refine' eN func123;(repeat first|refine' uN|refine oQ (cD [] LG) ?_|refine oQ (cD [] x9) ?_|refine oQ (cD [] A5) ?_|refine oQ (cD [] ua) ?_|refine oQ (cD [] mz) ?_|refine oQ (cD [] qc) ?_|refine oQ (cD [] vO) ?_|refine oQ (cD [] Ip) ?_|refine oQ (cB [] jE) ?_|refine oQ (cD [] lC) ?_);refine' rB;all_goals rfl
 ·rw[show mi ((2*(X%Y):Nat):Int) (Y:Int)=1 from by unfold mi;rw[aV ab,aW ab]]at mz;have he:A0 X Y=X/Y+1:=by unfold A0;rw[aW hc]
  rw[he];clear hz Js ll;generalize iF (2*(X%Y))=ts at *
  generalize iF X=xs,iF Y=ys,iF (X/Y+1)=es,(iF (X/Y)).length=m,(iF (X%Y)).length=n at *
  refine' eN func123;(repeat first|refine' uN|refine oQ (cD [] LG) ?_|refine oQ (cD [] x9) ?_|refine oQ (cD [] A5) ?_|refine oQ (cD [] ua) ?_|refine oQ (cD [] mz) ?_|refine oQ (cD [] qc) ?_|refine oQ (cD [] vO) ?_|refine oQ (cD [] Ip) ?_|refine oQ (cB [] jE) ?_|refine oQ (cD [] lC) ?_);refine' rB;all_goals rfl
def Qk(h0:0<Y)(hY:Y<WB*WB)(hm:(iF X).length<=800):al 123 [.ptr 0 0,.ptr 1 0] ⟨[[ax false,av (iG (iF X))],[ax false,av (iG (iF Y))]],[],[]⟩ (.ptr 2 0) ⟨[[ax false,av (iG (iF X))],[ax false,av (iG (iF Y))],[ax false,av (iG (iF (A0 X Y)))]],[],[]⟩:=by
 obtain⟨vq,vr,M,hD,hq⟩:=V0 h0 hY hm;cases hD with
 |zero e1 e2=>exact JB h0 hY e1 e2 hq|low e1 e2 z=>exact NI h0 hY e1 e2 z hq|exact e2 z=>exact IY h0 hY e2 z hq|both e1 z1 z2 hr=>exact JC h0 hY e1 z1 z2 hr hq
def ZW(hX:X<WB):ak 157 [av (iG (iF X))] (ar X):=by by_cases h0:X=0;subst h0;rw[jg];refine' eN func157;(try refine' uN);refine' rT;rfl;rw[jC h0 hX];have hw:u64.wrap (X:Int)=(X:Int):=jz rfl hX;refine' eN func157;(repeat first|refine' uN|refine oQ (jB (g:=wG X)) ?_);refine' rT;first|rfl|exact aT (GV.int .u64) hw
end Go.Proofs.YtckjndkmmfmjjaaGreatDoor