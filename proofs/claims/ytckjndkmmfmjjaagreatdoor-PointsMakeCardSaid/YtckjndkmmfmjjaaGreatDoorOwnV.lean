/- Steps to pointsMake_card. -/
import Derived.Test.YtckjndkmmfmjjaaGreatDoorOwnK
import Derived.Test.YtckjndkmmfmjjaaGreatDoorOwnM
set_option linter.all false
open Go.IntKind (i64)
open Go.Proofs.Tryz
set_option maxRecDepth 100000
set_option maxHeartbeats 32000000
namespace Go.Proofs.YtckjndkmmfmjjaaGreatDoor
open Go Go.Pure
attribute [local irreducible] PW jQ ju PO PC lS
variable{x0 y0 z0:Nat}{W:List Nat}
def Ws{g c:Nat}(h0:W[0]?=some z0):al 127 [.vw 0 g 0 1 c,av (iG [x0]),av (iG [y0])] ⟨[],[],[AR g W]⟩ (.g (wG ((x0+y0+0)/WB))) ⟨[],[],[AR g (iH W 0 [(x0+y0+0)%WB])]⟩:=by
 have x8:(iG W)[0+0]?=some (wG z0):=iT h0;have hb:=sT (x:=x0) (y:=y0) (c:=0) af;have hW:0<W.length:=(aR.1 h0).1;have nP:W.set (0+0) ((x0+y0+0)%WB)=iH W 0 [(x0+y0+0)%WB]:=by have:=kx (ws:=W) (us:=[]) (off:=0) (n:=0) (w:=(x0+y0+0)%WB) rfl ab;rw[oh]at this;exact this
 generalize (x0+y0+0)/WB=cc,(x0+y0+0)%WB=zz at *
 generalize iH W 0 [zz]=W1 at *
 refine' eN func127;(repeat first|refine' uD|(refine' oX;exact jL;exact kq));refine me 2 ?_;(repeat first|refine' wc|(refine' oX;(first|exact iV hb|exact jV 0|exact jB|exact jI (iP rfl (SZ rfl) rfl rfl rfl rfl af rfl x8 (aZ _)) (aT (λl=>(⟨[],[],[MO.arr g WT l]⟩:PH)) (jo.trans (aT iG nP))));exact kq)|refine' xW [10000]);refine' rB;all_goals rfl
def Wt{g c:Nat}(h0:W[0]?=some z0):al 128 [.vw 0 g 0 1 c,av (iG [x0]),av (iG [y0])] ⟨[],[],[AR g W]⟩ (.g (wG (if x0<y0+0 then 1 else 0))) ⟨[],[],[AR g (iH W 0 [(x0+WB-y0-0)%WB])]⟩:=by
 have x8:(iG W)[0+0]?=some (wG z0):=iT h0;have hb:=GA (x:=x0) (y:=y0) (c:=0) af;have hW:0<W.length:=(aR.1 h0).1;have nP:W.set (0+0) ((x0+WB-y0-0)%WB)=iH W 0 [(x0+WB-y0-0)%WB]:=by have:=kx (ws:=W) (us:=[]) (off:=0) (n:=0) (w:=(x0+WB-y0-0)%WB) rfl ab;rw[oh]at this;exact this
 generalize (if x0<y0+0 then 1 else 0)=cc,(x0+WB-y0-0)%WB=zz at *
 generalize iH W 0 [zz]=W1 at *
 refine' eN func128;(repeat first|refine' uD|(refine' oX;exact jL;exact kq));refine me 2 ?_;(repeat first|refine' wc|(refine' oX;(first|exact iV hb|exact jV 0|exact jB|exact jI (iP rfl (SZ rfl) rfl rfl rfl rfl af rfl x8 (aZ _)) (aT (λl=>(⟨[],[],[MO.arr g WT l]⟩:PH)) (jo.trans (aT iG nP))));exact kq)|refine' xW [10000]);refine' rB;all_goals rfl
def PT{x:Nat}:ak 158 [.iM,av (iG [x])] (av (iG [x])):=PC.out (Bn (xs:=[x]) aa aa) rfl
def UB{x:Nat}:ak 133 [.iM,av (iG [x]),av []] (av (iG [x])):=by have hs:= @PT x;refine' eN func133;(repeat first|refine' uD|(refine' oX;exact cB [true,false] hs;exact kq));refine' rT;rfl
def ac9{x:Nat}:ak 133 [.iM,av [],av (iG [x])] (av (iG [x])):=by have hs:= @UB x;refine' eN func133;(repeat first|refine' uD|(refine' oX;exact cB [true,false,false] hs;exact kq));refine' rT;rfl
def ada:ak 133 [.iM,av [],av []] (av []):=by refine' eN func133;(repeat first|refine' uD|(refine' oX;exact qh rfl (EL rfl) (SZ rfl) rfl rfl rfl rfl rfl;exact kq));refine' rT;rfl
def adb{x:Nat}:ak 135 [.iM,av (iG [x]),av []] (av (iG [x])):=by have hs:= @PT x;refine' eN func135;(repeat first|refine' uD|(refine' oX;exact cB [true,false] hs;exact kq));refine' rT;rfl
variable{y:Nat}
def ade{x:Nat}(h:x+y<WB)(h0:x+y≠0):ak 133 [.iM,av (iG [x]),av (iG [y])] (av (iG [x+y])):=by
 have mq:=qQ (n:=1+1) af af;have hc6:lN (1+1)=6:=af
 rw[hc6]at mq;have hZ:List.replicate 6 0=[0,0,0,0,0,0]:=rfl;rw[hZ]at mq;have Jm:=Ws (g:=0) (c:=6) (x0:=x) (y0:=y) (z0:=0) (W:=[0,0,0,0,0,0]) rfl;rw[show(x+y+0)/WB=0 from cZ h,show(x+y+0)%WB=x+y from bn h,show iH [0,0,0,0,0,0] 0 [x+y]=[x+y,0,0,0,0,0]from rfl]at Jm;have y8:=mH (g:=0) (o:=0) (n:=1+1) (cap:=6) (ws:=[x+y,0,0,0,0,0]) (l:=[x+y,0]) rfl aa af af;have rG:mL [x+y,0]=1:=AN (k:=0) (w:=x+y) rfl (λj hj z hz=>by
  match j,hj,hz with
  |1,_,hz=>simp at hz;exact hz.symm
  |j+2,_,hz=>simp at hz) h0
 rw[rG]at y8;have tR:(iG [x+y,0,0,0,0,0])[0+1]?=some (wG 0):=rfl;have xx:(iG [x+y,0,0,0,0,0]).set (0+1) (wG 0)=iG [x+y,0,0,0,0,0]:=rfl;have zL:((iG [x+y,0,0,0,0,0]).drop 0).take 1=iG [x+y]:=rfl;generalize x+y=z at *
 obtain⟨W1,TK⟩:∃w,w=[z,0,0,0,0,0]:=⟨_,rfl⟩;rw[<-TK]at Jm tR xx zL y8;obtain⟨Z0,Yy⟩:∃w:List Nat,w=[0,0,0,0,0,0]:=⟨_,rfl⟩;rw[<-Yy]at mq Jm;clear hZ TK Yy hc6;refine' eN func133;(repeat first|refine' wb|(refine' oX;exact cD [true] mq;exact kq)|refine xU [10] rfl ?_);(repeat first|refine' wb|(refine' oX;(first|exact qi 1 rfl (EL rfl) (SZ rfl) rfl rfl rfl rfl rfl (by omega)|exact lE rfl (EL rfl) (SZ rfl) rfl rfl rfl af (show(0:Int)<=1 by decide) (show(1:Int)<=1 by decide) (λx hx=>by rw[nA x hx];rfl)|exact ct [] rfl rfl Lw (Jm) rfl rfl rfl rfl rfl rfl rfl rfl rfl rfl rfl|exact jV 1|exact jI (iP rfl (SZ rfl) rfl rfl rfl rfl af rfl tR (aZ _)) (aT (λl=>(⟨[],[],[MO.arr 0 WT l]⟩:PH)) xx));exact kq)|refine xU [14] rfl ?_);refine nK (iL [(6,.vw 0 0 0 1 6)]) ⟨[],[],[AR 0 W1]⟩ ?_ ?_;(try refine' wh @y8);exact⟨iE.le ⟨.inl rfl,trivial⟩,aJ⟩;refine jP 0 rfl (ja (env':=iL [(6,av (iG [z]))]) (H':=⟨[],[],[.gone (0+1)]⟩) (iE.le ⟨.inl (rM.trans (aT av zL)),trivial⟩) aJ ?_);(try refine' uD);refine' rB;all_goals rfl
def adf{x:Nat}(hx:x<WB)(h:y<=x):ak 135 [.iM,av (iG [x]),av (iG [y])] (av (iG (iF (x-y)))):=by
 have mq:=qQ (n:=1) af af;have mM:lN 1=1:=af
 rw[mM]at mq;have hZ:List.replicate 1 0=[0]:=rfl;rw[hZ]at mq;have Jm:=Wt (g:=0) (c:=1) (x0:=x) (y0:=y) (z0:=0) (W:=[0]) rfl;have e1:(x+WB-y-0)%WB=x-y:=by rw[show x+WB-y-0=(x-y)+WB by omega,ie,bn ab]
 rw[aV ab,e1,show iH [0] 0 [x-y]=[x-y]from rfl]at Jm;have y8:=mH (g:=0) (o:=0) (n:=1) (cap:=1) (ws:=[x-y]) (l:=[x-y]) rfl aa af af;have nT:okW [x-y]:=λw hw=>by simp at hw;omega
 have hv:val [x-y]=x-y:=by rw[kK,mQ];omega
 have rG:=zQ nT;rw[hv]at rG;rw[<-rG]at y8;have zL:((iG [x-y]).drop 0).take (iF (x-y)).length=iG (iF (x-y)):=by have hd:=vL nT;rw[hv]at hd;rw[rG,dz,hd];unfold iG;rw[gf]
 obtain⟨ds,pO⟩:∃l,l=iF (x-y):=⟨_,rfl⟩;rw[<-pO]at zL y8⊢;obtain⟨W1,TK⟩:∃w,w=[x-y]:=⟨_,rfl⟩;rw[<-TK]at Jm zL y8;clear hZ TK mM pO rG nT hv e1;refine' eN func135;(repeat first|refine' wb|(refine' oX;exact cD [true] mq;exact kq)|refine xU [10] rfl ?_);(repeat first|refine' wb|(refine' oX;(first|exact qi 1 rfl (EL rfl) (SZ rfl) rfl rfl rfl rfl rfl (by omega)|exact lE rfl (EL rfl) (SZ rfl) rfl rfl rfl af (show(0:Int)<=1 by decide) (show(1:Int)<=1 by decide) (λx hx=>by rw[nA x hx];rfl)|exact ct [] rfl rfl Lv (Jm) rfl rfl rfl rfl rfl rfl rfl rfl rfl rfl rfl);exact kq)|refine xU [15] rfl ?_);refine nK (iL [(6,.vw 0 0 0 ds.length 1)]) ⟨[],[],[AR 0 W1]⟩ ?_ ?_;(try refine' wh @y8);exact⟨iE.le ⟨.inl rfl,trivial⟩,aJ⟩;refine jP 0 rfl (ja (env':=iL [(6,av (iG ds))]) (H':=⟨[],[],[.gone (0+1)]⟩) (iE.le ⟨.inl (rM.trans (aT av zL)),trivial⟩) aJ ?_);(try refine' uD);refine' rB;all_goals rfl
variable{X Y:Nat}
def IH(h:X+Y<WB):ak 133 [.iM,av (iG (iF X)),av (iG (iF Y))] (av (iG (iF (X+Y)))):=by by_cases hX:X=0;subst hX;by_cases hY:Y=0;subst hY;rw[jg];exact ada;rw[jg,bc,jC hY ab];exact ac9;by_cases hY:Y=0;subst hY;rw[jg,b9,jC hX ab];exact UB;rw[jC hX ab,jC hY ab,jC ab h];exact ade h ab
def yM(h:X<WB)(h0:X≠0)(hle:Y<=X):ak 135 [.iM,av (iG (iF X)),av (iG (iF Y))] (av (iG (iF (X-Y)))):=by rw[jC h0 h];by_cases hY:Y=0;subst hY;rw[jg,gD,jC h0 h];exact adb;rw[jC hY ab];exact adf h hle
def wR{N:Nat}(h:N≠0):0<(iG (iF N)).length:=by have:=jl h;omega
variable{s:Bool}{xs ys zs:List Nat}
def FY(hz:s=true->0<(iG zs).length)(ha:ak 133 [.iM,av (iG xs),av (iG ys)] (av (iG zs))):
  al 91 [.ptr 0 0,.ptr 1 0,.ptr 2 0] ⟨[[ax false,.iM],[ax s,av (iG xs)],[ax s,av (iG ys)]],[],[]⟩ (.ptr 0 0) ⟨[[ax s,av (iG zs)],[ax s,av (iG xs)],[ax s,av (iG ys)]],[],[]⟩:=by
 cases s;all_goals
  refine' eN func91
  (repeat' first|refine' wc|(refine' oX;exact cB [true,false,false] ha;exact kq)|refine' xW [0,1,2]|refine' sN<;>intro h|fail)
  all_goals(first|(exfalso;have h1:=aX h;have h2:=hz rfl;omega)|refine' rB)
  all_goals rfl
variable{r:Int}
def LW(hr:0<=r)(hc:ak 134 [av (iG xs),av (iG ys)] (aq r))(ha:ak 135 [.iM,av (iG xs),av (iG ys)] (av (iG zs))):
  al 91 [.ptr 0 0,.ptr 1 0,.ptr 2 0] ⟨[[ax false,.iM],[ax s,av (iG xs)],[ax (!s),av (iG ys)]],[],[]⟩ (.ptr 0 0) ⟨[[ax (s&&decide (0<(iG zs).length)),av (iG zs)],[ax s,av (iG xs)],[ax (!s),av (iG ys)]],[],[]⟩:=by
 by_cases hl:0<(iG zs).length
 ·rw[bU hl];cases s;all_goals
   refine' eN func91
   (repeat' first|refine' wc|(refine' oX;(first|exact cB [true,false,false] ha|exact iV hc);exact kq)|refine' xW [0,1,2]|refine' sN<;>intro h|fail)
   all_goals(first|(exfalso;have h1:=aX h;omega)|refine' rB)
   all_goals rfl
 ·rw[bA hl];cases s;all_goals
   refine' eN func91
   (repeat' first|refine' wc|(refine' oX;(first|exact cB [true,false,false] ha|exact iV hc);exact kq)|refine' xW [0,1,2]|refine' sN<;>intro h|fail)
   all_goals(first|(exfalso;have h1:=aX h;omega)|(exfalso;have h1:=aU h;omega)|refine' rB)
   all_goals rfl
def LX(hr:r<0)(hz:0<(iG zs).length)(hc:ak 134 [av (iG xs),av (iG ys)] (aq r))(ha:ak 135 [.iM,av (iG ys),av (iG xs)] (av (iG zs))):
  al 91 [.ptr 0 0,.ptr 1 0,.ptr 2 0] ⟨[[ax false,.iM],[ax s,av (iG xs)],[ax (!s),av (iG ys)]],[],[]⟩ (.ptr 0 0) ⟨[[ax (!s),av (iG zs)],[ax s,av (iG xs)],[ax (!s),av (iG ys)]],[],[]⟩:=by
 cases s;all_goals
  refine' eN func91
  (repeat' first|refine' wc|(refine' oX;(first|exact cB [true,false,false] ha|exact iV hc);exact kq)|refine' xW [0,1,2]|refine' sN<;>intro h|fail)
  all_goals(first|(exfalso;have h1:=aU h;omega)|(exfalso;have h1:=aX h;omega)|refine' rB)
  all_goals rfl
def NO{a b:Int}(h:a.natAbs+b.natAbs<WB):al 91 [.ptr 0 0,.ptr 1 0,.ptr 2 0] ⟨[[ax false,.iM],lD a,lD b],[],[]⟩ (.ptr 0 0) ⟨[lD (a+b),lD a,lD b],[],[]⟩:=by
 have hl:∀n,n<WB->(iF n).length<=100000:=λn hn=>b8 (iU (k:=1) (by rw[dT];exact hn)) af;have hc:=rK (hl a.natAbs ab) (hl b.natAbs ab);unfold lD;by_cases ha:a<0<;>by_cases hb:b<0;rw[bU ha,bU hb,bU (show a+b<0 by omega),show(a+b).natAbs=a.natAbs+b.natAbs by omega];exact FY (s:=true) (λ_=>wR ab) (IH h)
 ·rw[bU ha,bA hb];rcases dG a.natAbs b.natAbs with q|q
  rw[bA (show ¬a+b<0 by omega),show(a+b).natAbs=b.natAbs-a.natAbs by omega];rw[show mi (a.natAbs:Int) (b.natAbs:Int)= -1 from by unfold mi;rw[aW ab]]at hc;exact LX (s:=true) af (wR ab) hc (yM ab ab ab)
  ·have h2:=LW (s:=true) (show 0<=mi (a.natAbs:Int) (b.natAbs:Int)from by unfold mi;rw[aV ab];split<;>decide) hc (yM ab ab q);rw[show(a+b).natAbs=a.natAbs-b.natAbs by omega];have h3:(true&&decide (0<(iG (iF (a.natAbs-b.natAbs))).length))=decide (a+b<0):=by
    by_cases q2:a.natAbs=b.natAbs;rw[show a.natAbs-b.natAbs=0 by omega,jg,bA (show ¬a+b<0 by omega)];rfl;rw[bU (wR (show a.natAbs-b.natAbs≠0 by omega)),bU (show a+b<0 by omega)];rfl
   rw[h3]at h2;exact h2
 ·rw[bA ha,bU hb];rcases dG a.natAbs b.natAbs with q|q
  rw[bU (show a+b<0 by omega),show(a+b).natAbs=b.natAbs-a.natAbs by omega];rw[show mi (a.natAbs:Int) (b.natAbs:Int)= -1 from by unfold mi;rw[aW ab]]at hc;exact LX (s:=false) af (wR ab) hc (yM ab ab ab);rw[bA (show ¬a+b<0 by omega),show(a+b).natAbs=a.natAbs-b.natAbs by omega];exact LW (s:=false) (show 0<=mi (a.natAbs:Int) (b.natAbs:Int)from by unfold mi;rw[aV ab];split<;>decide) hc (yM ab ab q)
 rw[bA ha,bA hb,bA (show ¬a+b<0 by omega),show(a+b).natAbs=a.natAbs+b.natAbs by omega];exact FY (s:=false) (λq=>by cases q) (IH h)
def aar(hX:X≠0)(hm:(iF X).length<=800):∃W cap,pH W cap X∧al 171 [.iM,.jx,.iM,av (iG (iF X)),av (iG [1])] ⟨[],[],[]⟩ (.tuple [.vw 0 0 0 (iF X).length cap,.iM]) ⟨[],[],[AR 0 W]⟩:=by
 obtain⟨W,cap,hz,_,hd⟩:=LD (X:=X) (y:=1) hX af af (by rw[iK];omega);rw[fe,Nat.mod_one]at hd;rw[fe]at hz;refine⟨W,cap,hz,?_⟩;have hw:=E3;generalize(iF X).length=N at *
 clear hz;generalize iF X=xs at *
 refine qO func171 rfl rfl (rs:=_) rfl (bz aj) ?_;repeat((repeat refine tz ?_);first|refine ot rfl ?_|refine sR ?_|(refine qt ?_;(try refine' uN);refine Or.inl (And.intro rfl ?_)))
 refine pb rfl ?_;refine qt ?_;(repeat first|refine' uN|refine oQ (jB (g:=wG 1)) ?_|refine oQ (cD [true] hd) ?_|refine oQ (cB [true] hw) ?_);refine Or.inr (And.intro rfl ?_);refine' rB;all_goals rfl
def SI(s:Bool)(hX:X≠0)(hm:(iF X).length<=800):∃W cap,pH W cap X∧al 152 [.ptr 0 0,.ptr 1 0,.ptr 2 0,.ptr 3 0] ⟨[[ax false,.iM],[ax s,av (iG (iF X))],[ax false,av (iG [1])],[ax false,.iM]],[],[]⟩ (.tuple [.ptr 0 0,.ptr 3 0]) ⟨[[ax s,.vw 0 0 0 (iF X).length cap],[ax s,av (iG (iF X))],[ax false,av (iG [1])],[ax false,.iM]],[],[AR 0 W]⟩:=by
 obtain⟨W,cap,hz,hd⟩:=aar hX hm;refine⟨W,cap,hz,?_⟩;have jX:0<(iF X).length:=by have:=jl hX;rwa[iK]at this
 generalize(iF X).length=N at *
 generalize iF X=xs at *
 clear hz;cases s;all_goals
  refine' eN func152
  (repeat' first|refine' wc|(refine' oX;(first|exact cD [true,true,true] hd|exact jL);exact kq)|refine' xW [0,1,2,3]|refine' sN<;>intro h|fail)
  all_goals(first|(exfalso;have:=aX h;omega)|refine' rB)
  all_goals rfl
def NP{x:Int}(hm:(iF x.natAbs).length<=800):al 123 [.ptr 0 0,.ptr 1 0] ⟨[lD x,[ax false,av (iG [1])]],[],[]⟩ (.ptr 2 0) ⟨[lD x,[ax false,av (iG [1])],lD x],[],[]⟩:=by
 have vS:iF 1=[1]:=jC af af;by_cases hx:x=0;subst hx;have h:=Qk (X:=0) (Y:=1) af af (by rw[jg];decide);rw[vS,show A0 0 1=0 from by decide]at h;exact h;obtain⟨W,cap,hz,LG⟩:=SI (decide (x<0)) (X:=x.natAbs) ab hm;have ua:=CP (Y:=1) af (by rw[vS];decide);have mz:=CQ (X:=0) (Y:=1) (by rw[jg];decide) (by rw[vS];decide);have jE:=u9;have x9:=HH;have A5:=E5;have qc:=Di;have lC:=Dh;rw[show mi ((0:Nat):Int) ((1:Nat):Int)= -1 from by decide]at mz;rw[vS]at mz ua;have zL:=qS hz.tk;clear hz;unfold lD;generalize iF 0=zs at *
 generalize decide (x<0)=s,iF x.natAbs=xs at *
 refine' eN func123;(repeat first|refine' wa|refine oQ (cD [] LG) ?_|refine oQ (cD [] x9) ?_|refine oQ (cD [] A5) ?_|refine oQ (cD [] ua) ?_|refine oQ (cD [] mz) ?_|refine xU [5] rfl ?_);refine jP 0 rfl (ja (env':=iL [(5,.ptr 2 0)]) (H':=⟨[[ax s,av (iG xs)],[ax false,av (iG [1])],[ax s,av (iG xs)],[ax false,av (iG zs)],[ax false,av (iG [1])]],[],[.gone (0+1)]⟩) (iE.le ⟨.inl rfl,trivial⟩) (kW.of_eq ?_) ?_);simp only[Gk,Bw,rM,zL];rfl;(try refine' uN);refine' rB;all_goals rfl
def aas{t:Bool}(hX:(iF X).length<=100000)(hY:(iF Y).length<=100000):al 124 [.ptr 0 0,.ptr 1 0] ⟨[[ax s,av (iG (iF X))],[ax t,av (iG (iF Y))]],[],[]⟩ (aq (mi X Y)) ⟨[[ax s,av (iG (iF X))],[ax t,av (iG (iF Y))]],[],[]⟩:=by
 have h:=rK hX hY;generalize iF X=xs at *
 generalize iF Y=ys,mi X Y=r at *
 refine' eN func124;(repeat first|refine' wc|(refine' oX;exact iV h;exact kq)|refine' xW [0,1]);refine' rB;all_goals rfl
def adg{x:Int}(h1: -9223372036854775808<x)(h2:x<9223372036854775808):al 126 [.ptr 0 0] ⟨[lD x],[],[]⟩ (aq x) ⟨[lD x],[],[]⟩:=by
 have h:=ZW (X:=x.natAbs) aL;have hw:i64.wrap (x.natAbs:Int)=(x.natAbs:Int):=jD ab;by_cases hs:x<0
 ·have KM:i64.wrap (0-i64.wrap (x.natAbs:Int))=x:=by rw[hw,jD ab];omega
  unfold lD;rw[bU hs];conv=>enter [4,1];rw[<-KM]
  generalize iF x.natAbs=xs at *
  refine' eN func126;(try refine' wk @h);refine' rB;all_goals rfl
 ·have KM:i64.wrap (x.natAbs:Int)=x:=by rw[hw];omega
  unfold lD;rw[bA hs];conv=>enter [4,1];rw[<-KM]
  generalize iF x.natAbs=xs at *
  refine' eN func126;(try refine' wk @h);refine' rB;all_goals rfl
def Jb(c e:Int):Int×Int:=if c=0 then(0,0)else mA c e
variable{c e:Int}
def aat(hc: -999999999999999999<=c∧c<=999999999999999999)(he: -40<=e)(QO:(Jb c e).2<=40):ak 125 [aq c,aq e] (.tuple [.g (.agg [.int .i64 (Jb c e).1,.int .i64 (Jb c e).2]),aq 0]):=by
 by_cases h0:c=0
 ·subst h0;refine' eN func125;(try refine' uN);refine' rE;all_goals rfl
 ·have VA:(c==0)=false:=bk.2 h0;unfold Jb at QO⊢;rw[aV h0]at QO⊢;obtain⟨R,hR⟩:∃R,mA c e=R:=⟨_,rfl⟩;rw[hR]at QO⊢;obtain⟨ra,rb⟩:=R;dsimp only at QO⊢;refine' eN func125;(try refine' uN);refine' sQ<;>intro h;exfalso;rw[VA]at h;cases h;clear h;(try refine' uN);refine jf (S:=Int×Int) (λs=>iL [(0,aq s.1),(1,aq s.2),(4,.ptr 0 0)]) (λ_=>⟨[[aq 0,aq 0]],[],[]⟩) (λs=>mA s.1 s.2=(ra,rb)∧s.1≠0∧s.1.natAbs<=999999999999999999∧ -40<=s.2) (λs=>s.1.natAbs) (c,e) ⟨hR,h0,by dsimp only;omega,he⟩
   (iE.le an) aJ (λs hs=>?_)
  obtain⟨c',e'⟩:=s;obtain⟨s1,s2,s3,s4⟩:=hs;dsimp only at s1 s2 s3 s4;have hle:e'<=40:=by have:=(Hw c'.natAbs c' e' (aZ _) s4).2.2.1;rw[s1]at this;dsimp only at this;omega
  have h7:(c'.tdiv 10).natAbs<=c'.natAbs:=by rw[Int.natAbs_tdiv];exact dY _ _
  have hq:i64.wrap (c'.tdiv 10)=c'.tdiv 10:=jD ab;(repeat first|refine' uN|refine oQ jR ?_);refine' sQ<;>intro h;have hz:c'.tmod 10=0:=bQ.1 h;have OY:=OX hz;rw[vm ⟨s2,hz⟩]at s1;clear h;(repeat first|refine' uN|refine oQ (kg (xy rfl rfl rfl af) (aT aq hq)) ?_);exact⟨(c'.tdiv 10,e'+1),⟨s1,by dsimp only;omega,by dsimp only;omega,by dsimp only;omega⟩,by dsimp only;omega,iE.le ⟨.inl rfl,.inl (aT aq (jD ab)),an⟩,aJ⟩
  ·have hz:¬(c'≠0∧c'.tmod 10=0):=λq=>by rw[q.2]at h;cases h
   rw[vl hz]at s1;cases s1;clear h;(try refine' uN);refine' sQ<;>intro h;exfalso;have h4:=aU h;omega
   ·clear h;(try refine' uN);refine' rE;all_goals rfl
def YH{n exp:Int}(hn:n.natAbs<=999999999999999999)(he: -40<=exp∧exp<=40)(hb:(iR n exp).natAbs<10^81):al 90 [.ptr 0 0,.ptr 1 0,aq exp] ⟨[lD n,[ax false,av (iG [1])]],[],[]⟩ (.tuple [.g (.agg [.int .i64 (DU n exp).1,.int .i64 (DU n exp).2]),aq 0]) ⟨[lD n,[ax false,av (iG [1])]],[],[]⟩:=by
 have mK:=My (exp:=exp) hn (exp+40).toNat (-40) ab;obtain⟨i0,BF⟩:∃i0:Nat,BA n exp (exp+40).toNat (-40)=(i0:Int)-40:=⟨(BA n exp (exp+40).toNat (-40)+40).toNat,by omega⟩;rw[BF]at mK;have NM:DU n exp=Jb (n*((10^(exp-((i0:Int)-40)).toNat:Nat):Int)) ((i0:Int)-40):=by
  unfold DU Jb BB;rw[BF];have hp:(0:Int)<((10^(exp-((i0:Int)-40)).toNat:Nat):Int):=by have:=dt (n:=(exp-((i0:Int)-40)).toNat) (show 0<10 by decide);omega
  by_cases h0:n=0;subst h0;simp;rw[aV h0,aV (fG h0 (fZ hp))]
 have QO:(DU n exp).2<=40:=by unfold DU;by_cases h0:n=0;rw[aW h0];decide;rw[aV h0];exact(Da hn he.1 hb h0).2.2
 rw[NM]at QO⊢;clear NM BF;obtain⟨k,hk⟩:∃k:Nat,exp=(k:Int)-40:=⟨(exp+40).toNat,by omega⟩;subst hk;obtain⟨_,f2,f3,f4⟩:=mK;have amB:i0<=k:=ab
 have ht:∀i:Nat,i<=k->(((k:Int)-40)-((i:Int)-40)).toNat=k-i:=λi hi=>ab
 rw[ht i0 amB]at f3 QO⊢;obtain⟨q,hq⟩:∃q:Nat->Int,∀i,q i=n*((10^(k-i):Nat):Int):=⟨λi=>n*((10^(k-i):Nat):Int),λ_=>rfl⟩;rw[<-hq]at f3 QO⊢;have ake:∀i,i<i0->¬(q i).natAbs<=999999999999999999:=λi hi=>by have:=f4 ((i:Int)-40) ab ab;rwa[ht i ab,<-hq]at this
 have akf:∀i,(q i).natAbs<WB^6:=λi=>by
  rw[hq,dI,bM];have h2:10^(k-i)<=10^80:=cf af ab;have h3:n.natAbs*10^(k-i)<=999999999999999999*10^80:=dy hn h2;have h4:999999999999999999*10^80<WB^6:=by decide+kernel
  omega
 have hlen:∀i,(iF (q i).natAbs).length<=6:=λi=>iU (akf i);have rG:(iF n.natAbs).length<=30:=b8 (iU (k:=1) (by rw[dT];unfold WB;omega)) af;have DL:(iF 999999999999999999).length<=100000:=b8 (iU (k:=1) (by rw[dT];unfold WB;omega)) af;have aeD:=s9 (z:=999999999999999999) af af;rw[show(999999999999999999:Int)=((999999999999999999:Nat):Int)from rfl,uZ]at aeD;have hcr:∀i,i<=i0->∃r:Int,(i=i0->r<=0)∧(i<i0->¬r<=0)∧al 124 [.ptr 0 0,.ptr 1 0] ⟨[[ax (decide (q i<0)),av (iG (iF (q i).natAbs))],[ax false,av (iG (iF 999999999999999999))]],[],[]⟩ (aq r) ⟨[[ax (decide (q i<0)),av (iG (iF (q i).natAbs))],[ax false,av (iG (iF 999999999999999999))]],[],[]⟩:=λi hi=>by refine⟨_,λh=>?_,λh=>?_,aas (b8 (hlen i) af) DL⟩;subst h;unfold mi;split;decide;rw[aV ab];decide;have:=ake i h;unfold mi;rw[aV ab,aW ab];decide
 have Wu:=adg (x:=q i0) ab ab;have I9:=aat (c:=q i0) (e:=(i0:Int)-40) ab ab QO;have hhe:=λi=>NP (x:=q i) (b8 (hlen i) af);have hmul:∀i,al 94 [.ptr 0 0,.ptr 1 0,.ptr 2 0] ⟨[[ax false,.iM],lD n,lD ((10^(k-i):Nat):Int)],[],[]⟩ (.ptr 0 0) ⟨[lD (q i),lD n,lD ((10^(k-i):Nat):Int)],[],[]⟩:=λi=>by have h2:10^(k-i)<WB^6:=bO (cf af (show k-i<=80 by omega)) aQ;rw[hq];exact Ls rG (by rw[bM];exact b8 (iU h2) af)
 have RI:∀m:Nat,m<256->al 122 [aq m] ⟨[],[],[]⟩ (.ptr 0 0) ⟨[lD ((10^m:Nat):Int)],[],[]⟩:=λm hm=>zn hm;have jE:al 94 [.ptr 0 0,.ptr 1 0,.ptr 2 0] ⟨[[ax false,.iM],lD 1,lD 1],[],[]⟩ (.ptr 0 0) ⟨[lD 1,lD 1,lD 1],[],[]⟩:=by have vS:iF 1=[1]:=jC af af;exact Ls (x:=1) (y:=1) (by show(iF 1).length<=30;rw[vS];decide) (by show(iF 1).length<=30;rw[vS];decide)
 have h1P:lD 1=[ax false,av (iG [1])]:=by have vS:iF 1=[1]:=jC af af;show [ax false,av (iG (iF 1))]=_;rw[vS]
 rw[h1P]at jE;have aeE:=RI 0 af;rw[show((10^0:Nat):Int)=1 from rfl,h1P]at aeE;simp only[uZ]at hmul RI;unfold lD at hmul hhe Wu⊢;clear DL f4;generalize iF 999999999999999999=ms at *
 obtain⟨ns,BZ⟩:∃l,l=iF n.natAbs:=⟨_,rfl⟩;obtain⟨ng,hng⟩:∃l,l=decide (n<0):=⟨_,rfl⟩;rw[<-BZ,<-hng];simp only[<-BZ,<-hng]at hmul;refine' eN func90;(try refine' we @aeD);refine jK (S:=Nat) (λi=>[(0,.ptr 0 0),(1,.ptr 1 0),(2,aq ((k:Int)-40)),(6,.ptr 2 0),(8,.ptr 3 0),(9,aq ((i:Int)-40))]) (λ_=>⟨[[ax ng,av (iG ns)],[ax false,av (iG [1])],[aq 0,aq 0],[ax false,av (iG ms)]],[],[]⟩) (λi=>i<=i0) (λi=>i0-i) 0 (bm _)
  (iE.le an) aJ (λ_=>rfl) (λi hi=>?_)
 obtain⟨r,nV,nh,ud⟩:=hcr i hi;have abd:=hhe i;have aeF:=hmul i;clear hhe hmul hcr;(try refine' uN);refine' sQ<;>intro h
 ·clear h;by_cases hik:i<k
  ·have uT:i64.wrap (((k:Int)-40)-((i:Int)-40))=((k-i:Nat):Int):=by rw[jD ab];omega
   have yS:=RI (k-i) ab;rw[<-uT]at yS;generalize iF (10^(k-i))=ts at *
   obtain⟨qs,Yr⟩:∃l,l=iF (q i).natAbs:=⟨_,rfl⟩;obtain⟨qg,hqg⟩:∃l,l=decide (q i<0):=⟨_,rfl⟩;rw[<-Yr,<-hqg]at abd ud aeF;(try refine' uN);refine' sQ<;>intro h
   ·clear h;(repeat first|refine' uN|refine oQ (cB [] yS) ?_|refine oQ (cD [] aeF) ?_|refine oQ (cD [] abd) ?_|refine oQ (cD [] ud) ?_);refine' sQ<;>intro h
    ·have hii:i=i0:=by
      have h2:=aU h;rcases dG i i0 with h3|h3
      exact absurd h2 (nh h3);omega
     clear h;subst hii;rw[<-Yr,<-hqg]at Wu;(try refine' wf @Wu @I9);refine' rP;all_goals rfl
    ·have hii:i<i0:=by
      have h2:=aX h;rcases dG i i0 with h3|h3
      exact h3;exact absurd (nV ab) h2
     clear h;(try refine' uN);exact⟨i+1,hii,by omega,iE.le (aD ⟨.inl (aT aq (by rw[jD ab];omega)),trivial⟩),lq.mk [_,_,_] [] [] rfl⟩
   exfalso;have h2:=aX h;omega
  ·have hii:i=i0:=ab
   have hki:i=k:=ab;subst hii;subst hki;have hqn:q i=n:=(by rw[hq];simp);have uT:i64.wrap (((i:Int)-40)-((i:Int)-40))=((0:Nat):Int):=(by rw[jD ab];omega);rw[hqn,<-BZ,<-hng]at abd ud Wu;rw[hqn]at I9⊢;have yS:=aeE;rw[<-uT]at yS;(try refine' uN);refine' sQ<;>intro h;exfalso;have h2:=aU h;omega
   ·clear h;(repeat first|refine' uN|refine oQ (cB [] yS) ?_|refine oQ (cD [] jE) ?_|refine oQ (cD [] abd) ?_|refine oQ (cD [] ud) ?_);refine' sQ<;>intro h
    ·clear h;(try refine' wf @Wu @I9);refine' rP;all_goals rfl
    exfalso;have h2:=aX h;exact h2 (nV rfl)
 exfalso;have h2:=aX h;omega
variable{d f:Int}
def aau{m:Int}(hm: -40<=m)(h1:m<=e)(h2:m<=f):iR (pK c e m+pK d f m) m=iR c e+iR d f:=by rw[rq hm h1,rq hm h2];unfold iR;rw[Int.add_mul]
def UC(h1:iZ c e=0)(h2:iZ d f=0)(hs:(pK c e (min e f)).natAbs+(pK d f (min e f)).natAbs<=999999999999999999)(hk:(iR c e+iR d f).natAbs<10^81):ak 61 [.g (.agg [.int .i64 c,.int .i64 e]),.g (.agg [.int .i64 d,.int .i64 f])] (.tuple [.g (.agg [.int .i64 (lA (iR c e+iR d f)).1,.int .i64 (lA (iR c e+iR d f)).2]),aq 0]):=by
 have a:=(jT h1).1;have b:=(jT h2).1;have hr:=xn (c:=c) (e:=e) (d:=d) (f:=f);rw[aW h1,h2]at hr;have CA:=Dj (c:=c) (e:=e) (m:=min e f) ab ab ab ab;have Nq:=Dj (c:=d) (e:=f) (m:=min e f) ab ab ab ab;have ha:=NO (a:=pK c e (min e f)) (b:=pK d f (min e f)) aL;have afr:=aau (c:=c) (e:=e) (d:=d) (f:=f) (m:=min e f) ab ab ab;have hn:=YH (n:=pK c e (min e f)+pK d f (min e f)) (exp:=min e f) ab ab (by rw[afr];exact hk);rw[KC ab ab (by rw[afr];exact hk),afr]at hn;have jE:=u9;obtain⟨b1,w1,e1⟩:=sc (pK c e (min e f));obtain⟨b2,w2,e2⟩:=sc (pK d f (min e f));obtain⟨b3,w3,e3⟩:=sc (pK c e (min e f)+pK d f (min e f));rw[e1]at CA ha;rw[e2]at Nq ha;rw[e3]at ha hn;generalize lA (iR c e+iR d f)=kk at *
 obtain⟨ka,kb⟩:=kk;rw[show min e f=if f<e then f else e by split<;>omega]at CA Nq hn;refine' eN func61;(repeat first|refine' uD|(refine' oX;(first|exact iV hr|exact cB [] CA|exact cB [] Nq|exact cD [] ha|exact cB [] jE|exact cD [] hn);exact kq));refine' rE;all_goals rfl
def adh(h1:iZ c e=0)(h2:iZ d f=0)(hs:(c*d).natAbs<=999999999999999999)(he: -40<=e+f∧e+f<=40)(hk:(iR (c*d) (e+f)).natAbs<10^81):ak 62 [.g (.agg [.int .i64 c,.int .i64 e]),.g (.agg [.int .i64 d,.int .i64 f])] (.tuple [.g (.agg [.int .i64 (lA (iR (c*d) (e+f))).1,.int .i64 (lA (iR (c*d) (e+f))).2]),aq 0]):=by
 have a:=(jT h1).1;have b:=(jT h2).1;have hr:=xn (c:=c) (e:=e) (d:=d) (f:=f);rw[aW h1,h2]at hr;have CA:=s9 (z:=c) ab ab;have Nq:=s9 (z:=d) ab ab;have hl:∀x:Int,x.natAbs<=999999999999999999->(iF x.natAbs).length<=30:=λx hx=>b8 (iU (k:=1) (by rw[dT];unfold WB;omega)) af;have ha:=Ls (x:=c) (y:=d) (hl c ab) (hl d ab);have hn:=YH (n:=c*d) (exp:=e+f) hs he hk;rw[KC hs he.1 hk]at hn;have jE:=u9;obtain⟨b1,w1,e1⟩:=sc c;obtain⟨b2,w2,e2⟩:=sc d;obtain⟨b3,w3,e3⟩:=sc (c*d);rw[e1]at CA ha;rw[e2]at Nq ha;rw[e3]at ha hn;generalize lA (iR (c*d) (e+f))=kk at *
 obtain⟨ka,kb⟩:=kk;have hw:i64.wrap (e+f)=e+f:=jD ab;rw[<-hw]at hn;refine' eN func62;(repeat first|refine' uD|(refine' oX;(first|exact iV hr|exact cB [] CA|exact cB [] Nq|exact cD [] ha|exact cB [] jE|exact cD [] hn);exact kq));refine' rE;all_goals rfl
end Go.Proofs.YtckjndkmmfmjjaaGreatDoor