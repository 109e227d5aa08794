/- Steps to pointsMake_card. -/
import Derived.Test.YtckjndkmmfmjjaaGreatDoorOwnH
import Derived.Test.YtckjndkmmfmjjaaGreatDoorOwnL
set_option linter.all false
open Go.IntKind (i64)
open Go.Proofs.Tryz
set_option maxRecDepth 100000
set_option maxHeartbeats 32000000
namespace Go.Proofs.YtckjndkmmfmjjaaGreatDoor
open Go Go.Pure
attribute [local irreducible] PW jQ ju PO PC lS
def sc(z:Int):∃(b:Bool) (ws:List Nat),lD z=[ax b,av (iG ws)]:=⟨_,_,rfl⟩
variable{c e m:Int}
def Dj(hc: -999999999999999999<=c∧c<=999999999999999999)(hm: -40<=m)(hme:m<=e)(he:e<=40):al 92 [.g (.agg [.int .i64 c,.int .i64 e]),aq m] ⟨[],[],[]⟩ (.ptr 0 0) ⟨[lD (pK c e m)],[],[]⟩:=by
 have h1:=s9 (z:=c) ab ab;have h2:=zn (n:=(e-m).toNat) ab;have hs:i64.wrap (e-m)=((e-m).toNat:Int):=by rw[jD ab];omega
 have h3:=Ls (x:=c) (y:=((10^(e-m).toNat:Nat):Int)) (b8 (iU (k:=1) aL) af) (by
  rw[bM];have a1:10^(e-m).toNat<=10^80:=cf af ab;have a2:(10:Nat)^80<WB^30:=by decide+kernel
  exact iU (bO a1 a2))
 unfold pK;obtain⟨b1,w1,e1⟩:=sc c;obtain⟨b2,w2,e2⟩:=sc ((10^(e-m).toNat:Nat):Int);obtain⟨b3,w3,e3⟩:=sc (c*((10^(e-m).toNat:Nat):Int));rw[e1]at h1 h3;rw[e2]at h2 h3;rw[e3]at h3⊢;rw[<-hs]at h2;refine PC.Kx (v:=.ptr 3 0) (H1:=⟨[[aq c,aq e],[ax b1,av (iG w1)],[ax b2,av (iG w2)],[ax b3,av (iG w3)]],[],[]⟩) ?_ [3] [] [] rfl rfl rfl rfl rfl rfl rfl rfl;refine' eN func92;(try refine' wj @h1 @h2 @h3);refine' rB;all_goals rfl
variable{d f:Int}
def xn:ak 89 [av [.agg [.int .i64 c,.int .i64 e],.agg [.int .i64 d,.int .i64 f]]] (aq (if iZ c e=0 then iZ d f else iZ c e)):=by
 have h1:=LH c e;have h2:=LH d f;generalize iZ c e=x at h1;generalize iZ d f=z at h2;by_cases hx:x=0
 ·subst hx;rw[aW rfl];by_cases hz:z=0;subst hz;refine' eN func89;(try refine' uN);refine me 3 ?_;(repeat first|refine' uN|refine oQ (iV h1) ?_|refine oQ (iV h2) ?_|refine oQ jB ?_);refine' rT;rfl
  ·refine' eN func89;(try refine' uN);refine me 3 ?_;(repeat' first|refine' uN|refine oQ (iV h1) ?_|refine oQ (iV h2) ?_|refine oQ jB ?_|refine' sN<;>intro h|fail);all_goals(first|(exfalso;first|(simp_all;done)|(simp_all;omega))|(refine' rT;rfl))
 ·rw[aV hx];refine' eN func89;(try refine' uN);refine me 3 ?_;(repeat' first|refine' uN|refine oQ (iV h1) ?_|refine oQ jB ?_|refine' sN<;>intro h|fail);all_goals(first|(exfalso;first|(simp_all;done)|(simp_all;omega))|(refine' rT;rfl))
def PA(hc: -999999999999999999<=c∧c<=999999999999999999)(h:(e-m).toNat<=80):(iF (pK c e m).natAbs).length<=100000:=by
 unfold pK;rw[dI,bM];have a1:10^(e-m).toNat<=10^80:=cf af h;have a2:(10:Nat)^18*10^80<WB^30:=by decide+kernel
 have a3:c.natAbs<=10^18:=by
  have:(10:Nat)^18=1000000000000000000:=by decide+kernel
  omega
 exact b8 (iU (bO (dy a3 a1) a2)) af
def Up(h1:iZ c e=0)(h2:iZ d f=0):ak 83 [.g (.agg [.int .i64 c,.int .i64 e]),.g (.agg [.int .i64 d,.int .i64 f])] (.tuple [aq (s6 c e d f),aq 0]):=by have a:=(jT h1).1;have b:=(jT h2).1;have hr:=xn (c:=c) (e:=e) (d:=d) (f:=f);rw[aW h1,h2]at hr;have CA:=Dj (c:=c) (e:=e) (m:=min e f) ab ab ab ab;have Nq:=Dj (c:=d) (e:=f) (m:=min e f) ab ab ab ab;have hc:=Lr (x:=pK c e (min e f)) (y:=pK d f (min e f)) (PA ab ab) (PA ab ab);change PC _ _ _ _ (aq (s6 c e d f)) _ at hc;obtain⟨b1,w1,e1⟩:=sc (pK c e (min e f));obtain⟨b2,w2,e2⟩:=sc (pK d f (min e f));rw[e1]at CA hc;rw[e2]at Nq hc;generalize s6 c e d f=r at hc;rw[show min e f=if f<e then f else e by split<;>omega]at CA Nq;refine' eN func83;(repeat first|refine' uD|(refine' oX;(first|exact iV hr|exact cB [] CA|exact cB [] Nq|exact cD [] hc);exact kq));refine' rE;all_goals rfl
def ZX(h:¬(iZ c e=0∧iZ d f=0)):∃w:Int,w≠0∧ak 83 [.g (.agg [.int .i64 c,.int .i64 e]),.g (.agg [.int .i64 d,.int .i64 f])] (.tuple [aq 0,aq w]):=by
 have hr:=xn (c:=c) (e:=e) (d:=d) (f:=f);have hw:(if iZ c e=0 then iZ d f else iZ c e)≠0:=by split;rename_i h1;exact λh2=>h ⟨h1,h2⟩;assumption
 generalize(if iZ c e=0 then iZ d f else iZ c e)=w at hr hw;refine⟨w,hw,?_⟩;refine' eN func83;(repeat' first|refine' wb|(refine' oX;exact iV hr;exact kq)|refine xU [4] rfl ?_|refine' sN<;>intro h|fail);all_goals(first|(exfalso;first|(simp_all;done)|(simp_all;omega))|(refine' rE<;>rfl))
end Go.Proofs.YtckjndkmmfmjjaaGreatDoor