/- Steps to pointsMake_card. -/
import Derived.Test.YtckjndkmmfmjjaaGreatDoorOwnS
import Derived.Test.YtckjndkmmfmjjaaGreatDoorOwnR
set_option linter.all false
open Go.IntKind (i64 u32 u64)
open Go.Proofs.Tryz
set_option maxRecDepth 100000
set_option maxHeartbeats 32000000
namespace Go.Pure.V
open Go Go.Proofs Go.Proofs.YtckjndkmmfmjjaaGreatDoor
attribute [local irreducible] PW jQ ju PO PC lS
def jO(z:Int)(b:Nat):List PV:=[ax (decide (z<0)),av (iG (iF z.natAbs)),ax false,av (iG (iF b))]
def qR(x y:Int):((decide (x<0) !=decide (y<0))&&decide (0<(iF (x*y).natAbs).length))=decide (x*y<0):=by
 by_cases h0:x*y=0;rw[h0];simp[jg]
 ·have hl:0<(iF (x*y).natAbs).length:=by have:=jl (X:=(x*y).natAbs) ab;rwa[kL]at this
  rw[bU hl,Bool.and_true];have hx:x≠0:=λe=>h0 (by rw[e,gP]);have hy:y≠0:=λe=>h0 (by rw[e,Int.mul_zero]);rcases eZ x 0 with h|h|h
  ·rcases eZ y 0 with g|g|g
   have:=Int.mul_pos_of_neg_of_neg h g;simp[h,g];omega;exact absurd g hy;have:=Int.mul_neg_of_neg_of_pos h g;simp[h,this];omega
  exact absurd h hx
  ·rcases eZ y 0 with g|g|g
   have:=Int.mul_neg_of_pos_of_neg h g;simp[g,this];omega;exact absurd g hy;have:=Int.mul_pos h g;rw[bA ab,bA ab,bA ab];rfl
def We(a b:Nat):oz a b=pC (a:Int) (b:Int):=by unfold oz pC;by_cases h1:a<b;rw[aW h1,aW ab];rw[aV h1,aV (show ¬((a:Int)<b) by omega)];by_cases h2:b<a;rw[aW h2,aW ab];rw[aV h2,aV ab]
variable{y:Int}
def HL{x:Int}(hx:x<0)(hy:y<0):i64.wrap (0-oz x.natAbs y.natAbs)=pC x y:=by
 unfold pC oz;rcases eZ x y with h|h|h
 rw[aV ab,aW ab,aW h];decide;rw[aV ab,aV ab,aV ab,aV ab];decide;rw[aW ab,aV ab,aW h];decide
def HM{x:Int}(hx:0<=x)(hy:0<=y):oz x.natAbs y.natAbs=pC x y:=by rw[We,Int.natAbs_of_nonneg hx,Int.natAbs_of_nonneg hy]
def ML{x:Int}(hx:x<0)(hy:0<=y):pC x y= -1:=by unfold pC;rw[aW ab]
def MM{x:Int}(hx:0<=x)(hy:y<0):pC x y=1:=by unfold pC;rw[aV ab,aW ab]
def vZ(x y:Int):x.natAbs*y.natAbs=(x*y).natAbs:=(dI x y).symm
def oU(n:Nat):jn (n:Int)=[ax false,av (iG (iF n))]:=by unfold jn;rw[bA (show ¬((n:Int)<0) by omega),bM]
variable{p:Bool}{l:List Nat}{b:Nat}
def tF{q:Bool}(hb:b≠0):al 53 [.ptr 0 0] ⟨[[ax p,av (iG l),ax q,av (iG (iF b))]],[],[]⟩ (.ptr 0 2) ⟨[[ax p,av (iG l),ax q,av (iG (iF b))]],[],[]⟩:=by
 have hp:=jl hb;generalize iF b=m at *
 refine' eN func53;(try refine' uN);refine' sQ<;>intro h;exfalso;have hh:=bQ.1 h;omega;clear h;(try refine' uN);refine' rB;all_goals rfl
variable{u w:Bool}{m n zs xs ys:List Nat}
def aj8{q:Bool}(hc:ak 80 [av (iG xs),av (iG ys)] (av (iG zs))):al 52 [.ptr 0 0,.ptr 1 0,.ptr 2 0] ⟨[[ax false,.iM],[ax p,av (iG xs),ax u,av (iG m)],[ax q,av (iG ys),ax w,av (iG n)]],[],[]⟩ (.ptr 0 0) ⟨[[ax ((p !=q)&&decide (0<zs.length)),av (iG zs)],[ax p,av (iG xs),ax u,av (iG m)],[ax q,av (iG ys),ax w,av (iG n)]],[],[]⟩:=by have hg:=mR (p:= ax false) (q:=.iM) (neg:=(p !=q)) (l:=zs);refine' eN func52;(repeat first|refine' wc|(refine' oX;(first|exact iV hc|exact cD [] hg);exact kq)|refine' xW [1,2]);refine' rB;all_goals rfl
def Xr{q:Bool}(hc:ak 80 [av (iG xs),av (iG ys)] (av (iG zs))):al 52 [.ptr 0 0,.ptr 1 2,.ptr 2 2] ⟨[[ax false,.iM],[ax u,av (iG m),ax p,av (iG xs)],[ax w,av (iG n),ax q,av (iG ys)]],[],[]⟩ (.ptr 0 0) ⟨[[ax ((p !=q)&&decide (0<zs.length)),av (iG zs)],[ax u,av (iG m),ax p,av (iG xs)],[ax w,av (iG n),ax q,av (iG ys)]],[],[]⟩:=by have hg:=mR (p:= ax false) (q:=.iM) (neg:=(p !=q)) (l:=zs);refine' eN func52;(repeat first|refine' wc|(refine' oX;(first|exact iV hc|exact cD [] hg);exact kq)|refine' xW [1,2]);refine' rB;all_goals rfl
def F7{q:Bool}(hc:ak 80 [av (iG xs),av (iG ys)] (av (iG zs))):al 52 [.ptr 0 0,.ptr 1 0,.ptr 2 2] ⟨[[ax false,.iM],[ax p,av (iG xs),ax u,av (iG m)],[ax w,av (iG n),ax q,av (iG ys)]],[],[]⟩ (.ptr 0 0) ⟨[[ax ((p !=q)&&decide (0<zs.length)),av (iG zs)],[ax p,av (iG xs),ax u,av (iG m)],[ax w,av (iG n),ax q,av (iG ys)]],[],[]⟩:=by have hg:=mR (p:= ax false) (q:=.iM) (neg:=(p !=q)) (l:=zs);refine' eN func52;(repeat first|refine' wc|(refine' oX;(first|exact iV hc|exact cD [] hg);exact kq)|refine' xW [1,2]);refine' rB;all_goals rfl
def aj9{q:Bool}(hc:ak 80 [av (iG xs),av (iG ys)] (av (iG zs))):al 52 [.ptr 0 0,.ptr 0 0,.ptr 1 0] ⟨[[ax p,av (iG xs)],[ax q,av (iG ys)]],[],[]⟩ (.ptr 0 0) ⟨[[ax ((p !=q)&&decide (0<zs.length)),av (iG zs)],[ax q,av (iG ys)]],[],[]⟩:=by have hg:=mR (p:= ax p) (q:= av (iG xs)) (neg:=(p !=q)) (l:=zs);refine' eN func52;(repeat first|refine' wc|(apply dR rfl rfl;focus(first|exact Qz (cd [] rfl rfl (EN rfl) (hg) rfl rfl rfl rfl rfl rfl rfl rfl rfl rfl rfl)))|(refine' oX;exact iV hc;exact kq)|refine' xW [0,1,35026]);refine' rB;all_goals rfl
def aka{x:Int}(hX:(iF x.natAbs).length<=100000)(hY:(iF y.natAbs).length<=100000):al 121 [.ptr 0 0,.ptr 1 0] ⟨[[ax (decide (x<0)),av (iG (iF x.natAbs))],[ax (decide (y<0)),av (iG (iF y.natAbs))]],[],[]⟩ (aq (pC x y)) ⟨[[ax (decide (x<0)),av (iG (iF x.natAbs))],[ax (decide (y<0)),av (iG (iF y.natAbs))]],[],[]⟩:=by
 have hc:=rK hX hY;generalize iF x.natAbs=xs at *
 generalize iF y.natAbs=ys at *
 refine' eN func121;(repeat' first|refine' wn @hc|refine' sN<;>intro h|fail);all_goals(refine' rB)
 all_goals(try rfl)
 all_goals(rename_i h1)
 all_goals refine aT aq ?_
 all_goals
  first
   |(have hx:=aU h;have hy:y<0:=(by rw[h]at h1;simpa using h1);exact HL hx hy)
   |(have hx:=aX h;have hy:0<=y:=(by rw[h]at h1;simpa using h1);exact HM ab hy)
   |(have hx:=aU h;have hy:0<=y:=(by rw[h]at h1;simpa using h1);exact(ML hx hy).symm)
   |(have hx:=aX h;have hy:y<0:=(by rw[h]at h1;simpa using h1);exact(MM ab hy).symm)
def akb{x:Int}(hX:(iF x.natAbs).length<=100000)(hY:(iF y.natAbs).length<=100000):al 121 [.ptr 0 0,.ptr 1 0] ⟨[[ax (decide (x<0)),av (iG (iF x.natAbs)),ax u,av (iG m)],[ax (decide (y<0)),av (iG (iF y.natAbs)),ax w,av (iG n)]],[],[]⟩ (aq (pC x y)) ⟨[[ax (decide (x<0)),av (iG (iF x.natAbs)),ax u,av (iG m)],[ax (decide (y<0)),av (iG (iF y.natAbs)),ax w,av (iG n)]],[],[]⟩:=by
 have hc:=rK hX hY;generalize iF x.natAbs=xs at *
 generalize iF y.natAbs=ys at *
 refine' eN func121;(repeat' first|refine' wn @hc|refine' sN<;>intro h|fail);all_goals(refine' rB)
 all_goals(try rfl)
 all_goals(rename_i h1)
 all_goals refine aT aq ?_
 all_goals
  first
   |(have hx:=aU h;have hy:y<0:=(by rw[h]at h1;simpa using h1);exact HL hx hy)
   |(have hx:=aX h;have hy:0<=y:=(by rw[h]at h1;simpa using h1);exact HM ab hy)
   |(have hx:=aU h;have hy:0<=y:=(by rw[h]at h1;simpa using h1);exact(ML hx hy).symm)
   |(have hx:=aX h;have hy:y<0:=(by rw[h]at h1;simpa using h1);exact(MM ab hy).symm)
def akc{x:Int}(hX:(iF x.natAbs).length<=100000)(hY:(iF y.natAbs).length<=100000):al 121 [.ptr 0 2,.ptr 1 2] ⟨[[ax u,av (iG m),ax (decide (x<0)),av (iG (iF x.natAbs))],[ax w,av (iG n),ax (decide (y<0)),av (iG (iF y.natAbs))]],[],[]⟩ (aq (pC x y)) ⟨[[ax u,av (iG m),ax (decide (x<0)),av (iG (iF x.natAbs))],[ax w,av (iG n),ax (decide (y<0)),av (iG (iF y.natAbs))]],[],[]⟩:=by
 have hc:=rK hX hY;generalize iF x.natAbs=xs at *
 generalize iF y.natAbs=ys at *
 refine' eN func121;(repeat' first|refine' wn @hc|refine' sN<;>intro h|fail);all_goals(refine' rB)
 all_goals(try rfl)
 all_goals(rename_i h1)
 all_goals refine aT aq ?_
 all_goals
  first
   |(have hx:=aU h;have hy:y<0:=(by rw[h]at h1;simpa using h1);exact HL hx hy)
   |(have hx:=aX h;have hy:0<=y:=(by rw[h]at h1;simpa using h1);exact HM ab hy)
   |(have hx:=aU h;have hy:0<=y:=(by rw[h]at h1;simpa using h1);exact(ML hx hy).symm)
   |(have hx:=aX h;have hy:y<0:=(by rw[h]at h1;simpa using h1);exact(MM ab hy).symm)
variable{v:Bool}
def Wf:al 78 [.ptr 0 2,ax false,av (iG l)] ⟨[[ax u,av (iG m),ax v,av (iG n)]],[],[]⟩ (.ptr 0 2) ⟨[[ax u,av (iG m),ax false,av (iG l)]],[],[]⟩:=by refine' eN func78;(try refine' uN);refine' rB;all_goals rfl
def Z8:al 69 [.ptr 0 2,aq 1] ⟨[[ax u,av (iG m),ax v,av (iG n)]],[],[]⟩ (.ptr 0 2) ⟨[[ax u,av (iG m),ax false,av (iG [1])]],[],[]⟩:=by have hw:=xq (x:=1) af;rw[jC (n:=1) af af]at hw;have hg:=Wf (u:=u) (v:=v) (m:=m) (n:=n) (l:=[1]);refine' eN func69;(try refine' wf @hw @hg);refine' rB;all_goals rfl
variable{B:Nat}
def zT(h:B≠0):∃b r,iF B=b::r∧(r=[]->b=B):=by refine⟨_,_,ml h,λhr=>?_⟩;have h1:=jm B;rw[ml h,hr]at h1;simpa[val]using h1
def Wg(hB:B≠0):al 68 [.ptr 0 0] ⟨[[ax p,av (iG []),ax false,av (iG (iF B))]],[],[]⟩ (.ptr 0 0) ⟨[[ax p,av (iG []),ax false,av (iG [1])]],[],[]⟩:=by obtain⟨b,r,hd,_⟩:=zT hB;rw[hd];have ho:=Z8 (u:=p) (v:=false) (m:=[]) (n:=b::r);refine' eN func68;(try refine' wh @ho);refine' rB;all_goals rfl
variable{A:Nat}
def Z9(hA:A≠0):al 68 [.ptr 0 0] ⟨[[ax p,av (iG (iF A)),ax false,av (iG [1])]],[],[]⟩ (.ptr 0 0) ⟨[[ax p,av (iG (iF A)),ax false,av (iG [1])]],[],[]⟩:=by obtain⟨a,r,hd,_⟩:=zT hA;rw[hd];refine' eN func68;(repeat first|refine' uD|(refine' oX;exact jB (g:=wG 1);exact kq));refine' rB;all_goals rfl
def aaa(hA:A≠0)(Uk:A<WB*WB∨B<WB*WB)(hmA:(iF A).length<=10000)(hB:B≠0)(Wh:B≠1)(hm:(iF B).length<=10000):al 68 [.ptr 0 0] ⟨[[ax p,av (iG (iF A)),ax false,av (iG (iF B))]],[],[]⟩ (.ptr 0 0) ⟨[[ax p,av (iG (iF (A/Nat.gcd A B))),ax false,av (iG (iF (B/Nat.gcd A B)))]],[],[]⟩:=by
  have hG0:Nat.gcd A B≠0:=ik (Nat.gcd_pos_of_pos_left _ (Nat.pos_of_ne_zero hA));have hGA:Nat.gcd A B<=A:=gS (Nat.pos_of_ne_zero hA) (Nat.gcd_dvd_left _ _);have hGB:Nat.gcd A B<=B:=gS (Nat.pos_of_ne_zero hB) (Nat.gcd_dvd_right _ _);have CN:Nat.gcd A B<WB*WB:=by rcases Uk with h|h<;>omega
  have hc:=Wd hA Uk hmA hB hm;have hmG:(iF (Nat.gcd A B)).length<=10000:=by have:=sd (X:=Nat.gcd A B) CN;rw[kL]at this;omega
  have d1:=Bs (X:=A) (Y:=Nat.gcd A B) hG0 (.inl CN) hmA hmG;have d2:=Bs (X:=B) (Y:=Nat.gcd A B) hG0 (.inl CN) hm hmG;obtain⟨a,ra,ea,_⟩:=zT hA;obtain⟨b,rb,eb,fb⟩:=zT hB;obtain⟨g,rg,eg,fg⟩:=zT hG0;have jE:Nat.gcd A B=1->iF (A/Nat.gcd A B)=iF A∧iF (B/Nat.gcd A B)=iF B:=λh=>by rw[h,fe,fe];exact⟨rfl,rfl⟩
  rw[ea,eb]at jE;rw[ea]at d1;rw[eb]at d2;rw[eg]at d1 d2;rw[ea,eb,eg]at hc;rw[ea,eb];generalize iF (A/Nat.gcd A B)=qa at *
  generalize iF (B/Nat.gcd A B)=qb,iF (A%Nat.gcd A B)=ma,iF (B%Nat.gcd A B)=mb at *
  generalize Nat.gcd A B=G at *
  have aew:rb=[]->((b:Int)==1)=true->False:=λh1 h2=>Wh (by have:=fb h1;have:=bQ.1 h2;omega);have aje:(((iG (b::rb)).length:Int)==1)=true->rb=[]:=λh=>by have:=bQ.1 h;rw[iK]at this;simp at this;exact df ab
  have amy:(((iG (g::rg)).length:Int)==1)=true->rg=[]:=λh=>by have:=bQ.1 h;rw[iK]at this;simp at this;exact df ab
  refine' eN func68;(repeat' first|refine' wb|(refine' oX;exact jB (g:=wG b);exact kq)|refine xU [11] rfl ?_|refine' sN<;>intro h|fail);all_goals(first|(exfalso;rename_i h1;first|exact aew (aje h1) h|exact aew (aje h) h1)|skip)
  all_goals
    (repeat first|refine' wb|(refine' oX;exact iV hc;exact kq)|refine xU [12] rfl ?_)
    (repeat' first|refine' wb|(refine' oX;exact jB (g:=wG g);exact kq)|refine xU [14] rfl ?_|refine' sN<;>intro h|fail)
  all_goals
    first
      | (have BN:G=1:=by
           rename_i h1;have hr:=amy h1;have:=fg hr;have:=bQ.1 h;omega
         obtain⟨o1,o2⟩:=jE BN
         rw[o1,o2]
         (try refine' uD)
         refine' rB
         all_goals rfl)
      | ((try refine' wo @d1 @d2)
         refine' rB
         all_goals rfl)
def mH(Uk:A<WB*WB∨B<WB*WB)(hmA:(iF A).length<=10000)(hB:B≠0)(hm:(iF B).length<=10000):al 68 [.ptr 0 0] ⟨[[ax p,av (iG (iF A)),ax false,av (iG (iF B))]],[],[]⟩ (.ptr 0 0) ⟨[[ax p,av (iG (iF (A/Nat.gcd A B))),ax false,av (iG (iF (B/Nat.gcd A B)))]],[],[]⟩:=by by_cases hA:A=0;subst hA;rw[Nat.gcd_zero_left,Nat.zero_div,Nat.div_self (Nat.pos_of_ne_zero hB),jg,jC (n:=1) af af];exact Wg hB;by_cases Wh:B=1;subst Wh;rw[Nat.gcd_one_right,fe,jC (n:=1) af af];exact Z9 hA;exact aaa hA Uk hmA hB Wh hm
def Q7(x:Int):qI x 1=x:=by have:=Hb (x:=x) (g:=1) (Nat.one_dvd _);simpa using this
variable{Y:Nat}
def pZ{x:Int}(hY:Y≠0)(hx:x.natAbs<WB*WB∨Y<WB*WB)(AH:(iF x.natAbs).length<=10000)(hm:(iF Y).length<=10000):
  al 45 [.ptr 0 0,.ptr 1 0,.ptr 2 0] ⟨[[ax false,.iM,ax false,.iM],jn x,[ax false,av (iG (iF Y))]],[],[]⟩ (.ptr 0 0) ⟨[jO (qI x (gI x Y)) (Y/gI x Y),jn x,[ax false,av (iG (iF Y))]],[],[]⟩:=by
 have AI:=Ea (x:=x) ab;have zf:=Ea (x:=(Y:Int)) (by rw[bM];omega);rw[oU]at zf;have hn:=mH (A:=x.natAbs) (B:=Y) (p:=decide (x<0)) hx AH hY hm;have hp:=jl hY;unfold jO;rw[X7 (CH x Y) (xV x (Nat.pos_of_ne_zero hY)),DW];unfold gI;unfold jn at AI⊢;generalize iF (x.natAbs/Nat.gcd x.natAbs Y)=q1 at *
 generalize iF (Y/Nat.gcd x.natAbs Y)=q2 at *
 clear hx AH hm;generalize iF x.natAbs=xs at *
 generalize iF Y=ys,decide (x<0)=s at *
 refine' eN func45;(try refine' uN);refine' sQ<;>intro h;exfalso;have hh:=bQ.1 h;omega;clear h;(try refine' wg @AI @zf @hn);refine' rB;all_goals rfl
def Qn{x:Int}(hY:Y≠0)(hx:x.natAbs<WB*WB∨Y<WB*WB)(AH:(iF x.natAbs).length<=10000)(hm:(iF Y).length<=10000):
  al 45 [.ptr 0 0,.ptr 1 0,.ptr 2 0] ⟨[[ax u,av (iG m),ax v,av (iG n)],jn x,[ax false,av (iG (iF Y))]],[],[]⟩ (.ptr 0 0) ⟨[jO (qI x (gI x Y)) (Y/gI x Y),jn x,[ax false,av (iG (iF Y))]],[],[]⟩:=by
 have AI:=Ea (x:=x) ab;have zf:=Ea (x:=(Y:Int)) (by rw[bM];omega);rw[oU]at zf;have hn:=mH (A:=x.natAbs) (B:=Y) (p:=decide (x<0)) hx AH hY hm;have hp:=jl hY;unfold jO;rw[X7 (CH x Y) (xV x (Nat.pos_of_ne_zero hY)),DW];unfold gI;unfold jn at AI⊢;generalize iF (x.natAbs/Nat.gcd x.natAbs Y)=q1 at *
 generalize iF (Y/Nat.gcd x.natAbs Y)=q2 at *
 clear hx AH hm;generalize iF x.natAbs=xs at *
 generalize iF Y=ys,decide (x<0)=s at *
 refine' eN func45;(try refine' uN);refine' sQ<;>intro h;exfalso;have hh:=bQ.1 h;omega;clear h;(try refine' wg @AI @zf @hn);refine' rB;all_goals rfl
def FW{x:Int}(AH:(iF x.natAbs).length<=10000):
  al 45 [.ptr 0 0,.ptr 1 0,.ptr 2 0] ⟨[[ax false,.iM,ax false,.iM],jn x,[ax false,av (iG [1])]],[],[]⟩ (.ptr 0 0) ⟨[jO x 1,jn x,[ax false,av (iG [1])]],[],[]⟩:=by
 have:=pZ (x:=x) (Y:=1) af (.inr af) AH (by rw[jC (n:=1) af af];decide);rw[X8,Q7,fe,jC (n:=1) af af]at this;exact this
def Hg:al 46 [aq 1] ⟨[],[],[]⟩ (.ptr 0 0) ⟨[[ax false,av (iG [1])]],[],[]⟩:=by have:=tq (z:=1) af;rw[oU,jC (n:=1) af af]at this;exact this
def A8{x:Int}(AH:(iF x.natAbs).length<=10000):al 48 [.ptr 0 0,.ptr 1 0] ⟨[[ax false,.iM,ax false,.iM],jn x],[],[]⟩ (.ptr 0 0) ⟨[jO x 1,jn x],[],[]⟩:=by
 have h1:=Hg;have h2:=FW (x:=x) AH;unfold jO at *
 unfold jn at *
 clear AH;generalize iF x.natAbs=xs at *
 generalize decide (x<0)=s,iF 1=o at *
 refine' eN func48;(try refine' wf @h1 @h2);refine' rB;all_goals rfl
def FX{x:Int}(h1: -9223372036854775808<=x)(h2:x<9223372036854775808):al 47 [.ptr 0 0,aq x] ⟨[[ax false,.iM,ax false,.iM]],[],[]⟩ (.ptr 0 0) ⟨[jO x 1],[],[]⟩:=by
 have n1:=Ch h1 h2;have n2:=Hg;have h3:=FW (x:=x) (by have:=iU (n:=x.natAbs) (k:=2) (by rw[cW,dT];unfold WB;omega);omega);unfold jO at *
 unfold jn at *
 clear h1 h2;generalize iF x.natAbs=xs at *
 generalize decide (x<0)=s,iF 1=o at *
 refine' eN func47;(try refine' wg @n1 @n2 @h3);refine' rB;all_goals rfl
variable{a c:Int}{d:Nat}
def E8(hb:b≠0)(hd:d≠0)(hx:(a*c).natAbs<WB*WB∨b*d<WB*WB)(la:(iF a.natAbs).length<=1000)(lb:(iF b).length<=1000)(lc:(iF c.natAbs).length<=1000)(ld:(iF d).length<=1000)(l1:(iF (a*c).natAbs).length<=10000)(l2:(iF (b*d)).length<=10000):
  al 23 [.ptr 0 0,.ptr 0 0,.ptr 1 0] ⟨[jO a b,jO c d],[],[]⟩ (.ptr 0 0) ⟨[jO (qI (a*c) (gI (a*c) (b*d))) (b*d/gI (a*c) (b*d)),jO c d],[],[]⟩:=by
 have m1:=sL la lc;rw[vZ]at m1;have m2:=sL lb ld;have k1:=aj8 (p:=decide (a<0)) (q:=decide (c<0)) (u:=false) (w:=false) (m:=iF b) (n:=iF d) m1;rw[qR]at k1;have k2:=Xr (p:=false) (q:=false) (u:=decide (a<0)) (w:=decide (c<0)) (m:=iF a.natAbs) (n:=iF c.natAbs) m2;have e1:=tF (p:=decide (a<0)) (q:=false) (l:=iF a.natAbs) hb;have e2:=tF (p:=decide (c<0)) (q:=false) (l:=iF c.natAbs) hd;have hf:=Qn (x:=a*c) (Y:=b*d) (u:=decide (a<0)) (m:=iF a.natAbs) (v:=false) (n:=iF b) (iy hb hd) hx l1 l2;generalize qI (a*c) (gI (a*c) (b*d))=Q at *
 generalize b*d/gI (a*c) (b*d)=R at *
 unfold jO at *
 unfold jn at *
 clear m1 m2 la lb lc ld l1 l2 hx hb hd;generalize iF (a*c).natAbs=zs at *
 generalize decide (a*c<0)=zp,iF (b*d)=ws,iF a.natAbs=xs,decide (a<0)=xp,iF c.natAbs=ys,decide (c<0)=yp,iF b=bs,iF d=ds,iF Q.natAbs=qs,decide (Q<0)=qp,iF R=rs at *
 refine' eN func23;(repeat first|refine' wc|(refine' oX;(first|exact cB [] e1|exact cB [] e2|exact cB [] k1|exact cB [] k2|exact cB [] hf);exact kq)|refine Gu (fz:=qU Pp) (fs:=qU Jq) (λ_ _ h=>ZR h) (λ_ _ h=>SZ h) [16] [40016] rfl rfl rfl mixed aQ ?_|refine' xW [40016]);refine' rB;all_goals rfl
def LK{x:Int}:pC x y=0↔x=y:=by unfold pC;constructor;intro h;split at h;cases h;split at h;cases h;omega;rintro rfl;rw[aV ab,aV ab]
def E9{x:Int}{y:Nat}(hb:b≠0)(hy:y≠0)(la:(iF a.natAbs).length<=1000)(lb:(iF b).length<=1000)(lx:(iF x.natAbs).length<=1000)(ly:(iF y).length<=1000)(l1:(iF (a*(y:Int)).natAbs).length<=10000)(l2:(iF (x*(b:Int)).natAbs).length<=10000):
  al 87 [.ptr 0 0,.ptr 1 0] ⟨[jO a b,jO x y],[],[]⟩ (aq (N9 a b x y)) ⟨[jO a b,jO x y],[],[]⟩:=by
 have e1:=tF (p:=decide (a<0)) (q:=false) (l:=iF a.natAbs) hb;have e2:=tF (p:=decide (x<0)) (q:=false) (l:=iF x.natAbs) hy;have c1:=akc (x:=(b:Int)) (y:=(y:Int)) (u:=decide (a<0)) (w:=decide (x<0)) (m:=iF a.natAbs) (n:=iF x.natAbs) (by rw[bM];omega) (by rw[bM];omega);rw[bM,bM,bA (show ¬((b:Int)<0) by omega),bA (show ¬((y:Int)<0) by omega)]at c1;have c2:=akb (x:=a) (y:=x) (u:=false) (w:=false) (m:=iF b) (n:=iF y) ab ab;have c3:=aka (x:=a*(y:Int)) (y:=x*(b:Int)) ab ab;have m1:=sL (X:=a.natAbs) (Y:=(y:Int).natAbs) la (by rw[bM];exact ly);rw[vZ]at m1;have m2:=sL (X:=x.natAbs) (Y:=(b:Int).natAbs) lx (by rw[bM];exact lb);rw[vZ]at m2;have s1:=qR a (y:Int);have s2:=qR x (b:Int);rw[bA (show ¬((y:Int)<0) by omega)]at s1;rw[bA (show ¬((b:Int)<0) by omega)]at s2;have k1:=F7 (p:=decide (a<0)) (q:=false) (u:=false) (w:=decide (x<0)) (m:=iF b) (n:=iF x.natAbs) m1;have k2:=F7 (p:=decide (x<0)) (q:=false) (u:=false) (w:=decide (a<0)) (m:=iF y) (n:=iF a.natAbs) m2;rw[s1,bM]at k1;rw[s2,bM]at k2;unfold jO;unfold N9;clear m1 m2 la lb lx ly l1 l2 s1 s2;by_cases yv:b=y
 ·rw[aW yv];rw[show pC (b:Int) (y:Int)=0 from LK.2 ab]at c1;clear c3 k1 k2;generalize pC a x=r at *
  clear hb hy yv
  generalize iF a.natAbs=axs,decide (a<0)=ap,iF x.natAbs=xs,decide (x<0)=xp,iF b=bs,iF y=ys at *
  refine' eN func87;(repeat first|refine' uD|(refine' oX;(first|exact cB [] e1|exact cB [] e2|exact cB [] c1|exact cB [] c2);exact kq));refine' rB;all_goals rfl
 ·rw[aV yv];have js:(pC (b:Int) (y:Int)==0)=false:=bk.2 (λh=>yv (by have:=LK.1 h;omega));generalize pC (b:Int) (y:Int)=r0 at *
  generalize pC (a*(y:Int)) (x*(b:Int))=r at *
  generalize iF (a*(y:Int)).natAbs=z1 at *
  generalize decide (a*(y:Int)<0)=p1 at *
  generalize iF (x*(b:Int)).natAbs=z2 at *
  generalize decide (x*(b:Int)<0)=p2 at *
  clear c2 hb hy yv
  generalize iF a.natAbs=axs,decide (a<0)=ap,iF x.natAbs=xs,decide (x<0)=xp,iF b=bs,iF y=ys at *
  refine' eN func87;(try refine' wj @e1 @e2 @c1);refine' sQ<;>intro h;exfalso;rw[js]at h;cases h;clear h;(repeat first|refine' wc|(apply dR rfl rfl;focus(first|exact AU rfl 1 rfl rfl (λH1 hb=>uR rfl rfl (EN rfl) rfl e2 (λ_ _ _=>rfl) (hb.symm.trans rfl))))|(refine' oX;(first|exact cB [] e1|exact cB [] e2|exact cB [] k1|exact cB [] k2|exact cB [] c3);exact kq)|refine Gu (fz:=qU Pp) (fs:=qU Jq) (λ_ _ h=>ZR h) (λ_ _ h=>SZ h) [25] [30023,20001,40025] rfl rfl rfl mixed aQ ?_|refine' xW [30023,20001,40025]);refine' rB;all_goals rfl
def ahm:al 46 [aq 10] ⟨[],[],[]⟩ (.ptr 0 0) ⟨[[ax false,av (iG (iF 10))]],[],[]⟩:=by have:=tq (z:=10) af;rwa[oU]at this
variable{k:Nat}
def GH(h:k<=60):(iF (10^k)).length<=7:=by
 have h1:10^k<=10^60:=cf af h;have h2:(10:Nat)^60<WB^7:=by decide+kernel
 exact iU (bO h1 h2)
def zn{n:Int}(h1: -1000<=n)(h2:n<=60):al 49 [aq n] ⟨[],[],[]⟩ (.ptr 0 0) ⟨[[ax false,av (iG (iF (10^n.toNat)))]],[],[]⟩:=by
 have n1:=Hg;have n2:=ahm;have tT:∀m:Int,0<m->m<=n->10^(n.toNat-(m-1).toNat)=10^(n.toNat-m.toNat)*10:=λm a b=>by rw[<-cW];congr 1;omega
 rw[show [1]=iF (10^(n.toNat-n.toNat)) by rw[dA,eM,jC (n:=1) af af]]at n1;refine' eN func49;(try refine' we @n1);refine jK (S:=Int) (λm=>[(0,aq m),(3,.ptr 0 0)]) (λm=>⟨[[ax false,av (iG (iF (10^(n.toNat-m.toNat))))]],[],[]⟩) (λm=>m<=n∧(0<=m∨m=n)) (λm=>m.toNat) n ⟨fK _,.inr rfl⟩
  (iE.le ⟨.inl rfl,.inl rfl,trivial⟩) aJ (λ_=>rfl) (λm hm=>?_)
 obtain⟨tN,xJ⟩:=hm;(try refine' uN);refine' sQ<;>intro h
 ·have jX:0<m:=by have:=aU h;omega
  have hm:=sL (X:=10^(n.toNat-m.toNat)) (Y:=10) (b8 (GH ab) af) (b8 (iU (k:=1) af) af);rw[<-tT m jX tN]at hm;have k:=aj9 (p:=false) (q:=false) hm;generalize hB:iF (10^(n.toNat-(m-1).toNat))=zs at *
  generalize iF (10^(n.toNat-m.toNat))=xs,iF 10=ts at *
  clear h;(try refine' wf @n2 @k);exact⟨m-1,⟨by omega,.inl ab⟩,by omega,iE.le ⟨.inl (aT aq (jD ab)),.inl rfl,trivial⟩,lq.mk [[ax false,av (iG ts)]] [] [] (by rw[hB];rfl)⟩
 ·have Dm:m<=0:=by have:=aX h;omega
  have e:n.toNat-m.toNat=n.toNat:=by rw[show m.toNat=0 by omega,gD]
  rw[e];clear h;(try refine' uN);refine' rB;all_goals rfl
variable{e:Int}
def ahn(mM: -999999999999999999<=c)(rh:c<=999999999999999999)(h0:0<=e)(he:e<=40):al 19 [.g (.agg [.int .i64 c,.int .i64 e])] ⟨[],[],[]⟩ (.ptr 0 0) ⟨[jO (qI (kT c e) (gI (kT c e) (kY e))) (kY e/gI (kT c e) (kY e))],[],[]⟩:=by
 have ri:kY e=1:=by unfold kY;rw[show(-e).toNat=0 by omega,eM]
 have zD:c*((10^e.toNat:Nat):Int)=kT c e:=by unfold kT;rw[gH];rfl
 have la:(iF c.natAbs).length<=2:=iU (k:=2) (by rw[cW,dT];unfold WB;omega);have lt:(iF (10^e.toNat)).length<=7:=GH ab;have l1:(iF 1).length<=1:=iU (k:=1) af;have lz:(iF (kT c e).natAbs).length<=10000:=by
  rw[<-zD,dI,bM];have a1:10^e.toNat<=10^60:=cf af ab;have a2:(10:Nat)^18*10^60<WB^9:=by decide+kernel
  have a3:c.natAbs<=10^18:=by have:(10:Nat)^18=1000000000000000000:=aQ;omega
  exact b8 (iU (bO (dy a3 a1) a2)) af
 have h1:=FX (x:=c) ab ab;have h2:=zn (n:=e) ab ab;have h3:=A8 (x:=((10^e.toNat:Nat):Int)) (by rw[bM];omega);have h4:=E8 (a:=c) (b:=1) (c:=((10^e.toNat:Nat):Int)) (d:=1) af af (.inr af) ab ab (by rw[bM];omega) ab (by rw[zD];exact lz) (by rw[cU];omega);rw[zD,cU,<-ri]at h4;rw[ri]at h4;rw[ri];rw[oU]at h3;unfold jO at *
 rw[bM,bA (show ¬(((10^e.toNat:Nat):Int)<0)from Int.not_lt.2 (br _))]at h3 h4;have iI:decide (e<0)=false:=bA ab;unfold jn at *
 clear ri zD la lt l1 lz;generalize iF (10^e.toNat)=ts at *
 generalize qI (kT c e) (gI (kT c e) 1)=Q,1/gI (kT c e) 1=R,iF c.natAbs=cs,decide (c<0)=cp at *
 generalize iF Q.natAbs=qs,decide (Q<0)=qp,iF R=rs,iF 1=os at *
 refine PC.Kx (v:=.ptr 1 0) (H1:=⟨[[aq c,aq e],[ax qp,av (iG qs),ax false,av (iG rs)]],[],[]⟩) ?_ [1] [] [] rfl rfl rfl rfl rfl rfl rfl rfl;refine' eN func19;(repeat first|refine' uD|(refine' oX;(first|exact cB [] h1|exact cB [] h2|exact cB [] h3|exact cB [] h4);exact kq));refine' sQ<;>intro h;exfalso;rw[iI]at h;cases h;clear h;(try refine' wh @h4);refine' rB;all_goals rfl
def aab(mM: -999999999999999999<=c)(rh:c<=999999999999999999)(h0:e<0)(he: -40<=e):al 19 [.g (.agg [.int .i64 c,.int .i64 e])] ⟨[],[],[]⟩ (.ptr 0 0) ⟨[jO (qI (kT c e) (gI (kT c e) (kY e))) (kY e/gI (kT c e) (kY e))],[],[]⟩:=by
 have zD:c*1=kT c e:=by unfold kT;rw[show e.toNat=0 by omega,Int.pow_zero]
 have ajf:10^(-e).toNat=kY e:=rfl;have hbp:=sj e;have la:(iF c.natAbs).length<=2:=iU (k:=2) (by rw[cW,dT];unfold WB;omega);have lt:(iF (kY e)).length<=7:=GH ab;have l1:(iF 1).length<=1:=iU (k:=1) af;have jE:(iF (1:Int).natAbs).length<=1:=l1;have h1:=FX (x:=c) ab ab;have h2:=zn (n:=e) ab ab;rw[show e.toNat=0 by omega,eM]at h2;have h3:=A8 (x:=(1:Int)) ab;have Dm:i64.wrap (0-e)= -e:=by rw[jD ab];omega
 have h5:=zn (n:= -e) ab ab;rw[ajf,<-Dm]at h5;have h6:=pZ (x:=1) (Y:=kY e) ab (.inl af) ab ab;rw[show gI 1 (kY e)=1 from Nat.gcd_one_left _,Q7,fe]at h6;have h4:=E8 (a:=c) (b:=1) (c:=1) (d:=kY e) af ab (.inl (by rw[Int.mul_one];unfold WB;omega)) ab ab ab ab (by rw[Int.mul_one];omega) (by rw[c8];omega);rw[zD,c8]at h4;have n1:=Hg;rw[show [1]=iF 1 from(jC (n:=1) af af).symm]at n1;unfold jO at *
 unfold jn at *
 rw[show(1:Int).natAbs=1 from rfl,show decide ((1:Int)<0)=false from rfl]at h3 h4 h6;have iI:decide (e<0)=true:=bU ab;clear zD ajf hbp la lt l1 jE Dm;generalize qI (kT c e) (gI (kT c e) (kY e))=Q at *
 generalize kY e/gI (kT c e) (kY e)=R,iF (kY e)=ts,iF c.natAbs=cs,decide (c<0)=cp at *
 generalize iF Q.natAbs=qs,decide (Q<0)=qp,iF R=rs,iF 1=os at *
 refine PC.Kx (v:=.ptr 1 0) (H1:=⟨[[aq c,aq e],[ax qp,av (iG qs),ax false,av (iG rs)]],[],[]⟩) ?_ [1] [] [] rfl rfl rfl rfl rfl rfl rfl rfl;refine' eN func19;(try refine' wj @h1 @h2 @h3);refine' sQ<;>intro h
 ·clear h;(repeat first|refine' wc|(refine' oX;(first|exact cB [] n1|exact cB [] h5|exact cB [] h6|exact cB [] h4);exact kq)|refine Gu (fz:=qU Pp) (fs:=qU Jq) (λ_ _ h=>ZR h) (λ_ _ h=>SZ h) [17] [0,40017] rfl rfl rfl mixed aQ ?_|refine' xW [0,40017]);refine' rB;all_goals rfl
 exfalso;rw[iI]at h;cases h
def Q8(h:iZ c e=0):al 19 [.g (.agg [.int .i64 c,.int .i64 e])] ⟨[],[],[]⟩ (.ptr 0 0) ⟨[jO (qI (kT c e) (gI (kT c e) (kY e))) (kY e/gI (kT c e) (kY e))],[],[]⟩:=by have a:=(jT h).1;by_cases h0:0<=e;exact ahn ab ab h0 ab;exact aab ab ab ab ab
end Go.Pure.V
namespace Go.Proofs.YtckjndkmmfmjjaaGreatDoor
open Go Go.Pure
attribute [local irreducible] PW jQ ju PO PC lS
variable{c e:Int}
def Fa(h:iZ c e=0):(V.iF (qI (kT c e) (gI (kT c e) (kY e))).natAbs).length<=9∧(V.iF (kY e/gI (kT c e) (kY e))).length<=7∧kY e/gI (kT c e) (kY e)≠0:=by
 have a:=(jT h).1;have b1:kY e<=10^60:=cf af ab;have b2:(10:Nat)^60<V.WB^7:=by decide+kernel
 refine⟨?_,V.iU (bO (b8 (dY _ _) b1) b2),ik (fY (gS (sj e) (xg _ _)) (xV _ (sj e)))⟩;rw[DW];have t1:(kT c e).natAbs<=10^18*10^60:=by
  unfold kT;rw[dI,fo];have a1:10^e.toNat<=10^60:=cf af ab;have a3:c.natAbs<=10^18:=by have:(10:Nat)^18=1000000000000000000:=aQ;omega
  exact dy a3 a1
 have t2:(10:Nat)^18*10^60<V.WB^9:=by decide+kernel
 exact V.iU (bO (b8 (dY _ _) t1) t2)
variable{a:Int}
def PJ{y:Nat}(ha:(V.iF a.natAbs).length<=9)(hy:(V.iF y).length<=7):(V.iF (a*(y:Int)).natAbs).length<=10000:=by have h1:=V.lP (V.ji a.natAbs);have h2:=V.lP (V.ji y);rw[V.jm]at h1 h2;have h3:V.WB^(V.iF a.natAbs).length<=V.WB^9:=cf af ha;have h4:V.WB^(V.iF y).length<=V.WB^7:=cf af hy;have h5:a.natAbs*y<V.WB^9*V.WB^7:=gQ (bX h1 h3) (bX h2 h4);rw[<-fp]at h5;rw[dI,bM];exact b8 (V.iU h5) af
def ac6{d f:Int}(h1:iZ c e=0)(h2:iZ d f=0):ak 58 [.g (.agg [.int .i64 c,.int .i64 e]),.g (.agg [.int .i64 d,.int .i64 f])] (.tuple [aq (s6 c e d f),aq 0]):=by
 have a:=(jT h1).1;have b:=(jT h2).1;have w1:=E6 c e;have w2:=E6 d f;rw[h1]at w1;rw[h2]at w2;have r1:=V.Q8 h1;have r2:=V.Q8 h2;obtain⟨l1,l2,l3⟩:=Fa h1;obtain⟨m1,m2,m3⟩:=Fa h2;have hc:=V.E9 l3 m3 ab ab ab ab (PJ l1 m2) (PJ m1 l2);rw[Y9 ab ab,<-vM ab ab]at hc;unfold V.jO at *
 clear h1 h2 a b l1 l2 l3 m1 m2 m3;generalize s6 c e d f=r at *
 generalize V.iF (qI (kT c e) (gI (kT c e) (kY e))).natAbs=xs,decide (qI (kT c e) (gI (kT c e) (kY e))<0)=xp,V.iF (kY e/gI (kT c e) (kY e))=ys,V.iF (qI (kT d f) (gI (kT d f) (kY f))).natAbs=zs,decide (qI (kT d f) (gI (kT d f) (kY f))<0)=zp,V.iF (kY f/gI (kT d f) (kY f))=ws at *
 refine' eN func58;(repeat first|refine' wc|(refine' oX;(first|exact iV w1|exact iV w2|exact cB [] r1|exact cB [] r2|exact cB [] hc);exact kq)|refine' xW [0,1]);refine' rE;all_goals rfl
def zU(a b:iD)(hr:∀k y c e t l k' y' c' e' t' l',a=.mk k y c e t l->b=.mk k' y' c' e' t' l'->k=3->k'=3->iZ c e=0∧iZ c' e'=0):ak 31 [.g a.g,.g b.g] (aq (F5 a b)):=by
 obtain⟨k,y,c,e,t,l⟩:=a;obtain⟨k',y',c',e',t',l'⟩:=b;have hr:=hr k y c e t l k' y' c' e' t' l' rfl rfl;show PC _ _ _ _ (aq (if k=3∧k'=3 then hB (decide (s6 c e c' e'<0))else if k=4∧k'=4 then hB (Op.bytesLess t.toList t'.toList)else 1)) _;by_cases h3:k=3∧k'=3
 ·obtain⟨rfl,rfl⟩:=h3;rw[aW ⟨rfl,rfl⟩];obtain⟨q1,q2⟩:=hr rfl rfl;have hc:=ac6 q1 q2;generalize s6 c e c' e'=r at *
  by_cases iI:r<0
  ·rw[bU iI];refine' eN func31;(repeat' first|refine' wk @hc|refine' sN<;>intro h|fail);all_goals(first|(exfalso;(try simp only[fX]at *);first|done|omega)|(exfalso;simp at h;done)|(exfalso;simp_all;done)|(refine' rT;rfl))
  ·rw[bA iI];refine' eN func31;(repeat' first|refine' wk @hc|refine' sN<;>intro h|fail);all_goals(first|(exfalso;(try simp only[fX]at *);first|done|omega)|(exfalso;simp at h;done)|(exfalso;simp_all;done)|(refine' rT;rfl))
 ·rw[aV h3];by_cases h4:k=4∧k'=4
  ·obtain⟨rfl,rfl⟩:=h4;rw[aW ⟨rfl,rfl⟩];cases hb:Op.bytesLess t.toList t'.toList with
   |true=>
    refine' eN func31;(repeat' first|refine' uN|refine' sN<;>intro h|fail);all_goals(first|(exfalso;simp_all;done)|(refine' rT;rfl))
   |false=>
    refine' eN func31;(repeat' first|refine' uN|refine' sN<;>intro h|fail);all_goals(first|(exfalso;simp_all;done)|(refine' rT;rfl))
  ·rw[aV h4];refine' eN func31;(repeat' first|refine' wa|refine xU [3] rfl ?_|refine' sN<;>intro h|fail);all_goals(first|(refine' rT;rfl)|(exfalso;(try simp only[fX]at *);first|done|omega)|(exfalso;simp at h;done)|(exfalso;simp_all;done))
end Go.Proofs.YtckjndkmmfmjjaaGreatDoor
namespace Go.Pure.V
open Go Go.Proofs Go.Proofs.YtckjndkmmfmjjaaGreatDoor
attribute [local irreducible] PW jQ ju PO PC lS
def nE(n V i:Nat):List Nat:=iQ i V++List.replicate (n-i) 0
variable{V i:Nat}
def y9{n:Nat}(h:i<=n):(nE n V i).length=n:=by unfold nE;rw[bd,iN,cS];omega
def IG(n V:Nat):nE n V 0=List.replicate n 0:=by simp[nE,iQ]
def LM(n V:Nat):nE n V n=iQ n V:=by simp[nE]
def Fb{n:Nat}(h:i<n):(nE n V i).set i (V/WB^i%WB)=nE n V (i+1):=by unfold nE;obtain⟨k,hk⟩:∃k,n-i=k+1:=⟨n-i-1,by omega⟩;rw[Lf,hk,show n-(i+1)=k by omega,dW _ _ (by rw[iN];omega),iN,dA,fB,fU,bV];rfl
variable{l:List Nat}
def wP{x:Nat}(h:l[i]?=some x):l8 l i=x:=by unfold l8;rw[dE,h];rfl
def wQ(h:l.length<=i):l8 l i=0:=by unfold l8;rw[dE,dp h];rfl
def aac{c x y:Nat}(hc:c<=1)(hx:x<WB)(hy:y<WB):u64.wrap (u64.wrap ((c:Int)+u64.wrap (x:Int))+u64.wrap (y:Int))=((c+(x+y):Nat):Int):=by
 unfold WB at *
 simp only[IntKind.wrap,IntKind.signed,IntKind.bits,dN,dB,en];omega
def aad{c x:Nat}(hc:c<=1)(hx:x<WB):u64.wrap ((c:Int)+u64.wrap (x:Int))=((c+(x+0):Nat):Int):=by
 unfold WB at *
 simp only[IntKind.wrap,IntKind.signed,IntKind.bits,dN,dB,en];omega
variable{xs ys:List Nat}
def SG(h1:okW xs)(h2:okW ys)(hl:ys.length<=xs.length):val xs+val ys<WB^(xs.length+1):=by have a:=lP h1;have b:=lP h2;have c:WB^ys.length<=WB^xs.length:=cf af hl;rw[cW];have:WB^xs.length*2<=WB^xs.length*WB:=ch _ af;omega
variable{X Y:Nat}
def aho(hX:(iF X).length<=100000)(hY:(iF Y).length<=100000):ak 116 [av (iG (iF X)),av (iG (iF Y))] (av (iG (iF (X+Y)))):=by
 have E7:=ji X;have Q6:=ji Y;have zd:=jm X;have Kg:=jm Y;have hpx:=iK (iF X);have hpy:=iK (iF Y);generalize iF X=xs0 at *
 generalize iF Y=ys0 at *
 refine' eN func116;(repeat first|refine' wa|refine xU [1] rfl ?_);refine AA (S:=List Nat×List Nat) (λs=>iL [(0,av (iG s.1)),(1,av (iG s.2))]) (λ_=>⟨[],[],[]⟩) (λs=>s.2.length<=s.1.length∧okW s.1∧okW s.2∧val s.1+val s.2=X+Y∧s.1.length<=100000) ?_ ?_
 ·(try refine' uN);refine' sQ<;>intro h
  ·have hl:xs0.length<ys0.length:=by have:=aU h;omega
   clear h;(try refine' uN);exact⟨(ys0,xs0),⟨by dsimp only;omega,Q6,E7,by dsimp only;omega,hY⟩,iE.le ⟨.inl rfl,.inl rfl,trivial⟩,aJ⟩
  ·have hl:ys0.length<=xs0.length:=by have:=aX h;omega
   clear h;(try refine' uN);exact⟨(xs0,ys0),⟨by dsimp only;omega,E7,Q6,by dsimp only;omega,hX⟩,iE.le ⟨.inl rfl,.inl rfl,trivial⟩,aJ⟩
 rintro⟨xs,ys⟩ ⟨hl,h1,h2,hv,hm⟩;dsimp only at hl h1 h2 hv hm;clear hX hY E7 Q6 zd Kg hpx hpy;have hpx:=iK xs;have hpy:=iK ys;have iI:=SG h1 h2 hl;have lC:i64.wrap (((iG xs).length:Int)+1)=((xs.length+1:Nat):Int):=by rw[jD ab];omega
 have Wi:=VG xs ys;rw[hv]at iI;simp only[hv]at Wi;(repeat first|refine' uN|refine oQ (zt (n:=xs.length+1) rfl rfl rfl lC lC (EL rfl) ab) ?_);refine jf (S:=Nat) (λi=>iL [(0,av (iG xs)),(1,av (iG ys)),(5,.vw 0 0 0 (xs.length+1) (xs.length+1)),(6,ar (AW xs ys i)),(7,aq i)]) (λi=>⟨[],[],[AR 0 (nE (xs.length+1) (X+Y) i)]⟩) (λi=>i<=xs.length) (λi=>xs.length-i) 0 (bm _)
  (iE.le (aB ⟨.inl ?_,an⟩)) (kW.of_eq (by rw[IG];rfl)) (λi hi=>?_)
 exact aT (λn:Nat=>ar (n:Int)) (show(0:Nat)=AW xs ys 0 by simp[AW,ql,mQ]);have mM:=acs h1 h2 i;have kR:=VF xs ys i;have hd:=Wi i;(try refine' uN);refine' sQ<;>intro h
 ·have qC:i<xs.length:=by have:=aU h;omega
  have nk:xs[i]?=some (xs[i]'qC):=aS qC;generalize xs[i]'qC=x at nk;have y7:(iG xs)[(i:Int).toNat]?=some (wG x):=iT nk;have hx:=h1.at nk;rw[wP nk]at kR hd;have MZ:=y9 (n:=xs.length+1) (V:=X+Y) (i:=i) ab;have lG:=Fb (n:=xs.length+1) (V:=X+Y) (i:=i) ab;have wE:(iG (nE (xs.length+1) (X+Y) i))[0+i]?=some (wG ((nE (xs.length+1) (X+Y) i)[i]'(by omega))):=iT (by rw[bc];exact aS _);generalize(nE (xs.length+1) (X+Y) i)[i]'(by omega)=z at wE;clear h;(repeat first|refine' uN|refine oQ (jA (q:=aI y7)) ?_);refine' sQ<;>intro h
  ·have Fc:i<ys.length:=by have:=aU h;omega
   have pF:ys[i]?=some (ys[i]'Fc):=aS Fc;generalize ys[i]'Fc=y at pF;have D8:(iG ys)[(i:Int).toNat]?=some (wG y):=iT pF;have hy:=h2.at pF;rw[wP pF]at kR hd;have uT:=aac mM hx hy;clear h;(repeat first|refine' uN|refine oQ (jA (q:=aI D8)) ?_|refine oQ (jV i) ?_|refine oQ (jS (q:=aI wE)) ?_|refine oQ jH ?_);exact⟨i+1,qC,by omega,iE.le (aB ⟨.inl (aT ar (by rw[uT,kR];exact sU (s:=32) af)),.inl (aT aq (jD ab)),trivial⟩),
    kW.of_eq (aT (λl=>(⟨[],[],[MO.arr 0 IF l]⟩:PH)) (show(iG (nE (xs.length+1) (X+Y) i)).set (0+i) (GV.int .u32 (u32.wrap (u64.wrap (u64.wrap ((AW xs ys i:Int)+u64.wrap (x:Int))+u64.wrap (y:Int)))))=iG (nE (xs.length+1) (X+Y) (i+1))from by rw[bc,uT,mr,<-hd,<-lG];exact jo))⟩
  ·have Fc:ys.length<=i:=by have:=aX h;omega
   rw[wQ Fc]at kR hd;have uT:=aad mM hx;clear h;(repeat first|refine' uN|refine oQ (jV i) ?_|refine oQ (jS (q:=aI wE)) ?_|refine oQ jH ?_);exact⟨i+1,qC,by omega,iE.le (aB ⟨.inl (aT ar (by rw[uT,kR];exact sU (s:=32) af)),.inl (aT aq (jD ab)),trivial⟩),
    kW.of_eq (aT (λl=>(⟨[],[],[MO.arr 0 IF l]⟩:PH)) (show(iG (nE (xs.length+1) (X+Y) i)).set (0+i) (GV.int .u32 (u32.wrap (u64.wrap ((AW xs ys i:Int)+u64.wrap (x:Int)))))=iG (nE (xs.length+1) (X+Y) (i+1))from by rw[bc,uT,mr,<-hd,<-lG];exact jo))⟩
 ·have lk:i=xs.length:=by have:=aX h;omega
  subst lk;rw[wQ (aZ _),wQ hl,b9]at hd;have MZ:=y9 (n:=xs.length+1) (V:=X+Y) (i:=xs.length) ab;have lG:=Fb (n:=xs.length+1) (V:=X+Y) (i:=xs.length) ab;rw[LM]at lG;have wE:(iG (nE (xs.length+1) (X+Y) xs.length))[0+xs.length]?=some (wG ((nE (xs.length+1) (X+Y) xs.length)[xs.length]'(by omega))):=iT (by rw[bc];exact aS _);generalize(nE (xs.length+1) (X+Y) xs.length)[xs.length]'(by omega)=z at wE;have ht:=vY (lJ (xs.length+1) (X+Y)) (by rw[iN];unfold maxLen;omega);rw[lH iI]at ht;have hix:((iG xs).length:Int)=((xs.length:Nat):Int):=ab
  clear h;(repeat first|refine' wa|refine oQ (jV xs.length (z:=by exact hix)) ?_|refine oQ (jS (q:=aI wE)) ?_|refine xU [14] rfl ?_);refine jP 0 rfl (ja (env':=iL [(5,av (iG (iQ (xs.length+1) (X+Y))))]) (H':=⟨[],[],[.gone (0+1)]⟩) (iE.le ⟨.inl ?_,trivial⟩) aJ ?_)
  ·refine aT av ?_;have e1:(iG (nE (xs.length+1) (X+Y) xs.length)).set (0+xs.length) (GV.int .u32 (u32.wrap (AW xs ys xs.length:Int)))=iG (iQ (xs.length+1) (X+Y)):=by
    rw[bc,mr,<-hd,<-lG];exact jo
   exact(aT (λl=>(l.drop 0).take (xs.length+1)) e1).trans (tE (by rw[iK,iN]))
  (try refine' wk @ht);refine' rT;rfl
def PK{c x y:Nat}(hc:c<=1)(hx:x<WB)(hy:y<WB):∃d:Nat,u64.wrap (u64.wrap (u64.wrap (x:Int)-(c:Int))-u64.wrap (y:Int))=(d:Int)∧d%WB=(x+WB-y-c)%WB∧d/2^63=if x<y+c then 1 else 0:=by
 unfold WB at *
 by_cases h:x<y+c;refine⟨18446744073709551616+x-y-c,?_,by omega,by rw[aW h];omega⟩;simp only[IntKind.wrap,IntKind.signed,IntKind.bits,dN,dB,en];omega;refine⟨x-y-c,?_,by omega,by rw[aV h];omega⟩;simp only[IntKind.wrap,IntKind.signed,IntKind.bits,dN,dB,en];omega
def aae{c x:Nat}(hc:c<=1)(hx:x<WB):∃d:Nat,u64.wrap (u64.wrap (x:Int)-(c:Int))=(d:Int)∧d%WB=(x+WB-0-c)%WB∧d/2^63=if x<0+c then 1 else 0:=by
 obtain⟨d,h1,h2⟩:=PK (y:=0) hc hx af;refine⟨d,?_,h2⟩;rw[<-h1];unfold WB at *
 simp only[IntKind.wrap,IntKind.signed,IntKind.bits,dN,dB,en];omega
def YF(hX:(iF X).length<=100000)(hY:(iF Y).length<=100000)(hle:Y<=X):ak 117 [av (iG (iF X)),av (iG (iF Y))] (av (iG (iF (X-Y)))):=by
 have h1:=ji X;have h2:=ji Y;have zd:=jm X;have Kg:=jm Y;have hpx:=iK (iF X);have hpy:=iK (iF Y);have iI:=lP h1;rw[zd]at iI;generalize iF X=xs at *
 generalize iF Y=ys at *
 have Wi:=Sp h1 h2 ab;simp only[zd,Kg]at Wi;have hbs:=VH h1 h2;have lC:((iG xs).length:Int)=((xs.length:Nat):Int):=ab
 refine' eN func117;(repeat first|refine' uN|refine oQ (zt (n:=xs.length) rfl rfl rfl lC lC (EL rfl) ab) ?_);refine jf (S:=Nat) (λi=>iL [(0,av (iG xs)),(1,av (iG ys)),(5,.vw 0 0 0 xs.length xs.length),(6,ar (zC xs ys i)),(7,aq i)]) (λi=>⟨[],[],[AR 0 (nE xs.length (X-Y) i)]⟩) (λi=>i<=xs.length) (λi=>xs.length-i) 0 (bm _)
  (iE.le (aB ⟨.inl ?_,an⟩)) (kW.of_eq (by rw[IG];rfl)) (λi hi=>?_)
 exact aT (λn:Nat=>ar (n:Int)) (show(0:Nat)=zC xs ys 0 by simp[zC,ql,mQ]);have mM:=T8 xs ys i;have kR:=hbs i;have hd:=Wi i;(try refine' uN);refine' sQ<;>intro h
 ·have qC:i<xs.length:=by have:=aU h;omega
  have nk:xs[i]?=some (xs[i]'qC):=aS qC;generalize xs[i]'qC=x at nk;have y7:(iG xs)[(i:Int).toNat]?=some (wG x):=iT nk;have hx:=h1.at nk;rw[wP nk]at kR hd;have MZ:=y9 (n:=xs.length) (V:=X-Y) (i:=i) ab;have lG:=Fb (n:=xs.length) (V:=X-Y) (i:=i) ab;have wE:(iG (nE xs.length (X-Y) i))[0+i]?=some (wG ((nE xs.length (X-Y) i)[i]'(by omega))):=iT (by rw[bc];exact aS _);generalize(nE xs.length (X-Y) i)[i]'(by omega)=z at wE;clear h;(repeat first|refine' uN|refine oQ (jA (q:=aI y7)) ?_);refine' sQ<;>intro h
  ·have Fc:i<ys.length:=by have:=aU h;omega
   have pF:ys[i]?=some (ys[i]'Fc):=aS Fc;generalize ys[i]'Fc=y at pF;have D8:(iG ys)[(i:Int).toNat]?=some (wG y):=iT pF;have hy:=h2.at pF;rw[wP pF]at kR hd;obtain⟨d,uT,vS,M1⟩:=PK mM hx hy;clear h;(repeat first|refine' uN|refine oQ (jA (q:=aI D8)) ?_|refine oQ (jV i) ?_|refine oQ (jS (q:=aI wE)) ?_|refine oQ jH ?_);exact⟨i+1,qC,by omega,iE.le (aB ⟨.inl (aT ar (by rw[uT,kR,<-M1];exact sU (s:=63) af)),.inl (aT aq (jD ab)),trivial⟩),
    kW.of_eq (aT (λl=>(⟨[],[],[MO.arr 0 IF l]⟩:PH)) (show(iG (nE xs.length (X-Y) i)).set (0+i) (GV.int .u32 (u32.wrap (u64.wrap (u64.wrap (u64.wrap (x:Int)-(zC xs ys i:Int))-u64.wrap (y:Int)))))=iG (nE xs.length (X-Y) (i+1))from by rw[bc,uT,mr,vS,<-hd,<-lG];exact jo))⟩
  ·have Fc:ys.length<=i:=by have:=aX h;omega
   rw[wQ Fc]at kR hd;obtain⟨d,uT,vS,M1⟩:=aae mM hx;clear h;(repeat first|refine' uN|refine oQ (jV i) ?_|refine oQ (jS (q:=aI wE)) ?_|refine oQ jH ?_);exact⟨i+1,qC,by omega,iE.le (aB ⟨.inl (aT ar (by rw[uT,kR,<-M1];exact sU (s:=63) af)),.inl (aT aq (jD ab)),trivial⟩),
    kW.of_eq (aT (λl=>(⟨[],[],[MO.arr 0 IF l]⟩:PH)) (show(iG (nE xs.length (X-Y) i)).set (0+i) (GV.int .u32 (u32.wrap (u64.wrap (u64.wrap (x:Int)-(zC xs ys i:Int)))))=iG (nE xs.length (X-Y) (i+1))from by rw[bc,uT,mr,vS,<-hd,<-lG];exact jo))⟩
 ·have lk:i=xs.length:=by have:=aX h;omega
  subst lk;rw[LM];have ht:=vY (lJ xs.length (X-Y)) (by rw[iN];unfold maxLen;omega);rw[lH ab]at ht;clear h;refine jP 0 rfl (ja (env':=iL [(5,av (iG (iQ xs.length (X-Y))))]) (H':=⟨[],[],[.gone (0+1)]⟩) (iE.le ⟨.inl ?_,trivial⟩) aJ ?_);exact aT av (tE (by rw[iK,iN]));(try refine' wk @ht);refine' rT;rfl
def sg(p:Bool)(X:Nat):Int:=if p then -(X:Int)else(X:Int)
def xr(x:Int):sg (decide (x<0)) x.natAbs=x:=by unfold sg;by_cases h:x<0;rw[bU h,aW rfl];omega;rw[bA h,aV af];omega
def LN(x:Int):sg (!decide (x<0)) x.natAbs= -x:=by unfold sg;by_cases h:x<0;rw[bU h,aV af];omega;rw[bA h,aW af];omega
def Dn(p q:Bool)(X Y:Nat):Bool:=if p=q then p else if Y<=X then p else q
def GI(p q:Bool)(X Y:Nat):Nat:=if p=q then X+Y else if Y<=X then X-Y else Y-X
def v7(p q:Bool)(X Y:Nat):GI p q X Y=(sg p X+sg q Y).natAbs:=by unfold GI sg;cases p<;>cases q<;>simp<;>(try split)<;>omega
def sum_neg(p q:Bool)(X Y:Nat):(Dn p q X Y&&decide (0<(iF (GI p q X Y)).length))=decide (sg p X+sg q Y<0):=by
 have h0:∀n:Nat,decide (0<(iF n).length)=decide (n≠0):=λn=>by by_cases h:n=0;subst h;rw[jg];rfl;rw[ml h];simp[h]
 rw[h0];rw[gG,bI,cX,cX];unfold Dn GI sg;cases p<;>cases q<;>by_cases h:Y<=X<;>simp only[h,gF,en,reduceCtorEq,dB,false_and,true_and,false_iff]<;>omega
variable{p:Bool}
def LP{q:Bool}(hX:(iF X).length<=100000)(hY:(iF Y).length<=100000):ak 79 [ax p,av (iG (iF X)),ax q,av (iG (iF Y))] (.tuple [ax (Dn p q X Y),av (iG (iF (GI p q X Y)))]):=by
 have ha:=aho hX hY;have hc:=rK hX hY;unfold Dn GI;by_cases h:p=q
 ·subst h;rw[aW rfl,aW rfl];generalize iF X=xs at *
  generalize iF Y=ys,iF (X+Y)=zs at *
  cases p;all_goals
   refine' eN func79
   (try refine' wk @ha)
   refine' rE
   all_goals rfl
 ·rw[aV h,aV h];by_cases hle:Y<=X
  ·rw[aW hle,aW hle];have hs:=YF hX hY hle;have hr:0<=oz X Y:=(by unfold oz;split<;>(try split)<;>omega);generalize oz X Y=r at *
   generalize iF X=xs,iF Y=ys,iF (X-Y)=zs at *
   cases p<;>cases q<;>(try(exact absurd rfl h));all_goals
    refine' eN func79
    (repeat' first|refine' wl @hc @hs|refine' sN<;>intro h|fail)
    all_goals(first|(exfalso;have hh:=aX h;omega)|(exfalso;have hh:=aU h;omega)|(refine' rE;all_goals rfl))
  ·rw[aV hle,aV hle];have hs:=YF hY hX ab;have hr:oz X Y<0:=(by unfold oz;split<;>(try split)<;>omega);generalize oz X Y=r at *
   generalize iF X=xs,iF Y=ys,iF (Y-X)=zs at *
   cases p<;>cases q<;>(try(exact absurd rfl h));all_goals
    refine' eN func79
    (repeat' first|refine' wl @hc @hs|refine' sN<;>intro h|fail)
    all_goals(first|(exfalso;have hh:=aX h;omega)|(exfalso;have hh:=aU h;omega)|(refine' rE;all_goals rfl))
variable{y:Int}
def Wj{x:Int}(hX:(iF x.natAbs).length<=100000)(hY:(iF y.natAbs).length<=100000):al 54 [.ptr 0 0,.ptr 1 0,.ptr 2 0] ⟨[[ax false,.iM],jn x,jn y],[],[]⟩ (.ptr 0 0) ⟨[jn (x+y),jn x,jn y],[],[]⟩:=by
 have hs:=LP (p:=decide (x<0)) (q:=decide (y<0)) hX hY;have hg:=mR (p:= ax false) (q:=.iM) (neg:=Dn (decide (x<0)) (decide (y<0)) x.natAbs y.natAbs) (l:=iF (GI (decide (x<0)) (decide (y<0)) x.natAbs y.natAbs));rw[sum_neg,v7,xr,xr]at hg;rw[v7,xr,xr]at hs;unfold jn;generalize Dn (decide (x<0)) (decide (y<0)) x.natAbs y.natAbs=b at *
 generalize iF (x+y).natAbs=zs,decide (x+y<0)=zb at *
 clear hX hY;generalize iF x.natAbs=xs at *
 generalize iF y.natAbs=ys,decide (x<0)=xb,decide (y<0)=yb at *
 refine' eN func54;(repeat first|refine' wc|(refine' oX;(first|exact iV hs|exact cD [] hg);exact kq)|refine' xW [1,2]);refine' rB;all_goals rfl
def Wk{x:Int}(hX:(iF x.natAbs).length<=100000)(hY:(iF y.natAbs).length<=100000):al 51 [.ptr 0 0,.ptr 1 0,.ptr 2 0] ⟨[[ax false,.iM],jn x,jn y],[],[]⟩ (.ptr 0 0) ⟨[jn (x-y),jn x,jn y],[],[]⟩:=by
 have hs:=LP (p:=decide (x<0)) (q:= !decide (y<0)) hX hY;have hg:=mR (p:= ax false) (q:=.iM) (neg:=Dn (decide (x<0)) (!decide (y<0)) x.natAbs y.natAbs) (l:=iF (GI (decide (x<0)) (!decide (y<0)) x.natAbs y.natAbs));rw[sum_neg,v7,xr,LN,<-gW]at hg;rw[v7,xr,LN,<-gW]at hs;unfold jn;generalize Dn (decide (x<0)) (!decide (y<0)) x.natAbs y.natAbs=b at *
 generalize iF (x-y).natAbs=zs,decide (x-y<0)=zb at *
 clear hX hY;generalize iF x.natAbs=xs at *
 generalize iF y.natAbs=ys,decide (x<0)=xb,decide (y<0)=yb at *
 refine' eN func51;(repeat first|refine' wc|(refine' oX;(first|exact iV hs|exact cD [] hg);exact kq)|refine' xW [1,2]);refine' rB;all_goals rfl
def CS(x:Int)(y:Nat):(x.tdiv (y:Int)).natAbs=x.natAbs/y:=by rw[Int.natAbs_tdiv,bM];rfl
def yq(x:Int)(y:Nat):(x.tmod (y:Int)).natAbs=x.natAbs%y:=by rw[Int.natAbs_tmod,bM]
def Uy(n:Nat):decide (0<(iF n).length)=decide (n≠0):=by by_cases h:n=0;subst h;rw[jg];rfl;rw[ml h];simp[h]
def HN(x:Int)(y:Nat):((decide (x<0) !=false)&&decide (0<(iF (x.natAbs/y)).length))=decide (x.tdiv (y:Int)<0):=by rw[Uy,<-CS];by_cases h:x<0;obtain⟨n,rfl⟩:∃n:Nat,x= -(n:Int):=⟨x.natAbs,by omega⟩;rw[bU h,Int.neg_tdiv,<-il];generalize n/y=q;by_cases hq:q=0;subst hq;rfl;simp[hq];omega;obtain⟨n,rfl⟩:=Int.eq_ofNat_of_zero_le (show 0<=x by omega);rw[bA h,<-il];generalize n/y=q;rw[bA (show ¬((q:Nat):Int)<0 by omega)];rfl
def HO(x:Int)(y:Nat):(decide (x<0)&&decide (0<(iF (x.natAbs%y)).length))=decide (x.tmod (y:Int)<0):=by rw[Uy,<-yq];by_cases h:x<0;obtain⟨n,rfl⟩:∃n:Nat,x= -(n:Int):=⟨x.natAbs,by omega⟩;rw[bU h,Int.neg_tmod,<-gM];generalize n%y=q;by_cases hq:q=0;subst hq;rfl;simp[hq];omega;obtain⟨n,rfl⟩:=Int.eq_ofNat_of_zero_le (show 0<=x by omega);rw[bA h,<-gM];generalize n%y=q;rw[bA (show ¬((q:Nat):Int)<0 by omega)];rfl
def aaf{x:Int}{y:Nat}(h0:y≠0)(hy:y<WB*WB)(hX:(iF x.natAbs).length<=10000):al 114 [.ptr 0 0,.ptr 1 0,.ptr 2 0,.ptr 3 0] ⟨[[ax false,.iM],jn x,jn (y:Int),[ax false,.iM]],[],[]⟩ (.tuple [.ptr 0 0,.ptr 3 0]) ⟨[jn (x.tdiv (y:Int)),jn x,jn (y:Int),jn (x.tmod (y:Int))],[],[]⟩:=by
 have hd:=Bs h0 (.inl hy) hX (by have:=sd hy;rw[kL]at this;omega);have g1:=mR (p:= ax false) (q:=.iM) (neg:=(decide (x<0) !=false)) (l:=iF (x.natAbs/y));rw[HN]at g1;have g2:=mR (p:= ax false) (q:=.iM) (neg:=decide (x<0)) (l:=iF (x.natAbs%y));rw[HO]at g2;rw[oU];unfold jn;rw[CS,yq];clear hX hy h0;generalize decide (x.tdiv (y:Int)<0)=qb at *
 generalize decide (x.tmod (y:Int)<0)=rb at *
 generalize iF (x.natAbs/y)=qs,iF (x.natAbs%y)=rs,iF x.natAbs=xs,iF y=ys,decide (x<0)=xb at *
 refine' eN func114;(repeat first|refine' wc|(refine' oX;(first|exact iV hd|exact cD [] g1|exact cD [] g2);exact kq)|refine' xW [1,2]);refine' rB;all_goals rfl
variable{u:Bool}{m:List Nat}
def aag{x:Int}{y:Nat}(h0:y≠0)(hy:y<WB*WB)(hX:(iF x.natAbs).length<=10000):al 114 [.ptr 0 0,.ptr 1 0,.ptr 2 0,.ptr 3 0] ⟨[[ax false,.iM],[ax (decide (x<0)),av (iG (iF x.natAbs)),ax u,av (iG m)],jn (y:Int),[ax false,.iM]],[],[]⟩ (.tuple [.ptr 0 0,.ptr 3 0]) ⟨[jn (x.tdiv (y:Int)),[ax (decide (x<0)),av (iG (iF x.natAbs)),ax u,av (iG m)],jn (y:Int),jn (x.tmod (y:Int))],[],[]⟩:=by
 have hd:=Bs h0 (.inl hy) hX (by have:=sd hy;rw[kL]at this;omega);have g1:=mR (p:= ax false) (q:=.iM) (neg:=(decide (x<0) !=false)) (l:=iF (x.natAbs/y));rw[HN]at g1;have g2:=mR (p:= ax false) (q:=.iM) (neg:=decide (x<0)) (l:=iF (x.natAbs%y));rw[HO]at g2;rw[oU];unfold jn;rw[CS,yq];clear hX hy h0;generalize decide (x.tdiv (y:Int)<0)=qb at *
 generalize decide (x.tmod (y:Int)<0)=rb at *
 generalize iF (x.natAbs/y)=qs,iF (x.natAbs%y)=rs,iF x.natAbs=xs,iF y=ys,decide (x<0)=xb at *
 refine' eN func114;(repeat first|refine' wc|(refine' oX;(first|exact iV hd|exact cD [] g1|exact cD [] g2);exact kq)|refine' xW [1,2]);refine' rB;all_goals rfl
def aah{x:Int}{y:Nat}(h0:y≠0)(hy:y<WB*WB)(hX:(iF x.natAbs).length<=10000):al 114 [.ptr 0 0,.ptr 0 0,.ptr 1 0,.ptr 2 0] ⟨[jn x,jn (y:Int),[ax false,.iM]],[],[]⟩ (.tuple [.ptr 0 0,.ptr 2 0]) ⟨[jn (x.tdiv (y:Int)),jn (y:Int),jn (x.tmod (y:Int))],[],[]⟩:=by
 have hd:=Bs h0 (.inl hy) hX (by have:=sd hy;rw[kL]at this;omega);have g1:=mR (p:= ax (decide (x<0))) (q:= av (iG (iF x.natAbs))) (neg:=(decide (x<0) !=false)) (l:=iF (x.natAbs/y));rw[HN]at g1;have g2:=mR (p:= ax false) (q:=.iM) (neg:=decide (x<0)) (l:=iF (x.natAbs%y));rw[HO]at g2;rw[oU];unfold jn;rw[CS,yq];clear hX hy h0;generalize decide (x.tdiv (y:Int)<0)=qb at *
 generalize decide (x.tmod (y:Int)<0)=rb at *
 generalize iF (x.natAbs/y)=qs,iF (x.natAbs%y)=rs,iF x.natAbs=xs,iF y=ys,decide (x<0)=xb at *
 refine' eN func114;(repeat first|refine' wc|(refine' oX;(first|exact iV hd|exact cD [] g1|exact cD [] g2);exact kq)|refine' xW [0,1]);refine' rB;all_goals rfl
def Wl{x:Int}{y:Nat}(h0:y≠0)(hy:y<WB*WB)(hX:(iF x.natAbs).length<=10000):al 76 [.ptr 0 0,.ptr 0 0,.ptr 1 0] ⟨[jn x,jn (y:Int)],[],[]⟩ (.ptr 0 0) ⟨[jn (x.tdiv (y:Int)),jn (y:Int)],[],[]⟩:=by
 have h:=aah h0 hy hX;unfold jn at *
 clear hX hy h0;generalize iF (x.tdiv (y:Int)).natAbs=qs at *
 generalize iF (x.tmod (y:Int)).natAbs=rs at *
 generalize iF x.natAbs=xs at *
 generalize iF (y:Int).natAbs=ys at *
 generalize decide (x.tdiv (y:Int)<0)=qb at *
 generalize decide (x.tmod (y:Int)<0)=rb at *
 generalize decide (x<0)=xb at *
 generalize decide ((y:Int)<0)=yb at *
 refine' eN func76;(try refine' we @h);refine' rB;all_goals rfl
def aai{x:Int}(hX:(iF x.natAbs).length<=100000)(hY:(iF y.natAbs).length<=100000):al 54 [.ptr 0 0,.ptr 0 0,.ptr 1 0] ⟨[jn x,jn y],[],[]⟩ (.ptr 0 0) ⟨[jn (x+y),jn y],[],[]⟩:=by
 have hs:=LP (p:=decide (x<0)) (q:=decide (y<0)) hX hY;have hg:=mR (p:= ax (decide (x<0))) (q:= av (iG (iF x.natAbs))) (neg:=Dn (decide (x<0)) (decide (y<0)) x.natAbs y.natAbs) (l:=iF (GI (decide (x<0)) (decide (y<0)) x.natAbs y.natAbs));rw[sum_neg,v7,xr,xr]at hg;rw[v7,xr,xr]at hs;unfold jn;generalize Dn (decide (x<0)) (decide (y<0)) x.natAbs y.natAbs=b at *
 generalize iF (x+y).natAbs=zs,decide (x+y<0)=zb at *
 clear hX hY;generalize iF x.natAbs=xs at *
 generalize iF y.natAbs=ys,decide (x<0)=xb,decide (y<0)=yb at *
 refine' eN func54;(repeat first|refine' wc|(apply dR rfl rfl;focus(first|exact Qz (cd [] rfl rfl (EN rfl) (hg) rfl rfl rfl rfl rfl rfl rfl rfl rfl rfl rfl)))|(refine' oX;exact iV hs;exact kq)|refine' xW [0,1,35027]);refine' rB;all_goals rfl
def aaj{x:Int}(hX:(iF x.natAbs).length<=100000)(hY:(iF y.natAbs).length<=100000):al 51 [.ptr 0 0,.ptr 0 0,.ptr 1 0] ⟨[jn x,jn y],[],[]⟩ (.ptr 0 0) ⟨[jn (x-y),jn y],[],[]⟩:=by
 have hs:=LP (p:=decide (x<0)) (q:= !decide (y<0)) hX hY;have hg:=mR (p:= ax (decide (x<0))) (q:= av (iG (iF x.natAbs))) (neg:=Dn (decide (x<0)) (!decide (y<0)) x.natAbs y.natAbs) (l:=iF (GI (decide (x<0)) (!decide (y<0)) x.natAbs y.natAbs));rw[sum_neg,v7,xr,LN,<-gW]at hg;rw[v7,xr,LN,<-gW]at hs;unfold jn;generalize Dn (decide (x<0)) (!decide (y<0)) x.natAbs y.natAbs=b at *
 generalize iF (x-y).natAbs=zs,decide (x-y<0)=zb at *
 clear hX hY;generalize iF x.natAbs=xs at *
 generalize iF y.natAbs=ys,decide (x<0)=xb,decide (y<0)=yb at *
 refine' eN func51;(repeat first|refine' wc|(apply dR rfl rfl;focus(first|exact Qz (cd [] rfl rfl (EN rfl) (hg) rfl rfl rfl rfl rfl rfl rfl rfl rfl rfl rfl)))|(refine' oX;exact iV hs;exact kq)|refine' xW [0,1,35028]);refine' rB;all_goals rfl
def Wm{x:Int}{y:Nat}(hy:0<y)(h:x.tmod (y:Int)<0):x/(y:Int)=x.tdiv (y:Int)-1∧x%(y:Int)=x.tmod (y:Int)+(y:Int):=by have h1:=Int.mul_tdiv_add_tmod x (y:Int);have h2:=yq x y;have h3:=bL x.natAbs hy;refine(Int.ediv_emod_unique (show(0:Int)<(y:Int) by omega)).2 ⟨?_,by omega,by omega⟩;rw[Int.mul_sub,Int.mul_one];omega
def Wn{x:Int}{y:Nat}(hy:0<y)(h:¬x.tmod (y:Int)<0):x/(y:Int)=x.tdiv (y:Int)∧x%(y:Int)=x.tmod (y:Int):=by have h1:=Int.mul_tdiv_add_tmod x (y:Int);have h2:=yq x y;have h3:=bL x.natAbs hy;exact(Int.ediv_emod_unique (show(0:Int)<(y:Int) by omega)).2 ⟨by omega,by omega,by omega⟩
def GJ{x:Int}{N:Nat}(h:x.natAbs<WB^N)(hN:N<=100000):(iF x.natAbs).length<=100000:=b8 (iU h) hN
def aak{x:Int}{y:Nat}(h0:y≠0)(hy:y<WB*WB)(hX:x.natAbs<WB^100):al 113 [.ptr 0 0,.ptr 1 0,.ptr 2 0,.ptr 3 0] ⟨[[ax false,.iM],jn x,jn (y:Int),[ax false,.iM]],[],[]⟩ (.tuple [.ptr 0 0,.ptr 3 0]) ⟨[jn (x/(y:Int)),jn x,jn (y:Int),jn (x%(y:Int))],[],[]⟩:=by
 have BX:(iF x.natAbs).length<=10000:=b8 (iU hX) af;have hly:(iF y).length<=2:=by have:=sd hy;rwa[kL]at this
 have hq:=aaf h0 hy BX;have hs:=Ea (x:=(y:Int)) (by rw[bM];omega);have jX:0<y:=ab
 have hqa:=CS x y;have hra:=yq x y;have vd:(x.tdiv (y:Int)).natAbs<WB^100:=by rw[hqa];exact bO (dY _ _) hX
 have Jt:(x.tmod (y:Int)).natAbs<WB^100:=by rw[hra];exact bO (Nat.mod_le _ _) hX
 have n1:=tq (z:=1) af;rw[oU]at hq hs⊢;by_cases Dm:x.tmod (y:Int)<0
 ·obtain⟨e1,e2⟩:=Wm jX Dm;have ha:=aai (x:=x.tmod (y:Int)) (y:=(y:Int)) (GJ Jt af) (by rw[bM];omega);have hb:=aaj (x:=x.tdiv (y:Int)) (y:=((1:Nat):Int)) (GJ vd af) (GJ (x:=((1:Nat):Int)) (N:=1) af af);rw[oU,<-e2]at ha;rw[show x.tdiv (y:Int)-((1:Nat):Int)=x/(y:Int)from e1.symm]at hb;unfold jn at *
  clear BX hly hqa hra vd Jt e1 e2 hX h0 hy jX;rw[bU Dm]at hq ha;generalize iF (x.tdiv (y:Int)).natAbs=qs at *
  generalize iF (x.tmod (y:Int)).natAbs=rs at *
  generalize iF (x/(y:Int)).natAbs=fs at *
  generalize iF (x%(y:Int)).natAbs=ms at *
  generalize iF x.natAbs=xs,iF y=ys at *
  generalize iF ((1:Nat):Int).natAbs=os at *
  generalize decide (x.tdiv (y:Int)<0)=qb at *
  generalize decide (x/(y:Int)<0)=fb at *
  generalize decide (x%(y:Int)<0)=mb at *
  generalize decide (x<0)=xb at *
  generalize decide (((1:Nat):Int)<0)=ob at *
  refine' eN func113;(repeat first|refine' uN|refine oQ (cB [] hs) ?_|refine oQ (cD [] hq) ?_|refine oQ (cB [] n1) ?_|refine oQ (cD [] hb) ?_|refine oQ (cD [] ha) ?_);refine' rP;all_goals rfl
 ·obtain⟨e1,e2⟩:=Wn jX Dm;rw[e1,e2];unfold jn at *
  clear BX hly hqa hra vd Jt e1 e2 hX h0 hy jX;rw[bA Dm]at hq⊢;generalize iF (x.tdiv (y:Int)).natAbs=qs at *
  generalize iF (x.tmod (y:Int)).natAbs=rs at *
  generalize iF x.natAbs=xs,iF y=ys at *
  generalize decide (x.tdiv (y:Int)<0)=qb at *
  generalize decide (x<0)=xb at *
  refine' eN func113;(try refine' wf @hs @hq);refine' rP;all_goals rfl
def aal{x:Int}(hX:(iF x.natAbs).length<=10000):al 113 [.ptr 0 0,.ptr 1 0,.ptr 2 0,.ptr 3 0] ⟨[[ax false,.iM],jO x 1,[ax false,av (iG (iF 1))],[ax false,.iM]],[],[]⟩ (.tuple [.ptr 0 0,.ptr 3 0]) ⟨[jn x,jO x 1,[ax false,av (iG (iF 1))],[ax false,av (iG (iF 0))]],[],[]⟩:=by
 have hq:=aag (x:=x) (y:=1) (u:=false) (m:=iF 1) af af hX;have hs:=Ea (x:=((1:Nat):Int)) (b8 (GJ (x:=((1:Nat):Int)) (N:=1) af af) af);rw[oU]at hq hs;rw[show x.tdiv ((1:Nat):Int)=x from Int.tdiv_one x,show x.tmod ((1:Nat):Int)=0 from Int.tmod_one x]at hq;have hz:jn 0=[ax false,av (iG (iF 0))]:=rfl;rw[hz]at hq;unfold jO at *
 unfold jn at *
 clear hX hz;generalize iF x.natAbs=xs at *
 generalize iF 1=os,iF 0=zs,decide (x<0)=xb at *
 refine' eN func113;(try refine' wf @hs @hq);refine' rP;all_goals rfl
def LQ{x:Int}{y:Nat}(h0:y≠0)(hy:y<WB*WB)(hX:x.natAbs<WB^100):al 75 [.ptr 0 0,.ptr 1 0,.ptr 2 0] ⟨[[ax false,.iM],jn x,jn (y:Int)],[],[]⟩ (.ptr 0 0) ⟨[jn (x%(y:Int)),jn x,jn (y:Int)],[],[]⟩:=by
 have h:=aak h0 hy hX;unfold jn at *
 clear hX hy h0;generalize iF (x/(y:Int)).natAbs=qs at *
 generalize iF (x%(y:Int)).natAbs=rs at *
 generalize iF x.natAbs=xs at *
 generalize iF (y:Int).natAbs=ys at *
 generalize decide (x/(y:Int)<0)=qb at *
 generalize decide (x%(y:Int)<0)=rb at *
 generalize decide (x<0)=xb at *
 generalize decide ((y:Int)<0)=yb at *
 refine' eN func75;(try refine' we @h);refine' rB;all_goals rfl
def Og(x:Int):Int:=if x=0 then 0 else if x<0 then -1 else 1
def Fe(x:Int):(Og x=0)↔x=0:=by unfold Og;by_cases h:x=0;rw[aW h];simp[h];rw[aV h];by_cases h2:x<0;rw[aW h2];simp[h];rw[aV h2];simp[h]
def Uz(x:Int):al 74 [.ptr 0 0] ⟨[jn x],[],[]⟩ (aq (Og x)) ⟨[jn x],[],[]⟩:=by
 unfold Og jn;by_cases h0:x=0
 ·subst h0;rw[aW rfl];have hz:iF (0:Int).natAbs=[]:=jg;rw[hz];refine' eN func74;(try refine' uN);refine' rB;all_goals rfl
 ·rw[aV h0];have hp:=jl (X:=x.natAbs) ab;generalize iG (iF x.natAbs)=xs at *
  have js:(((xs.length:Nat):Int)==0)=false:=bk.2 ab;by_cases h:x<0
  ·rw[aW h,bU h];refine' eN func74;(repeat' first|refine' uN|refine' sN<;>intro h|fail);all_goals(first|(exfalso;simp_all;done)|(refine' rB;all_goals rfl))
  ·rw[aV h,bA h];refine' eN func74;(repeat' first|refine' uN|refine' sN<;>intro h|fail);all_goals(first|(exfalso;simp_all;done)|(refine' rB;all_goals rfl))
def Wo{x:Int}(hX:(iF x.natAbs).length<=100000)(hY:(iF y.natAbs).length<=100000):al 73 [.ptr 0 0,.ptr 1 0] ⟨[jn x,jn y],[],[]⟩ (aq (oz x.natAbs y.natAbs)) ⟨[jn x,jn y],[],[]⟩:=by
 have hc:=rK hX hY;unfold jn;clear hX hY;generalize oz x.natAbs y.natAbs=r at *
 generalize iF x.natAbs=xs,iF y.natAbs=ys,decide (x<0)=xb,decide (y<0)=yb at *
 refine' eN func73;(repeat first|refine' wc|(refine' oX;exact iV hc;exact kq)|refine' xW [0,1]);refine' rB;all_goals rfl
def Wp(hX:X<WB*WB):al 115 [.ptr 0 0] ⟨[[ax p,av (iG (iF X))]],[],[]⟩ (ar X) ⟨[[ax p,av (iG (iF X))]],[],[]⟩:=by
 by_cases h0:X=0
 ·subst h0;rw[jg];refine' eN func115;(try refine' uN);refine' rB;all_goals rfl
 ·by_cases h1:X<WB
  ·rw[jC h0 h1];have hw:=kC (n:=X) aK;refine' eN func115;(repeat first|refine' uN|refine oQ (jB (g:=wG X)) ?_);refine' rB;exact aT ar hw;all_goals rfl
  ·have hq:X/WB≠0:=by
    have:=(fa (show 0<WB by decide)).2 (show 1*WB<=X by omega);omega
   have vd:X/WB<WB:=(bK af).2 hX;rw[ml h0,jC hq vd];have hr:X%WB<WB:=bL _ af;have hx:=cT X WB;have ho:=RH hr vd;rw[hx]at ho;have w1:=kC (n:=X%WB) aK;have w2:=kC (n:=X/WB) aK;generalize X%WB=a at *
   generalize X/WB=b at *
   refine' eN func115;(repeat first|refine' uN|refine oQ (jB (g:=wG a)) ?_|refine oQ (jB (g:=wG b)) ?_|refine oQ jG ?_);refine' rB;rw[w1,w2];exact aT ar ho;all_goals rfl
def aam{x:Int}(h1: -999999999999999999<=x)(h2:x<=999999999999999999):al 77 [.ptr 0 0] ⟨[jn x],[],[]⟩ (aq x) ⟨[jn x],[],[]⟩:=by
 have hu:=Wp (X:=x.natAbs) (p:=decide (x<0)) aL;have hw:i64.wrap ((x.natAbs:Nat):Int)=((x.natAbs:Nat):Int):=jD ab;unfold jn;by_cases h:x<0
 ·have hr:i64.wrap (0-i64.wrap ((x.natAbs:Nat):Int))=x:=by rw[hw,jD ab];omega
  rw[bU h]at *
  generalize iF x.natAbs=xs at *
  refine' eN func77;(try refine' we @hu);refine' rB;exact aT aq hr;all_goals rfl
 ·have hr:i64.wrap ((x.natAbs:Nat):Int)=x:=by rw[hw];omega
  rw[bA h]at *
  generalize iF x.natAbs=xs at *
  refine' eN func77;(try refine' we @hu);refine' rB;exact aT aq hr;all_goals rfl
def xu(x:Int)(y:Nat):jO (qI x (gI x y)) (y/gI x y)=jO (pg x y) (oO x y):=rfl
def CT(n:Nat):decide ((n:Int)<0)=false:=bA ab
variable{w:Bool}{n zs:List Nat}
def akd{q:Bool}(hc:ak 80 [av (iG xs),av (iG ys)] (av (iG zs))):al 52 [.ptr 0 0,.ptr 1 2,.ptr 2 0] ⟨[[ax false,.iM],[ax u,av (iG m),ax p,av (iG xs)],[ax q,av (iG ys),ax w,av (iG n)]],[],[]⟩ (.ptr 0 0) ⟨[[ax ((p !=q)&&decide (0<zs.length)),av (iG zs)],[ax u,av (iG m),ax p,av (iG xs)],[ax q,av (iG ys),ax w,av (iG n)]],[],[]⟩:=by have hg:=mR (p:= ax false) (q:=.iM) (neg:=(p !=q)) (l:=zs);refine' eN func52;(repeat first|refine' wc|(refine' oX;(first|exact iV hc|exact cD [] hg);exact kq)|refine' xW [1,2]);refine' rB;all_goals rfl
variable{k:Nat}
def jv{n:Nat}(h:n<WB^k){m:Nat}(hk:k<=m):(iF n).length<=m:=b8 (iU h) hk
variable{b j:Nat}
def Hh{a:Nat}(ha:a<WB^i)(hb:b<WB^j):a*b<WB^(i+j):=by rw[fp];exact gQ ha hb
variable{a:Int}
def yr(ha:a.natAbs<WB^i)(hb:b<WB^j):(a*(b:Int)).natAbs<WB^(i+j):=by rw[dI,bM];exact Hh ha hb
def Wq{T:Nat}(hb:b≠0)(hT:T≠0)(ha:a.natAbs<WB^10)(NL:b<WB)(hTw:T<WB^10):al 70 [.ptr 0 0,.ptr 1 0,.ptr 2 0] ⟨[[ax false,.iM,ax false,.iM],jO a b,jO 1 T],[],[]⟩ (.ptr 0 0) ⟨[jO (pg (a*(T:Int)) b) (oO (a*(T:Int)) b),jO a b,jO 1 T],[],[]⟩:=by
 have ri:b<WB^1:=by rw[dT];exact NL
 have m1:=sL (X:=a.natAbs) (Y:=(T:Int).natAbs) (jv ha af) (by rw[bM];exact jv hTw af);rw[vZ,bM]at m1;have m2:=sL (X:=b) (Y:=1) (jv ri af) (jv (k:=1) af af);rw[cU]at m2;have s1:=qR a (T:Int);rw[CT]at s1;have k1:=F7 (p:=decide (a<0)) (q:=false) (u:=false) (w:=false) (m:=iF b) (n:=iF 1) m1;rw[s1]at k1;have k2:=akd (p:=false) (q:=false) (u:=decide (a<0)) (w:=false) (m:=iF a.natAbs) (n:=iF T) m2;have e1:=tF (p:=decide (a<0)) (q:=false) (l:=iF a.natAbs) hb;have e2:=tF (p:=false) (q:=false) (l:=iF 1) hT;have hf:=pZ (x:=a*(T:Int)) (Y:=b) hb (.inr aK) (jv (yr ha hTw) af) (jv ri af);rw[xu]at hf;have jE:jO 1 T=[ax false,av (iG (iF 1)),ax false,av (iG (iF T))]:=rfl;rw[jE];unfold jO at *
 unfold jn at *
 clear m1 m2 s1 ha hTw NL ri hb hT jE;generalize pg (a*(T:Int)) b=Q at *
 generalize oO (a*(T:Int)) b=R at *
 generalize iF (a*(T:Int)).natAbs=zs at *
 generalize decide (a*(T:Int)<0)=zp at *
 generalize iF a.natAbs=axs,decide (a<0)=ap,iF b=bs,iF T=ts,iF 1=os,iF Q.natAbs=qs,decide (Q<0)=qp,iF R=rs at *
 refine' eN func70;(repeat first|refine' wc|(apply dR rfl rfl;focus(first|exact AU rfl 2 rfl rfl (λH1 hb=>uR rfl rfl (EN rfl) rfl e2 (λ_ _ _=>rfl) (hb.symm.trans rfl))))|(refine' oX;(first|exact cB [] e1|exact cB [] e2|exact cB [] k1|exact cB [] k2|exact cB [] hf);exact kq)|refine Gu (fz:=qU Pp) (fs:=qU Jq) (λ_ _ h=>ZR h) (λ_ _ h=>SZ h) [15] [30013,20002,40015] rfl rfl rfl mixed aQ ?_|refine' xW [30013,20002,40015]);refine' rB;all_goals rfl
variable{c:Int}{d:Nat}
def LS(hb:b≠0)(hd:d≠0)(ha:a.natAbs<WB^10)(hc:c.natAbs<WB^10)(NL:b<WB)(yV:d<WB):al 21 [.ptr 0 0,.ptr 1 0,.ptr 2 0] ⟨[[ax false,.iM,ax false,.iM],jO a b,jO c d],[],[]⟩ (.ptr 0 0) ⟨[jO (pg (a*(d:Int)-c*(b:Int)) (b*d)) (oO (a*(d:Int)-c*(b:Int)) (b*d)),jO a b,jO c d],[],[]⟩:=by
 have ri:b<WB^1:=by rw[dT];exact NL
 have vS:d<WB^1:=by rw[dT];exact yV
 have m1:=sL (X:=a.natAbs) (Y:=(d:Int).natAbs) (jv ha af) (by rw[bM];exact jv vS af);rw[vZ,bM]at m1;have m2:=sL (X:=c.natAbs) (Y:=(b:Int).natAbs) (jv hc af) (by rw[bM];exact jv ri af);rw[vZ,bM]at m2;have m3:=sL (X:=b) (Y:=d) (jv ri af) (jv vS af);have s1:=qR a (d:Int);have s2:=qR c (b:Int);rw[CT]at s1 s2;have k1:=F7 (p:=decide (a<0)) (q:=false) (u:=false) (w:=decide (c<0)) (m:=iF b) (n:=iF c.natAbs) m1;have k2:=F7 (p:=decide (c<0)) (q:=false) (u:=false) (w:=decide (a<0)) (m:=iF d) (n:=iF a.natAbs) m2;rw[s1]at k1;rw[s2]at k2;have k3:=Xr (p:=false) (q:=false) (u:=decide (a<0)) (w:=decide (c<0)) (m:=iF a.natAbs) (n:=iF c.natAbs) m3;have e1:=tF (p:=decide (a<0)) (q:=false) (l:=iF a.natAbs) hb;have e2:=tF (p:=decide (c<0)) (q:=false) (l:=iF c.natAbs) hd;have l1:=yr ha vS;have l2:=yr hc ri;have hn:=Wk (x:=a*(d:Int)) (y:=c*(b:Int)) (jv l1 af) (jv l2 af);have l3:(a*(d:Int)-c*(b:Int)).natAbs<WB^12:=by
  have h1:WB^(10+1)*2<=WB^12:=by decide+kernel
  omega
 have hf:=pZ (x:=a*(d:Int)-c*(b:Int)) (Y:=b*d) (iy hb hd) (.inr (gQ NL yV)) (jv l3 af) (jv (Hh ri vS) af);rw[xu]at hf;unfold jO at *
 unfold jn at *
 clear m1 m2 m3 s1 s2 ha hc NL yV ri vS hb hd l1 l2 l3;generalize pg (a*(d:Int)-c*(b:Int)) (b*d)=Q at *
 generalize oO (a*(d:Int)-c*(b:Int)) (b*d)=R at *
 generalize iF (a*(d:Int)-c*(b:Int)).natAbs=ns at *
 generalize decide (a*(d:Int)-c*(b:Int)<0)=np at *
 generalize iF (a*(d:Int)).natAbs=zs at *
 generalize decide (a*(d:Int)<0)=zp at *
 generalize iF (c*(b:Int)).natAbs=ws at *
 generalize decide (c*(b:Int)<0)=wp at *
 generalize iF (b*d)=ds0,iF a.natAbs=axs,decide (a<0)=ap,iF c.natAbs=cxs,decide (c<0)=cp,iF b=bs,iF d=ds,iF Q.natAbs=qs,decide (Q<0)=qp,iF R=rs at *
 refine' eN func21;(repeat first|refine' wc|(apply dR rfl rfl;focus(first|exact AU rfl 2 rfl rfl (λH1 hb=>uR rfl rfl (EN rfl) rfl e2 (λ_ _ _=>rfl) (hb.symm.trans rfl))))|(refine' oX;(first|exact cB [] e1|exact cB [] e2|exact cB [] k1|exact cB [] k2|exact cB [] k3|exact cB [] hn|exact cB [] hf);exact kq)|refine Pa (fz:=qU Pp) (fs:=qU Jq) (λ_ _ h=>ZR h) (λ_ _ h=>SZ h) [8] [16] 14 [30014,20002,40008,40016] rfl rfl rfl rfl rfl rfl rfl mixed aQ ?_|refine' xW [30014,20002,40008,40016]);refine' rB;all_goals rfl
def Wr(hb:b≠0)(hd:d≠0)(ha:a.natAbs<WB^10)(hc:c.natAbs<WB^10)(NL:b<WB)(yV:d<WB):al 22 [.ptr 0 0,.ptr 1 0,.ptr 2 0] ⟨[[ax false,.iM,ax false,.iM],jO a b,jO c d],[],[]⟩ (.ptr 0 0) ⟨[jO (pg (a*(d:Int)+c*(b:Int)) (b*d)) (oO (a*(d:Int)+c*(b:Int)) (b*d)),jO a b,jO c d],[],[]⟩:=by
 have ri:b<WB^1:=by rw[dT];exact NL
 have vS:d<WB^1:=by rw[dT];exact yV
 have m1:=sL (X:=a.natAbs) (Y:=(d:Int).natAbs) (jv ha af) (by rw[bM];exact jv vS af);rw[vZ,bM]at m1;have m2:=sL (X:=c.natAbs) (Y:=(b:Int).natAbs) (jv hc af) (by rw[bM];exact jv ri af);rw[vZ,bM]at m2;have m3:=sL (X:=b) (Y:=d) (jv ri af) (jv vS af);have s1:=qR a (d:Int);have s2:=qR c (b:Int);rw[CT]at s1 s2;have k1:=F7 (p:=decide (a<0)) (q:=false) (u:=false) (w:=decide (c<0)) (m:=iF b) (n:=iF c.natAbs) m1;have k2:=F7 (p:=decide (c<0)) (q:=false) (u:=false) (w:=decide (a<0)) (m:=iF d) (n:=iF a.natAbs) m2;rw[s1]at k1;rw[s2]at k2;have k3:=Xr (p:=false) (q:=false) (u:=decide (a<0)) (w:=decide (c<0)) (m:=iF a.natAbs) (n:=iF c.natAbs) m3;have e1:=tF (p:=decide (a<0)) (q:=false) (l:=iF a.natAbs) hb;have e2:=tF (p:=decide (c<0)) (q:=false) (l:=iF c.natAbs) hd;have l1:=yr ha vS;have l2:=yr hc ri;have hn:=Wj (x:=a*(d:Int)) (y:=c*(b:Int)) (jv l1 af) (jv l2 af);have l3:(a*(d:Int)+c*(b:Int)).natAbs<WB^12:=by
  have h1:WB^(10+1)*2<=WB^12:=by decide+kernel
  omega
 have hf:=pZ (x:=a*(d:Int)+c*(b:Int)) (Y:=b*d) (iy hb hd) (.inr (gQ NL yV)) (jv l3 af) (jv (Hh ri vS) af);rw[xu]at hf;unfold jO at *
 unfold jn at *
 clear m1 m2 m3 s1 s2 ha hc NL yV ri vS hb hd l1 l2 l3;generalize pg (a*(d:Int)+c*(b:Int)) (b*d)=Q at *
 generalize oO (a*(d:Int)+c*(b:Int)) (b*d)=R at *
 generalize iF (a*(d:Int)+c*(b:Int)).natAbs=ns at *
 generalize decide (a*(d:Int)+c*(b:Int)<0)=np at *
 generalize iF (a*(d:Int)).natAbs=zs at *
 generalize decide (a*(d:Int)<0)=zp at *
 generalize iF (c*(b:Int)).natAbs=ws at *
 generalize decide (c*(b:Int)<0)=wp at *
 generalize iF (b*d)=ds0,iF a.natAbs=axs,decide (a<0)=ap,iF c.natAbs=cxs,decide (c<0)=cp,iF b=bs,iF d=ds,iF Q.natAbs=qs,decide (Q<0)=qp,iF R=rs at *
 refine' eN func22;(repeat first|refine' wc|(apply dR rfl rfl;focus(first|exact AU rfl 2 rfl rfl (λH1 hb=>uR rfl rfl (EN rfl) rfl e2 (λ_ _ _=>rfl) (hb.symm.trans rfl))))|(refine' oX;(first|exact cB [] e1|exact cB [] e2|exact cB [] k1|exact cB [] k2|exact cB [] k3|exact cB [] hn|exact cB [] hf);exact kq)|refine Pa (fz:=qU Pp) (fs:=qU Jq) (λ_ _ h=>ZR h) (λ_ _ h=>SZ h) [8] [16] 14 [30014,20002,40008,40016] rfl rfl rfl rfl rfl rfl rfl mixed aQ ?_|refine' xW [30014,20002,40008,40016]);refine' rB;all_goals rfl
def aan:al 149 [.ptr 0 0] ⟨[jO a b],[],[]⟩ (.ptr 0 0) ⟨[jO a b],[],[]⟩:=by
 unfold jO;generalize iF a.natAbs=xs at *
 generalize iF b=ys,decide (a<0)=xb at *
 refine' eN func149;(try refine' uN);refine' rB;all_goals rfl
def UA(hm:(iF b).length<=1000000):al 67 [.ptr 0 0,.ptr 1 2] ⟨[[ax false,.iM],[ax p,av (iG l),ax false,av (iG (iF b))]],[],[]⟩ (.ptr 0 0) ⟨[[ax false,av (iG (iF b))],[ax p,av (iG l),ax false,av (iG (iF b))]],[],[]⟩:=by
 have ht:=CR (l:=iF b) hm;have hg:=mR (p:= ax false) (q:=.iM) (neg:=false) (l:=iF b);clear hm;generalize iF b=bs at *
 refine' eN func67;(repeat first|refine' wc|(refine' oX;(first|exact iV ht|exact cD [] hg);exact kq)|refine' xW [1]);refine' rB;all_goals rfl
def aao(hb:b≠0)(hm:(iF b).length<=1000000):al 150 [.ptr 0 0] ⟨[jO a b],[],[]⟩ (.ptr 1 0) ⟨[jO a b,[ax false,av (iG (iF b))]],[],[]⟩:=by
 have e1:=tF (p:=decide (a<0)) (q:=false) (l:=iF a.natAbs) hb;have hs:=UA (p:=decide (a<0)) (l:=iF a.natAbs) hm;unfold jO;clear hm hb;generalize iF a.natAbs=xs at *
 generalize iF b=ys,decide (a<0)=xb at *
 refine' eN func150;(try refine' wf @e1 @hs);refine' rB;all_goals rfl
def Ff(ha:a.natAbs<9223372036854775808)(hb:b≠0)(NL:b<WB):al 18 [aq a,aq b] ⟨[],[],[]⟩ (.ptr 0 0) ⟨[jO (pg a b) (oO a b)],[],[]⟩:=by
 have n1:=Ch (z:=a) ab ab;have n2:=tq (z:=b) aK;have la:a.natAbs<WB^2:=by rw[cW,dT];unfold WB;omega
 have hf:=pZ (x:=a) (Y:=b) hb (.inl aL) (jv la af) (jv (k:=1) (by rw[dT];exact NL) af);rw[oU]at n2;rw[xu]at hf;have hbz:((b:Int)==0)=false:=bk.2 ab;unfold jO at *
 unfold jn at *
 clear la ha NL;generalize pg a b=Q at *
 generalize oO a b=R,iF a.natAbs=xs,iF b=ys,decide (a<0)=xb at *
 generalize iF Q.natAbs=qs,decide (Q<0)=qp,iF R=rs at *
 refine' eN func18;(try refine' uN);refine' sQ<;>intro h;exfalso;rw[hbz]at h;cases h;clear h;(try refine' wg @n1 @n2 @hf);refine' rB;all_goals rfl
def ac7(hi:i<40):al 71 [aq ((i:Int)-40)] ⟨[],[],[]⟩ (.ptr 0 0) ⟨[jO 1 (10^(40-i))],[],[]⟩:=by
 have Dm:i64.wrap (0-((i:Int)-40))=((40-i:Nat):Int):=by rw[jD ab];omega
 have h5:=zn (n:=((40-i:Nat):Int)) ab ab;rw[da,<-Dm]at h5;have hT:=GH (k:=40-i) ab;have hT0:10^(40-i)≠0:=ik (dt af);have l1:(iF (1:Int).natAbs).length<=1:=iU (k:=1) af;have h6:=pZ (x:=1) (Y:=10^(40-i)) hT0 (.inl af) ab ab;rw[show gI 1 (10^(40-i))=1 from Nat.gcd_one_left _,Q7,fe]at h6;have n1:=Hg;rw[show [1]=iF (1:Int).natAbs from(jC (n:=1) af af).symm]at n1;unfold jO at *
 unfold jn at *
 rw[show decide ((1:Int)<0)=false from rfl]at *
 clear hT hT0 l1 Dm;generalize iF (10^(40-i))=ts at *
 generalize iF (1:Int).natAbs=os at *
 refine' eN func71;(try refine' uN);refine' sQ<;>intro h
 ·clear h;(try refine' wg @n1 @h5 @h6);refine' rB;all_goals rfl
 exfalso;have:=aX h;omega
variable{z:Int}
def ac8(hz:(iF z.natAbs).length<=10000):al 111 [.ptr 0 0] ⟨[jO z 1],[],[]⟩ (.ptr 1 0) ⟨[jO z 1,jn z],[],[]⟩:=by
 have hn:=aan (a:=z) (b:=1);have hd:=aao (a:=z) (b:=1) af (jv (k:=1) af af);have hm:=aal hz;unfold jO at *
 unfold jn at *
 clear hz;generalize iF z.natAbs=xs at *
 generalize iF 1=os,iF 0=zs,decide (z<0)=xb at *
 refine' eN func111;(try refine' wg @hn @hd @hm);refine' rB;all_goals rfl
def LU(z:Int):pg (z*((1:Nat):Int)-z*((1:Nat):Int)) (1*1)=0∧oO (z*((1:Nat):Int)-z*((1:Nat):Int)) (1*1)=1:=by rw[Int.sub_self];decide
def SH(hz:z.natAbs<WB^10):al 72 [.ptr 0 0] ⟨[jO z 1],[],[]⟩ (.ptr 1 0) ⟨[jO z 1,jn z],[],[]⟩:=by
 have hd:=ac8 (z:=z) (jv hz af);have hi:=A8 (x:=z) (jv hz af);have hs:=LS (a:=z) (c:=z) (b:=1) (d:=1) af af hz hz af af;rw[(LU z).1,(LU z).2]at hs;have hh:=Ff (a:=1) (b:=2) af af af;rw[O8.1,O8.2]at hh;have d1:(iF 1).length<=1:=iU (k:=1) af;have d2:(iF 2).length<=1:=iU (k:=1) af;have hc:=E9 (a:=0) (b:=1) (x:=1) (y:=2) af af (jv (n:=(0:Int).natAbs) (k:=1) af af) ab (jv (n:=(1:Int).natAbs) (k:=1) af af) ab (jv (n:=((0:Int)*((2:Nat):Int)).natAbs) (k:=1) af af) (jv (n:=((1:Int)*((1:Nat):Int)).natAbs) (k:=1) af af);rw[show N9 0 1 1 2= -1 by decide]at hc;have n2:=tq (z:=2) af;have hm:=LQ (x:=z) (y:=2) af af (bX hz (cf af af));have hg:=Uz (z%((2:Nat):Int));unfold jO at *
 unfold jn at *
 clear d1 d2 hz;generalize Og (z%((2:Nat):Int))=sg0 at *
 generalize iF (z%((2:Nat):Int)).natAbs=ms at *
 generalize decide (z%((2:Nat):Int)<0)=mb at *
 generalize iF z.natAbs=xs,decide (z<0)=xb at *
 generalize iF ((2:Nat):Int).natAbs=ts at *
 generalize decide (((2:Nat):Int)<0)=tb at *
 generalize iF (0:Int).natAbs=zs at *
 generalize iF (1:Int).natAbs=os at *
 generalize iF 1=o1,iF 2=o2 at *
 generalize decide ((0:Int)<0)=b0 at *
 generalize decide ((1:Int)<0)=b1 at *
 refine' eN func72;(repeat first|refine' uN|refine oQ (cB [] hd) ?_|refine oQ (cD [] hi) ?_|refine oQ (cD [] hs) ?_|refine oQ (cB [] hh) ?_|refine oQ (cB [] hc) ?_|refine oQ (cB [] n2) ?_|refine oQ (cD [] hm) ?_|refine oQ (cB [] hg) ?_);refine' rB;all_goals rfl
end Go.Pure.V