/- Steps to pointsMake_card. -/
import Derived.Test.YtckjndkmmfmjjaaGreatDoorPureD
import Derived.Shelf.SlSortCmp.NoneTotal
import Derived.Lib.ValidLaws
set_option linter.all false
set_option maxRecDepth 100000
set_option maxHeartbeats 32000000
namespace Go.Pure
open Go
variable{s:Nat}
def pk(hs:s<=64):2^(64-s)*2^s=WB:=by rw[<-fp,show 64-s+s=64 by omega]
variable{c:Nat}
def TW{x:Nat}(hs:s<=64)(hc:c<2^s):(x*2^s+c)/WB=x/2^(64-s)∧(x*2^s+c)%WB=x*2^s%WB ||| c:=by
 have hp:0<2^s:=dt af;have e1:(x*2^s+c)/2^s=x:=by rw[bG,Nat.mul_add_div hp,cZ hc,b9]
 refine⟨?_,?_⟩;rw[<-pk hs,bG (2^(64-s)),<-fq,e1]
 ·have e2:x*2^s%WB=2^s*(x%2^(64-s)):=by
   rw[<-pk hs,Nat.mul_mod_mul_right,bG]
  have e3:=Nat.two_pow_add_eq_or_of_lt hc (x%2^(64-s));rw[e2,<-e3];have e4:=cT x (2^(64-s));have e5:x*2^s=2^s*(x%2^(64-s))+WB*(x/2^(64-s)):=by
   conv=>lhs;rw[<-e4]
   rw[bB,bG (x%2^(64-s)),gU,pk hs]
  have e6:2^s*(x%2^(64-s))+c<WB:=by have h1:x%2^(64-s)+1<=2^(64-s):=bL _ (dt af);have h2:2^s*(x%2^(64-s)+1)<=2^s*2^(64-s):=ch _ h1;rw[bG (2^s) (2^(64-s)),pk hs,cn,cU]at h2;exact bX (Nat.add_lt_add_left hc _) h2
  rw[e5,Nat.add_right_comm,dc,bn e6]
def qy:∀{l:List Nat} {y c i x:Nat},l[i]?=some x->iO (l.take (i+1)) y c=iO (l.take i) y c++[(x*y+iW (l.take i) y c)%WB]∧iW (l.take (i+1)) y c=(x*y+iW (l.take i) y c)/WB
 |[],_,_,_,_,h=>by simp at h|z::r,y,c,0,x,h=>by simp at h;subst h;simp[iO,iW]|z::r,y,c,i+1,x,h=>by have:=qy (l:=r) (y:=y) (c:=(z*y+c)/WB) (i:=i) (x:=x) (by simpa using h);simp only[eH,iO,iW,dQ];exact⟨by rw[this.1],this.2⟩
def BT:∀(l:List Nat) (y c i:Nat),iO (l.take i) y c=(iO l y c).take i
 |[],_,_,_=>by simp[iO]|x::r,y,c,0=>by simp[iO]|x::r,y,c,i+1=>by simp[iO,BT r]
def qK(l:List Nat)(s:Nat):List Nat:=iO l (2^s) 0
def BU(l:List Nat)(s:Nat):Nat:=iW l (2^s) 0
def oP(l:List Nat)(s:Nat):(qK l s).length=l.length:=jh _ _ _
def agu(l:List Nat)(s:Nat):okW (qK l s):=rm _ _ _
def K3:∀{l:List Nat} {y c:Nat},okW l->c<y->iW l y c<y
 |[],_,_,_,hc=>hc
 |x::r,y,c,h,hc=>by obtain⟨h1,h2⟩:=iS.1 h;show iW r y ((x*y+c)/WB)<y;refine K3 h2 ((bK af).2 ?_);have:(x+1)*y<=WB*y:=bg _ h1;rw[bB,c8]at this;rw[bG y];exact bX (Nat.add_lt_add_left hc _) this
variable{l:List Nat}
def QT(h:okW l):BU l s<2^s:=K3 h (dt af)
variable{k:Nat}
def Hz{x:Nat}(hs:s<=64)(h:okW l)(hx:l[k]?=some x):BU (l.take (k+1)) s=x/2^(64-s):=by unfold BU;rw[(qy hx).2];exact(TW hs (QT (h.take k))).1
def Pl{x:Nat}(hx:l[0]?=some x):(qK l s)[0]?=some (x*2^s%WB):=by
 match l,hx with
 |y::r,hx=>simp at hx;subst hx;simp[qK,iO]
variable{y:Nat}
def TY{x:Nat}(hs:s<=64)(h:okW l)(hx:l[k+1]?=some x)(hy:l[k]?=some y):(qK l s)[k+1]?=some (x*2^s%WB ||| y/2^(64-s)):=by
 have h1:=(qy (y:=2^s) (c:=0) hx).1;rw[BT]at h1;have h2:((iO l (2^s) 0).take (k+1+1))[k+1]?=(iO l (2^s) 0)[k+1]? :=by rw[bq,aW ab]
 have hk:=(aR.1 hx).1;have h3:(iO (l.take (k+1)) (2^s) 0).length=k+1:=by rw[jh,bW];omega
 rw[h1,a7 ab,h3,dA]at h2;have h4:=Hz (s:=s) hs h hy;have h5:=(TW (x:=x) hs (QT (s:=s) (h.take (k+1)))).2;unfold BU at h4 h5;unfold qK;rw[<-h2,h5,h4];rfl
def QU(h:okW l)(hs:s<64):qK l s++[BU l s]=iQ (l.length+1) (val l*2^s):=by
 have h1:=rn l (2^s) 0;have hc:BU l s<WB:=dU (QT h) (Nat.pow_lt_pow_right af hs);have ho:okW (qK l s++[BU l s]):=kz.2 ⟨agu _ _,iS.2 ⟨hc,ke⟩⟩;have hl:(qK l s++[BU l s]).length=l.length+1:=by rw[bd,oP];rfl
 have hv:val (qK l s++[BU l s])=val l*2^s:=by rw[jy,oP,kK,mQ];unfold qK BU;simpa using h1
 rw[<-hv,<-hl,sf ho]
def BV(ws T:List Nat)(k:Nat):List Nat:=ws.take k++(T.drop k++ws.drop T.length)
variable{ws T:List Nat}
def Sk(hk:k<=T.length)(h:T.length<=ws.length):(BV ws T k).length=ws.length:=by unfold BV;simp;omega
def K4:BV ws T T.length=ws:=by unfold BV;simp
def Pm:BV ws T 0=iH ws 0 T:=by unfold BV iH;simp
variable{w:Nat}
def Dd(hw:T[k]?=some w)(h:T.length<=ws.length):(BV ws T (k+1)).set k w=BV ws T k:=by
 have hk:=(aR.1 hw).1;have e:(ws.take k).length=k:=by simp;omega
 have hwk:ws.take (k+1)=ws.take k++[ws[k]'(by omega)]:=b7 ab;have hd:T.drop k=w::T.drop (k+1):=by rw[bY hk];rw[aS hk]at hw;rw[cE hw]
 unfold BV;rw[hwk,hd,bV,dW _ _ ab,e,dA];rfl
def oe:List Nat->Nat->List Nat
 |[],_=>[]|[x],s=>[x/2^s]|x::y::r,s=>(x/2^s ||| y*2^(64-s)%WB)::oe (y::r) s
def yX:∀(l:List Nat) (s:Nat),(oe l s).length=l.length
 |[],_=>rfl|[_],_=>rfl|_::y::r,s=>by simp only[oe,bu,yX (y::r) s]
def K5{x:Nat}(hs:s<=64)(hx:x<WB):x/2^s ||| y*2^(64-s)%WB=2^(64-s)*(y%2^s)+x/2^s∧x/2^s<2^(64-s):=by
 have hp:0<2^s:=dt af;have h1:x/2^s<2^(64-s):=(bK hp).2 (by rw[pk hs];exact hx);have e2:y*2^(64-s)%WB=2^(64-s)*(y%2^s):=by rw[<-pk hs,bG y,Nat.mul_mod_mul_left]
 refine⟨?_,h1⟩;rw[e2,Nat.two_pow_add_eq_or_of_lt h1,Nat.or_comm]
def K6:∀{l:List Nat} {s:Nat},okW l->s<=64->val (oe l s)=val l/2^s
 |[],_,_,_=>by simp[oe,val]|[x],s,_,_=>by simp[oe,val]
 |x::y::r,s,h,hs=>by
  obtain⟨h1,h2⟩:=iS.1 h;have ih:=K6 (l:=y::r) (s:=s) h2 hs;have hw:=(K5 (y:=y) hs h1).1;have hp:0<2^s:=dt af;have hm:val (y::r)%2^s=y%2^s:=by rw[kK,<-pk hs,bG (2^(64-s)),cN,dc]
  have hd:=cT (val (y::r)) (2^s);rw[hm]at hd;rw[oe,kK,ih,hw,kK x];generalize val (y::r)=R at *
  have e1:WB*R=2^s*(2^(64-s)*R):=by rw[<-cN,bG (2^s),pk hs]
  have e2:WB*(R/2^s)=2^(64-s)*(2^s*(R/2^s)):=by rw[<-cN,pk hs]
  rw[e1,cL _ _ hp,e2,Nat.add_right_comm,<-cn,hd,eK]
def Pn:∀{l:List Nat} {s:Nat},okW l->s<=64->okW (oe l s)
 |[],_,_,_=>ke|[x],s,h,_=>iS.2 ⟨bO (dY _ _) (iS.1 h).1,ke⟩
 |x::y::r,s,h,hs=>by obtain⟨h1,h2⟩:=iS.1 h;refine iS.2 ⟨?_,Pn (l:=y::r) h2 hs⟩;obtain⟨e1,e2⟩:=K5 (y:=y) hs h1;rw[e1];have h3:y%2^s+1<=2^s:=bL _ (dt af);have h4:2^(64-s)*(y%2^s+1)<=2^(64-s)*2^s:=ch _ h3;rw[pk hs,cn,cU]at h4;exact bX (Nat.add_lt_add_left e2 _) h4
def Zo(h:okW l)(hs:s<=64):oe l s=iQ l.length (val l/2^s):=by rw[<-K6 h hs,<-yX l s,sf (Pn h hs)]
def K7:∀{l:List Nat} {s k x y:Nat},l[k]?=some x->l[k+1]?=some y->(oe l s)[k]?=some (x/2^s ||| y*2^(64-s)%WB)
 |[],_,_,_,_,h,_=>by simp at h|[_],_,0,_,_,_,h=>by simp at h|[_],_,k+1,_,_,h,_=>by simp at h|a::b::r,s,0,x,y,h1,h2=>by simp at h1 h2;subst h1;subst h2;simp[oe]|a::b::r,s,k+1,x,y,h1,h2=>by have:=K7 (l:=b::r) (s:=s) (k:=k) (by simpa using h1) (by simpa using h2);simpa[oe]using this
def Iv:∀{l:List Nat} {s k x:Nat},l[k]?=some x->l.length=k+1->(oe l s)[k]?=some (x/2^s)
 |[],_,_,_,h,_=>by simp at h|[a],s,0,x,h,_=>by simp at h;subst h;rfl|[_],_,k+1,_,h,_=>by simp at h|a::b::r,s,0,x,h1,h2=>by simp at h2|a::b::r,s,k+1,x,h1,h2=>by have:=Iv (l:=b::r) (s:=s) (k:=k) (by simpa using h1) (by simpa using h2);simpa[oe]using this
def K8(ws T:List Nat)(k:Nat):List Nat:=T.take k++ws.drop k
def Zp(ws T:List Nat):K8 ws T 0=ws:=by simp[K8]
def Zq(ws T:List Nat):K8 ws T T.length=iH ws 0 T:=by simp[K8,iH]
def TZ{j:Nat}(h:k<=j)(hk:k<=T.length):(K8 ws T k)[j]?=ws[j]? :=by
 have e:(T.take k).length=k:=by simp;omega
 unfold K8;rw[a7 ab,e,bD];congr 1;omega
def Po(hw:T[k]?=some w)(h:k<ws.length):(K8 ws T k).set k w=K8 ws T (k+1):=by
 have hk:=(aR.1 hw).1;have e:(T.take k).length=k:=by simp;omega
 have ht:T.take (k+1)=T.take k++[w]:=by rw[fu,hw];rfl
 unfold K8;rw[dW _ _ ab,e,dA,bY h,ht,bV];rfl
def Jp(D:Nat)(ws l:List Nat)(n k:Nat):List Nat:=ws.take k++(iQ (n-k) (val (l.drop k)/D)++ws.drop n)
variable{D n:Nat}
def Sl(h:k<=n)(hw:n<=ws.length):(Jp D ws l n k).length=ws.length:=by unfold Jp;rw[bd,bd,bW,eY,iN];omega
def EU(D:Nat)(n:Nat):Jp D ws l n n=ws:=by unfold Jp;rw[dA];simp[iQ]
def Zr(D n:Nat)(ws l:List Nat):Jp D ws l n 0=iH ws 0 (iQ n (val l/D)):=by unfold Jp iH;rw[iN];simp
def Zs{x:Nat}(hD:0<D)(hx:x<WB)(h:l[k]?=some x)(hk:k<n)(hw:n<=ws.length):(Jp D ws l n (k+1)).set k ((x+WB*(val (l.drop (k+1))%D))/D)=Jp D ws l n k:=by
 have hs:=(ES D x (val (l.drop (k+1))) hD).1;have hd:=x7 (x:=x) hx (bL (val (l.drop (k+1))) hD);obtain⟨q,hq⟩:∃q,q=(x+WB*(val (l.drop (k+1))%D))/D:=⟨_,rfl⟩;have hqw:q<WB:=by rw[hq];exact hd
 have e:(ws.take k).length=k:=by simp;omega
 have hwk:ws.take (k+1)=ws.take k++[ws[k]'(by omega)]:=b7 ab;unfold Jp;rw[qk h,hs,<-hq,show n-k=(n-(k+1))+1 by omega,iQ,dc,bn hqw,cL _ _ af,cZ hqw,bc];rw[hwk,bV,dW _ _ ab,e,dA];rfl
def uB(D:Nat)(l:List Nat)(k:Nat):List Nat:=l.take k++(iQ 2 (val (l.drop k)%D)++List.replicate (l.length-k-2) 0)
def K9(h:k+2<=l.length):(uB D l k).length=l.length:=by unfold uB;rw[bd,bd,bW,iN,cS];omega
def Zt(hw:okW l)(h2:2<=l.length)(h:val (l.drop (l.length-2))<D):uB D l (l.length-2)=l:=by
 unfold uB;have e:(l.drop (l.length-2)).length=2:=by simp;omega
 have hp:=sf (hw.drop (l.length-2));rw[e]at hp;rw[bn h,show l.length-(l.length-2)-2=0 by omega,gn,hp,cG,cA]
def ajM(hw:okW l):okW (uB D l k):=kz.2 ⟨hw.take _,kz.2 ⟨lJ _ _,oB _⟩⟩
def T0{x:Nat}(h:l[k]?=some x):uB D l (k+1)=l.take k++(x::iQ 2 (val (l.drop (k+1))%D)++List.replicate (l.length-k-3) 0):=by unfold uB;rw[fu,h,show l.length-(k+1)-2=l.length-k-3 by omega];simp
def aci{x:Nat}(hD:0<D)(FQ:D<WB*WB)(h:l[k]?=some x)(n9:k+3<=l.length):iH (uB D l (k+1)) k (iQ 3 ((x+WB*(val (l.drop (k+1))%D))%D))=uB D l k:=by
 have e:(l.take k).length=k:=by simp;omega
 have hr:=Iu hD h;have iI:(x+WB*(val (l.drop (k+1))%D))%D<WB*WB:=dU (bL _ hD) FQ;obtain⟨R,hR⟩:∃R,R=(x+WB*(val (l.drop (k+1))%D))%D:=⟨_,rfl⟩;rw[<-hR]at hr iI⊢;have hz:R/WB/WB=0:=by rw[fq];exact cZ iI
 have h3:iQ 3 R=iQ 2 R++[0]:=by show [R%WB,R/WB%WB,R/WB/WB%WB]=[R%WB,R/WB%WB]++[0];rw[hz];rfl
 rw[T0 h];unfold iH uB;rw[hr,h3];rw[cV ab,bR ab];have hl:k+(iQ 2 R++[0]).length=k+3:=by rw[bd,iN];rfl
 rw[hl,List.wS e];rw[show l.length-k-2=(l.length-k-3)+1 by omega,fB];simp[iQ]
where
 List.wS {k:Nat} {P Q:List Nat} (e:P.length=k):(P++Q).drop (k+3)=Q.drop 3:=by subst e;rw[List.drop_append];simp
def acj{x:Nat}(h:l[k]?=some x)(n9:k+3<=l.length):((uB D l (k+1)).drop k).take 3=x::iQ 2 (val (l.drop (k+1))%D):=by
 have e:(l.take k).length=k:=by simp;omega
 rw[T0 h,List.drop_left' e];simp[iQ]
def ack(hD:0<D)(FQ:D<WB*WB)(h2:2<=l.length):uB D l 0=iQ l.length (val l%D):=by have iI:val l%D<WB^2:=dU (bL _ hD) (by rw[cW,dT];exact FQ);have qC:val l%D<WB^l.length:=bX iI (cf af h2);refine val_inj ?_ (lJ _ _) (by rw[K9 ab,iN]) ?_;unfold uB;rw[e8];exact kz.2 ⟨ke,kz.2 ⟨lJ _ _,oB _⟩⟩;unfold uB;rw[e8,dz,dX,jy,vK,lH iI,lH qC];simp
structure De(H u2 v1 v2 g r:Nat):Prop where
 h:H=g*v1+r
 q:(H*WB+u2)/(v1*WB+v2)<=g
 b:g<WB
variable{H u2 v1 v2:Nat}
def De.start(hH:H<v1*WB)(lI:1<=v1)(hu:u2<WB):De H u2 v1 v2 (H/v1) (H%v1):=by
 refine⟨by rw[bG];exact(eX H v1).symm,?_,?_⟩
 ·have jX:0<v1*WB+v2:=bX (fD lI af) (gp _ _);refine gJ ((bK jX).2 ?_);have h1:=eX H v1;have h2:=bL H (show 0<v1 by omega);generalize H/v1=g at *
  generalize H%v1=r at *
  rw[bG (g.succ),show(v1*WB+v2)*g.succ=(v1*WB+v2)*g+(v1*WB+v2)from Nat.mul_succ _ _];have e1:(v1*WB+v2)*g=v1*g*WB+v2*g:=by rw[bB,gU]
  have e2:(r+1)*WB<=v1*WB:=bg _ h2;rw[e1];have e3:H*WB=v1*g*WB+r*WB:=by rw[<-h1,bB]
  rw[bB,c8]at e2;generalize WB=B at *
  omega
 exact(bK lI).2 (by rw[bG];exact hH)
variable{r:Nat}
def De.over{g:Nat}(hI:De H u2 v1 v2 g r)(lI:1<=v1)(hc:r*WB+u2<g*v2):1<=g∧De H u2 v1 v2 (g-1) (r+v1):=by
 have hv:0<v1*WB+v2:=bX (fD lI af) (gp _ _);have iI:(H*WB+u2)/(v1*WB+v2)<g:=by refine(bK hv).2 ?_;have:=It (B:=WB) (W:=1) (v1:=v1) (v2:=v2) (vr:=0) (h:=H) (u2:=u2) (ur:=0) (g:=g) (r:=r) hI.h af hc;simpa using this
 have hg:1<=g:=bO (bm _) iI;refine⟨hg,⟨?_,by omega,by have:=hI.b;omega⟩⟩;have h1:(g-1)*v1+v1=g*v1:=by obtain⟨k,rfl⟩:∃k,g=k+1:=⟨g-1,by omega⟩;rw[gC,bB,c8]
 have:=hI.h;omega
def De.done{g:Nat}(hI:De H u2 v1 v2 g r)(lI:1<=v1)(hc:g*v2<=r*WB+u2):(H*WB+u2)/(v1*WB+v2)=g:=by
 have hv:0<v1*WB+v2:=bX (fD lI af) (gp _ _);refine Nat.le_antisymm hI.q ((fa hv).2 ?_);have e1:H*WB=g*v1*WB+r*WB:=by rw[hI.h,bB]
 have e2:g*(v1*WB+v2)=g*v1*WB+g*v2:=by rw[cn,cN]
 omega
def De.ajN{g:Nat}(hI:De H u2 v1 v2 g r)(lI:1<=v1)(vI:v2<WB)(hr:WB<=r):(H*WB+u2)/(v1*WB+v2)=g:=
 hI.done lI (Sh (iB hI.b) vI hr)
variable{R V v0:Nat}
def VB{x:Nat}(hV:V=v0+WB*v1)(ox:v0<WB)(lI:WB<=2*v1)(hR:R<V)(hx:x<WB)(hu:R/WB=v1):(x+WB*R)/V=WB-1∨(x+WB*R)/V+1=WB-1:=by
 have EV:0<V:=bO (bm _) hR;have iI:=x7 (D:=V) hx hR;have h2:WB-2<=(x+WB*R)/V:=by
  refine(fa EV).2 ?_;have Nv:=cT R WB;rw[hu]at Nv;have e1:WB*R=WB*(R%WB)+WB*(WB*v1):=by rw[<-cn,Nv]
  have e2:(WB-2)*V+2*V=WB*V:=by rw[<-bB];rfl
  have e3:WB*V=WB*v0+WB*(WB*v1):=by rw[hV,cn]
  have e4:2*V=2*v0+WB*(2*v1):=by rw[hV,cn,Nat.mul_left_comm]
  have e5:WB*v0<=WB*WB:=ch _ (iB ox);have e6:WB*WB<=WB*(2*v1):=ch _ lI;generalize WB*(WB*v1)=P at *
  generalize WB*(2*v1)=Q,(WB-2)*V=T at *
  omega
 omega
def three(h:l.length=3):∃a b c,l=[a,b,c]:=by
 match l,h with
 |[a,b,c],_=>exact⟨a,b,c,rfl⟩
def La(a b c:Nat):val [a,b,c]=a+WB*(b+WB*c):=by simp[val]
def val_two(a b:Nat):val [a,b]=a+WB*b:=by simp[val]
def T3(x R:Nat):val [x,R%WB,R/WB]=x+WB*R:=by rw[La,cT]
def Qf(h:R<WB*WB):iQ 2 R=[R%WB,R/WB]:=by show [R%WB,R/WB%WB]=_;rw[bn ((bK af).2 h)]
def WB3:WB^3=WB*WB*WB:=af
def Yg{x:Nat}(hx:x<WB)(hR:R<WB*WB):okW [x,R%WB,R/WB]:=
 iS.2 ⟨hx,iS.2 ⟨bL _ af,iS.2 ⟨(bK af).2 hR,ke⟩⟩⟩
def oD{g:Nat}(hg:g<WB)(hV:V<WB*WB):g*V<WB^3:=by
 rw[WB3];have h1:g*V<=WB*V:=bg _ (iB hg);have h2:WB*(V+1)<=WB*(WB*WB):=ch _ hV;rw[cn,cU]at h2;have h3:WB*(WB*WB)=WB*WB*WB:=by rw[cN]
 have:0<WB:=af
 omega
variable{G:Nat}
def VC{x:Nat}(hx:x<WB)(hR:R<V)(hV:V<WB*WB)(hG:G=(x+WB*R)/V):sM [x,R%WB,R/WB] (iQ 3 (G*V)) 0=iQ 3 ((x+WB*R)%V)∧sn [x,R%WB,R/WB] (iQ 3 (G*V)) 0=0:=by
 have EV:0<V:=bO (bm _) hR;have Yh:G<WB:=by rw[hG];exact x7 hx hR
 have hRW:R<WB*WB:=dU hR hV;have hp:=oD Yh hV;have hl:([x,R%WB,R/WB]:List Nat).length=(iQ 3 (G*V)).length:=by rw[iN];rfl
 have h1:=MD (c:=0) hl (Yg hx hRW) (lJ _ _) (bm _);have hc:=Gw [x,R%WB,R/WB] (iQ 3 (G*V)) 0 (bm _);have hs:=wM (c:=0) hl;have iI:=lP (CK [x,R%WB,R/WB] (iQ 3 (G*V)) 0);rw[hs]at iI;rw[T3,lH hp]at h1;have hm:=cT (x+WB*R) V;have hr:=bL (x+WB*R) EV;rw[<-hG,bG V]at hm;have OL:(x+WB*R)%V<WB^3:=by
  have:WB*WB<=WB^3:=af
  omega
 have xG:sn [x,R%WB,R/WB] (iQ 3 (G*V)) 0=0:=by
  rcases dG (sn [x,R%WB,R/WB] (iQ 3 (G*V)) 0) 1 with h|h
  omega;exfalso;rw[show sn [x,R%WB,R/WB] (iQ 3 (G*V)) 0=1 by omega]at h1;simp only[bu,bH,cU,bc,Nat.reduceAdd]at h1 iI;omega
 refine⟨?_,xG⟩;rw[xG]at h1;refine val_inj (CK _ _ _) (lJ _ _) (by rw[hs,iN];rfl) ?_;rw[lH OL];omega
def Sm{x:Nat}(Nw:V=v0+WB*v1)(ox:v0<WB)(lI:v1<WB)(hx:x<WB)(hR:R<V)(hG:G+1<WB)(Nx:G=(x+WB*R)/V):
  ∃s0 s1 s2,sM [x,R%WB,R/WB] (iQ 3 ((G+1)*V)) 0=[s0,s1,s2]∧sn [x,R%WB,R/WB] (iQ 3 ((G+1)*V)) 0=1∧s2<WB∧um [s0,s1] [v0,v1] 0<=1∧sq [s0,s1] [v0,v1] 0++[(s2+um [s0,s1] [v0,v1] 0)%WB]=iQ 3 ((x+WB*R)%V):=by
 have hV:V<WB*WB:=by have:WB*(v1+1)<=WB*WB:=ch _ lI;rw[cn,cU]at this;omega
 have EV:0<V:=bO (bm _) hR;have hRW:R<WB*WB:=dU hR hV;have hp:=oD hG hV;have hl:([x,R%WB,R/WB]:List Nat).length=(iQ 3 ((G+1)*V)).length:=by rw[iN];rfl
 have h1:=MD (c:=0) hl (Yg hx hRW) (lJ _ _) (bm _);have hc:=Gw [x,R%WB,R/WB] (iQ 3 ((G+1)*V)) 0 (bm _);have hs:=wM (c:=0) hl;have nT:=CK [x,R%WB,R/WB] (iQ 3 ((G+1)*V)) 0;have iI:=lP nT;rw[hs]at iI;rw[T3,lH hp]at h1;obtain⟨s0,s1,s2,hS⟩:=three (l:=sM [x,R%WB,R/WB] (iQ 3 ((G+1)*V)) 0) hs;rw[hS]at h1 iI nT⊢;have hm:=cT (x+WB*R) V;have hr:=bL (x+WB*R) EV;rw[<-Nx,bG V]at hm;have hmul:(G+1)*V=G*V+V:=Nat.succ_mul _ _;rw[hmul]at h1;simp only[bu,bH,bc,Nat.reduceAdd,b9]at h1 iI;have mM:sn [x,R%WB,R/WB] (iQ 3 ((G+1)*V)) 0=1:=by
  rcases dG (sn [x,R%WB,R/WB] (iQ 3 ((G+1)*V)) 0) 1 with h|h
  exfalso;rw[hmul]at h;rw[show sn [x,R%WB,R/WB] (iQ 3 (G*V+V)) 0=0 by omega]at h1;omega;omega
 rw[hmul]at mM;rw[mM,cU]at h1;obtain⟨k0,KL⟩:=iS.1 nT;obtain⟨k1,Oa⟩:=iS.1 KL;obtain⟨k2,_⟩:=iS.1 Oa;have ho2:okW [s0,s1]:=iS.2 ⟨k0,iS.2 ⟨k1,ke⟩⟩;have hov:okW [v0,v1]:=iS.2 ⟨ox,iS.2 ⟨lI,ke⟩⟩;have h2:=TU (x:=[s0,s1]) (y:=[v0,v1]) (c:=0) rfl;have hac:=ME (x:=[s0,s1]) (y:=[v0,v1]) (c:=0) ho2 hov (bm _);have oK:=wO (x:=[s0,s1]) (y:=[v0,v1]) (c:=0) rfl;have Vi:=TS [s0,s1] [v0,v1] 0;have halt:=lP Vi;rw[oK]at halt;rw[val_two,val_two,<-Nw]at h2;rw[La]at h1;simp only[bu,bH,bc,Nat.reduceAdd,b9]at h2 halt oK;refine⟨s0,s1,s2,rfl,by rw[hmul];exact mM,k2,hac,?_⟩;refine val_inj (kz.2 ⟨Vi,iS.2 ⟨bL _ af,ke⟩⟩) (lJ _ _) (by rw[bd,oK,iN];rfl) ?_;have OL:(x+WB*R)%V<WB^3:=by
  have:WB*WB<=WB^3:=af
  omega
 rw[lH OL,jy,oK,kK,mQ];have W2:WB^2=WB*WB:=af
 rw[W2]at h2 halt⊢;rw[WB3]at h1 iI;generalize um [s0,s1] [v0,v1] 0=ca at *
 generalize val (sq [s0,s1] [v0,v1] 0)=A at *
 have e1:WB*(s1+WB*s2)=WB*s1+WB*WB*s2:=by rw[cn,cN]
 rw[e1]at h1;have e2:A+WB*WB*(s2+ca)=WB*WB*WB+(x+WB*R)%V:=by rw[cn];omega
 have hrP:(x+WB*R)%V<WB*WB:=dU hr hV;have hPp:0<WB*WB:=af
 have e3:s2+ca=WB:=by
  have q1:(A+WB*WB*(s2+ca))/(WB*WB)=s2+ca:=by rw[cL _ _ hPp,cZ halt,bc]
  have q2:((x+WB*R)%V+WB*WB*WB)/(WB*WB)=WB:=by rw[cL _ _ hPp,cZ hrP,bc]
  rw[<-q1,e2,eK,q2]
 rw[e3]at e2⊢;rw[Nat.mod_self];simp;omega
section
variable{P:Program}{o:Oper}{ρ:Operand->PV}{H:PH}
def Zu{x y:Operand}{t u e:TypeId}{ys:List GV}(ho:o.op=.call {callee:=.builtin .copy,args:=⟨[x,y]⟩,argTypes:=⟨[t,u]⟩})(ht:P.underlying t=some (.slice e))(hs:kZ P e=some 1)(lY:ρ x=.iM)
  (hy:aaU H (ρ y)=some ys) (pD:∀id n off len cap,ρ y=.vw id n off len cap->∀n' e es,H.mu[id]?=some (.arr n' e es)->kZ P e=some 1) (hys:∀x∈ys,x.cells=[x]):
  PO P o ρ H (.g (.int .i64 0)) H:=by
 intro c ρr hr hx;have h1:=hx x (by simp[ho,Op.operands,Call.operands]);have h2:=hx y (by simp[ho,Op.operands,Call.operands]);rw[lY]at h1;generalize hv:ρr x=v at h1;cases h1;obtain⟨⟨yb,yc,hyv⟩,aeX⟩:=Kq hr h2 hy pD hys;obtain⟨us,ul,Ve,_⟩:=aeX 0 (bm _);have kX:(execOp ρr o).run P c.w=.ok (.value (.int .i64 0)) c.w:=by rw[hyv]at Ve;simp[execOp,ho,resolve,invoke,builtin,hv,hyv,Builtin.copy_,run_underlying ht,run_sizeOf hs,DQ,Ve,goInt]
 unfold kU;rw[kX];exact⟨c,rfl,hr,kI.refl c,.g _ _ (.int _ _)⟩
end
def Cg:∀(a b:List Nat) (y c:Nat),iO (a++b) y c=iO a y c++iO b y (iW a y c)∧iW (a++b) y c=iW b y (iW a y c)
 |[],_,_,_=>⟨rfl,rfl⟩|x::a,b,y,c=>by have ih:=Cg a b y ((x*y+c)/WB);constructor;show(x*y+c)%WB::iO (a++b) y ((x*y+c)/WB)=_;rw[ih.1];rfl;show iW (a++b) y ((x*y+c)/WB)=_;rw[ih.2];rfl
def FU:∀{l:List Nat},okW l->iO l 1 0=l∧iW l 1 0=0
 |[],_=>⟨rfl,rfl⟩
 |x::l,h=>by
  obtain⟨h1,h2⟩:=iS.1 h;have ih:=FU h2;have e1:(x*1+0)%WB=x:=by rw[cU,b9,bn h1]
  have e2:(x*1+0)/WB=0:=by rw[cU,b9,cZ h1]
  constructor;show(x*1+0)%WB::iO l 1 ((x*1+0)/WB)=_;rw[e1,e2,ih.1];show iW l 1 ((x*1+0)/WB)=_;rw[e2,ih.2]
def Zv(h:okW l)(h0:iW (l.take k) 1 c=0):iO l 1 c=iO (l.take k) 1 c++l.drop k∧iW l 1 c=0:=by have h1:=Cg (l.take k) (l.drop k) 1 c;rw[cA,h0]at h1;have h2:=FU (h.drop k);rw[h2.1,h2.2]at h1;exact h1
variable{us:List Nat}
def VE{W xs:List Nat}{o:Nat}(h:(W.drop o).take n=xs)(hl:xs.length=n)(hu:us.length<=n):iH W o (us++xs.drop us.length)=iH W o us:=by
 unfold iH;rw[<-bV,bd,eY,bV];congr 1;rw[<-h,List.drop_take,gr];have e:o+(us.length+(((W.drop o).take n).length-us.length))=o+n:=by rw[h];omega
 rw[e,show o+n=(o+us.length)+(n-us.length) by omega,<-gr (i:=n-us.length) (j:=o+us.length),cA]
section
variable{P:Program}{o:Oper}{env:Env}{H:PH}{K:List Nat}
variable{i off m:Nat}
def na{t:TypeId}{x:Operand}{id:Nat}{e:TypeId}{es:List GV}{x':GV}(hK:nv K (10000+id)=true)(ho:o.op=.load t x)(h1:qY P t=some true)(h2:kZ P t=some m)(hp:env.eval x=.kE id n i off)
  (hm:H.mu[id]?=some (.arr n e es)) (lY:es[i]?=some x') (hg:off+m<=x'.cells.length) (Fw:Nat.ble 10000 id=false:=by rfl) (hf:zH K o=false:=by rfl):lS P K o env H (.g (.agg ((x'.cells.drop off).take m))) H:=
 J1 (λH1 hq=>yx ho h1 h2 hp ((hq.mu id (nQ.1 hK) Fw)▸hm) lY hg) (by rw[ho];rfl) hf
def uQ(i:Nat){x y:Operand}{t e e':TypeId}{id len l:Nat}{k:IntKind}{z:Int}(hK:nv K (10000+id)=true)(ho:o.op=.indexAddr t x y)(ht:P.underlying t=some (.slice e))(hs:kZ P e=some m)(lY:env.eval x=.qm id n off len)(hi:env.eval y=.g (.int k z))
  (hm:M0 H.mu[id]?=some (1,n,e',l)) (he:kZ P e'=some m) (hz:z=i) (iI:i<len) (Fw:Nat.ble 10000 id=false:=by rfl):lS P K o env H (.kE id n (off+i) 0) H:=
 J0 (hk:=by rw[ho];rfl) λH1 hq=>by obtain⟨es,h1,h2⟩:=hq.arr hK Fw hm;exact Io i ho ht hs lY hi h1 he hz iI
end
end Go.Pure
namespace Go.Pure
open Go Go.Proofs Go.Shelf Go.Sort
variable{P:Program}{n:Nat}
def Ny{ρ:Ren}(L:SlLaysF0.n6 P ρ){e:Nat}{g:PV}:PC P (ρ.f 6) [.lK 0 n,g] ⟨[],[],[.arr n e []]⟩ (.tuple []) ⟨[],[],[.arr n e []]⟩:=by
 intro c vs hr ha;obtain⟨hl,hv⟩:=ha;obtain⟨v0,v1,rfl⟩:∃v0 v1,vs= #[v0,v1]:=by
  obtain⟨l⟩:=vs;match l,hl with
  |[a,b],_=>exact⟨a,b,rfl⟩
 have h0:=hv 0 _ v0 rfl rfl;cases h0 with
 |lK _ _ _ t ht hn h1 ox=>
 obtain⟨e1,e2,e3,e4⟩:=hr.mu 0 t _ ht rfl;have e2:t.len=0:=e2;obtain⟨p,cap,rfl⟩:∃p cap,v0=.slice p 0 cap:=by
  rcases ox e1.symm with⟨_,rfl⟩|⟨_,rfl⟩
  exact⟨_,_,by rw[e2]⟩;exact⟨_,_,rfl⟩
 refine(AnyF.slices_SortFunc_none L p cap v1 c.w).mono ?_;rintro ev w' ⟨rfl,rfl⟩;exact⟨.tuple #[],c,rfl,rfl,hr,kI.refl c,.tuple _ _ rfl aa⟩
end Go.Pure
namespace Go.Pure.V
open Go Go.Pure
abbrev WB:Nat:=4294967296
def wG(n:Nat):GV:=.int .u32 n
def iG(l:List Nat):List GV:=l.map wG
def okW(l:List Nat):Prop:= ∀w∈l,w<WB
def val:List Nat->Nat
 |[]=>0|w::r=>w+WB*val r
def iK(l:List Nat):(iG l).length=l.length:=by simp[iG]
variable{l:List Nat}
def nA:∀x∈iG l,x.cells=[x]:=by intro x hx;obtain⟨n,_,rfl⟩:=cH.1 hx;rfl
variable{i w:Nat}
def iT(h:l[i]?=some w):(iG l)[i]?=some (wG w):=by simp[iG,h]
def ke:okW []:=by simp[okW]
def iS:okW (w::l)↔w<WB∧okW l:=by simp[okW]
variable{a b:List Nat}
def kz:okW (a++b)↔okW a∧okW b:=by simp only[okW,bC];exact⟨λh=>⟨λw hw=>h w (.inl hw),λw hw=>h w (.inr hw)⟩,λh w hw=>hw.elim (h.1 w) (h.2 w)⟩
def okW.take{l:List Nat}(h:okW l)(n:Nat):okW (l.take n):=λw hw=>h w (cC hw)
def okW.drop{l:List Nat}(h:okW l)(n:Nat):okW (l.drop n):=λw hw=>h w (fj hw)
def okW.at(h:okW l)(hi:l[i]?=some w):w<WB:=h w (aY hi)
def oB(n:Nat):okW (List.replicate n 0):=λw hw=>by rw[(fS.1 hw).2];decide
def mQ:val []=0:=rfl
def kK(w:Nat)(l:List Nat):val (w::l)=w+WB*val l:=rfl
def jy:∀a b:List Nat,val (a++b)=val a+WB^a.length*val b
 |[],b=>by simp[val]|w::a,b=>by simp only[dQ,val,jy a b,bu,cW];rw[cn,<-ep];congr 1;rw[<-cN,bG WB]
def vK:∀n:Nat,val (List.replicate n 0)=0
 |0=>rfl|n+1=>by simp[fB,val,vK n]
def Lb(n:Nat):0<WB^n:=dt af
def lP:∀{l:List Nat},okW l->val l<WB^l.length
 |[],_=>by simp[val]
 |w::l,h=>by obtain⟨h1,h2⟩:=iS.1 h;have:=lP h2;simp only[val,bu,cW];have h3:WB*(val l+1)<=WB*WB^l.length:=ch _ this;rw[cn,cU]at h3;rw[bG (WB^l.length)];omega
def val_inj:∀{a b:List Nat},okW a->okW b->a.length=b.length->val a=val b->a=b
 |[],[],_,_,_,_=>rfl|[],_::_,_,_,h,_=>by cases h|_::_,[],_,_,h,_=>by cases h
 |x::a,y::b,ha,hb,hl,h=>by
  obtain⟨h1,h2⟩:=iS.1 ha;obtain⟨h3,h4⟩:=iS.1 hb;simp only[val]at h;have e1:x=y:=by have:=aT (· %WB) h;simpa[dc,bn h1,bn h3]using this
  subst e1;have e2:val a=val b:=Nat.eq_of_mul_eq_mul_left (show 0<WB by decide) ab;rw[val_inj h2 h4 (by simpa using hl) e2]
def iF(n:Nat):List Nat:=if h:n=0 then []else(n%WB)::iF (n/WB)
termination_by n
decreasing_by exact Nat.div_lt_self (Nat.pos_of_ne_zero h) af
def jg:iF 0=[]:=by rw[iF];simp
variable{n:Nat}
def ml(h:n≠0):iF n=(n%WB)::iF (n/WB):=by rw[iF];simp[h]
def Mu(h:iF n=[]):n=0:=by by_cases hn:n=0;exact hn;rw[ml hn]at h;cases h
def jm(n:Nat):val (iF n)=n:=by
 induction n using Nat.strongRecOn with
 |ind n ih=>
  by_cases hn:n=0;rw[hn,jg];rfl;rw[ml hn,val,ih _ (Nat.div_lt_self (Nat.pos_of_ne_zero hn) af)];exact cT n WB
def ji(n:Nat):okW (iF n):=by
 induction n using Nat.strongRecOn with
 |ind n ih=>
  by_cases hn:n=0;rw[hn,jg];exact ke;rw[ml hn];exact iS.2 ⟨bL _ af,ih _ (Nat.div_lt_self (Nat.pos_of_ne_zero hn) af)⟩
def jC(h0:n≠0)(h:n<WB):iF n=[n]:=by rw[ml h0,bn h,cZ h,jg]
def mL:List Nat->Nat
 |[]=>0|w::r=>if mL r=0 then(if w=0 then 0 else 1)else mL r+1
def yj:∀l:List Nat,mL l<=l.length
 |[]=>aZ _|w::r=>by have:=yj r;simp only[mL,bu];split;split<;>omega;omega
def xM:∀{l:List Nat},mL l=0->val l=0
 |[],_=>rfl|w::r,h=>by simp only[mL]at h;split at h;rename_i h1;split at h;rename_i h2;subst h2;simp[val,xM h1];cases h;cases h
def vL:∀{l:List Nat},okW l->iF (val l)=l.take (mL l)
 |[],_=>by simp[val,jg,mL]
 |w::r,h=>by
  obtain⟨h1,h2⟩:=iS.1 h;have ih:=vL h2;simp only[val,mL];by_cases hr:mL r=0;rw[aW hr,xM hr];by_cases hw:w=0;subst hw;simp[jg];rw[aV hw,dZ,b9,jC hw h1];simp
  ·rw[aV hr];have hv:val r≠0:=λhv=>by
    rw[hv,jg]at ih;have:=aT List.length ih;have hl:=yj r;simp at this;omega
   rw[ml (by have:0<WB*val r:=fD af (Nat.pos_of_ne_zero hv);omega),eH,<-ih];rw[dc,bn h1,cL _ _ af,cZ h1,bc]
def zQ(h:okW l):(iF (val l)).length=mL l:=by rw[vL h,bW];exact ec (yj l)
variable{k:Nat}
def iU(h:n<WB^k):(iF n).length<=k:=by
 induction k generalizing n with
 |zero=>
  have:n=0:=by simpa using h
  subst this;simp[jg]
 |succ k ih=>
  by_cases hn:n=0;subst hn;simp[jg];rw[ml hn,bu];have:n/WB<WB^k:=eW (by rw[cW,bG]at h;exact h);have:=ih this;omega
def AN(hk:l[k]?=some w)(hz:∀j,k<j->∀x,l[j]?=some x->x=0)(hw:w≠0):mL l=k+1:=by
 induction l generalizing k with
 |nil=>simp at hk
 |cons x r ih=>
  cases k with
  |zero=>
   simp at hk;subst hk;have:mL r=0:=by
    have lM:∀y∈r,y=0:=λy hy=>(by obtain⟨j,hj⟩:=bt hy;exact hz (j+1) ab y (by simpa using hj));clear ih hz;induction r with
    |nil=>rfl
    |cons y r QN=>
     simp only[mL];rw[QN λz hz=>lM z (bw _ hz),aW rfl,aW (lM y bE)]
   simp[mL,this,hw]
  |succ k=>
   have:=ih (by simpa using hk) λj hj y hy=>hz (j+1) ab y (by simpa using hy);simp[mL,this]
def EG(h:∀x∈l,x=0):mL l=0:=by
 induction l with
 |nil=>rfl
 |cons y r ih=>
  simp only[mL];rw[ih λz hz=>h z (bw _ hz),aW rfl,aW (h y bE)]
def iO:List Nat->Nat->Nat->List Nat
 |[],_,_=>[]|x::r,y,c=>(x*y+c)%WB::iO r y ((x*y+c)/WB)
def iW:List Nat->Nat->Nat->Nat
 |[],_,c=>c|x::r,y,c=>iW r y ((x*y+c)/WB)
def jh:∀(l:List Nat) (y c:Nat),(iO l y c).length=l.length
 |[],_,_=>rfl|x::r,y,c=>by simp[iO,jh r]
def rm:∀(l:List Nat) (y c:Nat),okW (iO l y c)
 |[],_,_=>ke|x::r,y,c=>iS.2 ⟨bL _ af,rm r _ _⟩
def rn:∀(l:List Nat) (y c:Nat),val (iO l y c)+WB^l.length*iW l y c=val l*y+c
 |[],_,_=>by simp[iO,iW,val]
 |x::r,y,c=>by
  have ih:=rn r y ((x*y+c)/WB);simp only[iO,iW,val,bu,cW];have h1:WB*(val (iO r y ((x*y+c)/WB))+WB^r.length*iW r y ((x*y+c)/WB))=WB*(val r*y+(x*y+c)/WB):=by rw[ih]
  have h2:=cT (x*y+c) WB;rw[cn,cn,<-cN,<-cN]at h1;rw[bB,bG (WB^r.length) WB];omega
def jb:List Nat->List Nat->Nat->Nat->List Nat
 |z::zs,y::ys,m,c=>(y*m+z+c)%WB::jb zs ys m ((y*m+z+c)/WB)|_,_,_,_=>[]
def jk:List Nat->List Nat->Nat->Nat->Nat
 |z::zs,y::ys,m,c=>jk zs ys m ((y*m+z+c)/WB)|_,_,_,c=>c
def kM:∀{z y:List Nat} {m c:Nat},z.length=y.length->(jb z y m c).length=z.length
 |[],[],_,_,_=>rfl|[],_::_,_,_,h=>by cases h|_::_,[],_,_,h=>by cases h|z::zs,y::ys,m,c,h=>by simp[jb,kM (z:=zs) (y:=ys) (by simpa using h)]
def vj:∀(z y:List Nat) (m c:Nat),okW (jb z y m c)
 |[],_,_,_=>by simp[jb,ke]|_::_,[],_,_=>by simp[jb,ke]|z::zs,y::ys,m,c=>iS.2 ⟨bL _ af,vj zs ys _ _⟩
variable{y c:Nat}
def B9{x z:Nat}(hx:x<WB)(hy:y<WB)(hz:z<WB)(hc:c<WB):(x*y+z+c)/WB<WB:=by
 refine eW ?_;have:x*y<=(WB-1)*(WB-1):=dy ab ab;have:(WB-1)*(WB-1)+WB+WB<=WB*WB+1:=af
 omega
def nL:∀{z y:List Nat} {m c:Nat},okW z->okW y->m<WB->c<WB->jk z y m c<WB
 |[],_,_,_,_,_,_,hc=>by simpa[jk]using hc|_::_,[],_,_,_,_,_,hc=>by simpa[jk]using hc
 |z::zs,y::ys,m,c,hz,hy,hm,hc=>by obtain⟨h1,h2⟩:=iS.1 hz;obtain⟨h3,h4⟩:=iS.1 hy;show jk zs ys m ((y*m+z+c)/WB)<WB;exact nL h2 h4 hm (B9 h3 hm h1 hc)
def vk:∀{z y:List Nat} (m c:Nat),z.length=y.length->val (jb z y m c)+WB^z.length*jk z y m c=val z+val y*m+c
 |[],[],_,_,_=>by simp[jb,jk,val]|[],_::_,_,_,h=>by cases h|_::_,[],_,_,h=>by cases h
 |z::zs,y::ys,m,c,h=>by
  have ih:=vk (z:=zs) (y:=ys) m ((y*m+z+c)/WB) (by simpa using h);simp only[jb,jk,val,bu,cW];have h1:WB*(val (jb zs ys m ((y*m+z+c)/WB))+WB^zs.length*jk zs ys m ((y*m+z+c)/WB))=WB*(val zs+val ys*m+(y*m+z+c)/WB):=by rw[ih]
  have h2:=cT (y*m+z+c) WB;rw[cn,cn,cn,<-cN,<-cN]at h1;rw[bB,bG (WB^zs.length) WB];omega
def iH(ws:List Nat)(off:Nat)(us:List Nat):List Nat:=ws.take off++us++ws.drop (off+us.length)
variable{ws us:List Nat}{off:Nat}
def iX(h:off+us.length<=ws.length):(iH ws off us).length=ws.length:=by simp[iH];omega
def yk(off:Nat)(h1:okW ws)(h2:okW us):okW (iH ws off us):=kz.2 ⟨kz.2 ⟨h1.take _,h2⟩,h1.drop _⟩
def EI(h:off+us.length<=ws.length):((iH ws off us).drop off).take us.length=us:=by
 unfold iH;have e1:(ws.take off).length=off:=by simp;omega
 rw[bV,List.drop_append,dH ab,dX,e1,dA,dz,List.take_left'];rfl
def yH(zs x:List Nat)(i d:Nat):List Nat:=
 iH zs i (jb ((zs.drop i).take x.length) x d 0++[jk ((zs.drop i).take x.length) x d 0])
structure mY(x y zs:List Nat)(i:Nat):Prop where
 ok:okW zs
 len:zs.length=x.length+y.length
 v:val zs=val x*val (y.take i)
 z:∀k,x.length+i<=k->∀w,zs[k]?=some w->w=0
variable{zs:List Nat}
def Mv(h:i+us.length<=zs.length):val (iH zs i us)+WB^i*val ((zs.drop i).take us.length)=val zs+WB^i*val us:=by
 have e1:(zs.take i).length=i:=by simp;omega
 have hz:val zs=val (zs.take i)+WB^i*(val ((zs.drop i).take us.length)+WB^us.length*val (zs.drop (i+us.length))):=by
  conv=>lhs;rw[<-cA i zs,<-cA us.length (zs.drop i)]
  rw[jy,jy,e1,gr];have:((zs.drop i).take us.length).length=us.length:=by simp;omega
  rw[this]
 have hp:val (iH zs i us)=val (zs.take i)+WB^i*(val us+WB^us.length*val (zs.drop (i+us.length))):=by unfold iH;rw[bV,jy,jy,e1]
 rw[hz,hp];simp only[cn];omega
def mY.start(x y:List Nat):mY x y (List.replicate (x.length+y.length) 0) 0:=
 ⟨oB _,by simp,by simp[vK,val],λk _ w hw=>by rw[eJ]at hw;split at hw<;>simp_all⟩
def mY.step{x y:List Nat}{d:Nat}(hx:okW x)(h:mY x y zs i)(hd:y[i]?=some d)(yV:d<WB):mY x y (yH zs x i d) (i+1):=by
 have hi:=(aR.1 hd).1;have hl:=h.len;have hp:((zs.drop i).take x.length).length=x.length:=by simp;omega
 have ae3:okW ((zs.drop i).take x.length):=(h.ok.drop i).take _;have Bm:(jb ((zs.drop i).take x.length) x d 0++[jk ((zs.drop i).take x.length) x d 0]).length=x.length+1:=by rw[bd,kM hp,hp];rfl
 have hc:=nL ae3 hx yV (show 0<WB by decide);have mK:i+(jb ((zs.drop i).take x.length) x d 0++[jk ((zs.drop i).take x.length) x d 0]).length<=zs.length:=by rw[Bm];omega
 have hzero:∀k,x.length+i<=k->∀w,zs[k]?=some w->w=0:=h.z;have hold:val ((zs.drop i).take (x.length+1))=val ((zs.drop i).take x.length):=by
  rw[fu,jy];have:((zs.drop i)[x.length]?).toList=[0]:=by rw[bD];have iI:i+x.length<zs.length:=ab;rw[aS iI];have:=hzero (i+x.length) ab _ (aS iI);simp[this]
  rw[this];simp[val]
 have q7:val (jb ((zs.drop i).take x.length) x d 0++[jk ((zs.drop i).take x.length) x d 0])=val ((zs.drop i).take x.length)+val x*d:=by have:=vk (z:=(zs.drop i).take x.length) (y:=x) d 0 hp;rw[jy,kM hp];simp only[val,dZ,b9]at this⊢;exact this
 refine⟨yk _ h.ok (kz.2 ⟨vj _ _ _ _,iS.2 ⟨hc,ke⟩⟩),?_,?_,?_⟩;unfold yH;rw[iX mK,hl]
 ·have hv:=Mv mK;rw[Bm,hold,q7,h.v]at hv;unfold yH;rw[fu,hd,Option.toList_some,jy,bW,ec ab];simp only[val,dZ,b9,cn]at hv⊢;have:val x*(WB^i*d)=WB^i*(val x*d):=by rw[<-cN,<-cN,bG (val x)]
  omega
 ·intro k hk w hw;unfold yH at hw;generalize jb ((zs.drop i).take x.length) x d 0++[jk ((zs.drop i).take x.length) x d 0]=us at Bm mK hw;unfold iH at hw;have h1:(zs.take i++us).length=i+us.length:=by simp;omega
  rw[a7 ab,bD,h1]at hw;exact hzero _ ab w hw
def mY.done{x y:List Nat}(h:mY x y zs y.length):val zs=val x*val y:=by rw[h.v,du]
def iQ:Nat->Nat->List Nat
 |0,_=>[]|k+1,v=>v%WB::iQ k (v/WB)
def iN:∀k v:Nat,(iQ k v).length=k
 |0,_=>rfl|k+1,v=>by simp[iQ,iN k]
def lJ:∀k v:Nat,okW (iQ k v)
 |0,_=>ke|k+1,v=>iS.2 ⟨bL _ af,lJ k _⟩
def sf:∀{l:List Nat},okW l->iQ l.length (val l)=l
 |[],_=>rfl
 |w::r,h=>by obtain⟨h1,h2⟩:=iS.1 h;simp only[bu,iQ,val];rw[dc,bn h1,cL _ _ af,cZ h1,bc,sf h2]
def lH:∀{k v:Nat},v<WB^k->val (iQ k v)=v
 |0,v,h=>by
  have:v=0:=by simpa using h
  subst this;rfl
 |k+1,v,h=>by have:v/WB<WB^k:=eW (by rw[cW,bG]at h;exact h);simp only[iQ,val];rw[lH this];exact cT v WB
def mf{v:Nat}(h:v<WB^k):mL (iQ k v)=(iF v).length:=by rw[<-zQ (lJ k v),lH h]
end Go.Pure.V
namespace Go.Pure.V
open Go
variable{ws:List Nat}{i w:Nat}
def jo:(iG ws).set i (wG w)=iG (ws.set i w):=by unfold iG;rw[iC]
variable{us:List Nat}{off n:Nat}
def kx(hl:us.length=n)(h:off+n<ws.length):(iH ws off us).set (off+n) w=iH ws off (us++[w]):=by
 subst hl;have hlen:(iH ws off us).length=ws.length:=iX ab;apply eE;intro k;rw[List.getElem?_set];unfold iH;have e1:(ws.take off).length=off:=by simp;omega
 by_cases hk:off+us.length=k;subst hk;rw[aW rfl,aW (by have:=hlen;unfold iH at this;rw[this];exact h)];rw[bV,a7 ab,e1,a8 aa,a7 ab];simp
 ·rw[aV hk];have e2:(ws.take off++us).length=off+us.length:=by rw[bd,e1]
  have e3:ws.take off++(us++[w])++ws.drop (off+(us++[w]).length)=(ws.take off++us)++([w]++ws.drop (off+(us++[w]).length)):=aa
  rw[e3];by_cases h1:k<off+us.length;rw[a8 ab,a8 (l₁:=ws.take off++us) ab];rw[a7 ab,a7 (l₁:=ws.take off++us) ab,e2,a7 ad,bD,bD];congr 1;simp;omega
def oh(ws:List Nat)(off:Nat):iH ws off []=ws:=by simp[iH]
variable{k:Nat}
def oi(h:off+us.length<=k):(iH ws off us)[k]?=ws[k]? :=by unfold iH;by_cases hk:k<ws.length;rw[a7 ad,bD];congr 1;simp;omega;rw[dp ad,dp ab]
def rV:∀{l:List Nat} {y c i x:Nat},l[i]?=some x->iO (l.take (i+1)) y c=iO (l.take i) y c++[(x*y+iW (l.take i) y c)%WB]∧iW (l.take (i+1)) y c=(x*y+iW (l.take i) y c)/WB
 |[],_,_,_,_,h=>by simp at h|z::r,y,c,0,x,h=>by simp at h;subst h;simp[iO,iW]|z::r,y,c,i+1,x,h=>by have:=rV (l:=r) (y:=y) (c:=(z*y+c)/WB) (i:=i) (x:=x) (by simpa using h);simp only[eH,iO,iW,dQ];exact⟨by rw[this.1],this.2⟩
def rW:∀{z l:List Nat} {m c i x y:Nat},z[i]?=some x->l[i]?=some y->jb (z.take (i+1)) (l.take (i+1)) m c=jb (z.take i) (l.take i) m c++[(y*m+x+jk (z.take i) (l.take i) m c)%WB]∧jk (z.take (i+1)) (l.take (i+1)) m c=(y*m+x+jk (z.take i) (l.take i) m c)/WB
 |[],_,_,_,_,_,_,h,_=>by simp at h|_::_,[],_,_,_,_,_,_,h=>by simp at h|z::zs,q::l,m,c,0,x,y,h,h'=>by simp at h h';subst h;subst h';simp[jb,jk]|z::zs,q::l,m,c,i+1,x,y,h,h'=>by have:=rW (z:=zs) (l:=l) (m:=m) (c:=(q*m+z+c)/WB) (i:=i) (x:=x) (y:=y) (by simpa using h) (by simpa using h');simp only[eH,jb,jk,dQ];exact⟨by rw[this.1],this.2⟩
def jW(ws zs:List Nat):iH ws 0 zs=zs++ws.drop zs.length:=by simp[iH]
variable{zs:List Nat}
def Gx(h:i+us.length<=zs.length):iH (iH ws 0 zs) i us=iH ws 0 (iH zs i us):=by rw[jW,jW,iX h];unfold iH;rw[cV ab,gh h];simp
def kL(X:Nat):(iG (iF X)).length=(iF X).length:=iK _
def jl{X:Nat}(h:X≠0):1<=(iG (iF X)).length:=by
 rw[kL];cases hd:iF X with
 |nil=>exact absurd (Mu hd) h|cons a l=>simp
def s8:∀{xs ys:List Nat} {i a b:Nat},okW xs->okW ys->xs.length=ys.length->xs[i]?=some a->ys[i]?=some b->xs.drop (i+1)=ys.drop (i+1)->a<b->val xs<val ys
 |[],_,_,_,_,_,_,_,h,_,_,_=>by simp at h|_::_,[],_,_,_,_,_,_,_,h,_,_=>by simp at h|x::xs,y::ys,0,a,b,hx,hy,hl,ha,hb,hd,h=>by simp only[gi,cg]at ha hb;subst ha hb;simp only[List.drop_succ_cons,dz]at hd;subst hd;simp only[kK];omega
 |x::xs,y::ys,i+1,a,b,hx,hy,hl,ha,hb,hd,h=>by obtain⟨kf,BL⟩:=iS.1 hx;obtain⟨pD,OC⟩:=iS.1 hy;have ih:=s8 (i:=i) (a:=a) (b:=b) BL OC (by simpa using hl) (by simpa using ha) (by simpa using hb) (by simpa using hd) h;simp only[kK];have:=ch WB (Nat.succ_le_of_lt ih);rw[Nat.mul_succ]at this;omega
def vp{X Y:Nat}(h:(iF X).length<(iF Y).length):X<Y:=by have h1:=lP (ji X);rw[jm]at h1;by_cases hc:Y<WB^(iF X).length;have:=iU hc;omega;omega
end Go.Pure.V
namespace Go.Pure
open Go
section
variable{P:Program}{o:Oper}{ρ:Operand->PV}{H:PH}
def IW{x y:Operand}{t e:TypeId}{xs:List GV}{size bytes:Nat}{z:Value}(ho:o.op=.call {callee:=.builtin .append,args:=⟨[x,y]⟩,argTypes:=⟨[t,t]⟩})
  (ht:P.underlying t=some (.slice e)) (hs:kZ P e=some size) (yv:sF P e=some bytes) (hz:my P e=some z) (sP:Nat.beq z.cells.size size=true) (hx:ρ x=.iM) (hy:elems (ρ y)=some xs) (hH:yi H.bx.length H.tk.length H.mu.length H.bx=true)
  (vJ:∀x∈xs,x.cells.length=size) (mK:xs.length*bytes<=140737488355328) (se:xs.length<=maxLen):PO P o ρ H (.g (.sl xs)) H:=by
 intro c ρr hr oH;haveI:DecidableEq Operand:=λa b=>Classical.propDecidable (a=b);have OH:c.τ.length=H.tk.length:=by have:=aT List.length hr.tk;simpa using this
 obtain⟨r2,e2⟩:=hr.Gi (e:=e) hs;have q:=Az (o:=o) (ρ:=λq=>if q=x then .own [] H.tk.length else ρ q) (H:=⟨H.bx,H.tk++[(e,0)],H.mu⟩) (es:=[]) (xs:=xs) (id:=H.tk.length) (n:=0) ho ht hs yv hz sP (aW rfl) (by
   by_cases hq:y=x;subst hq;rw[hx]at hy;have h0:xs=[]:=(by simpa[elems]using hy.symm);subst h0;simp[elems];simp only[aV hq];exact hy) aa rfl vJ (by simpa using mK) (by simpa using se) _ ρr r2 (by
   intro q hq;by_cases hqx:q=x;subst hqx;simp only[gF];have h1:=oH q hq;rw[hx]at h1;generalize ρr q=v at h1;cases h1;exact .own [] H.tk.length _ ⟨false,0,e,size,0,0⟩ .nil (by rw[<-OH];simp) aa (aZ _) (λ_=>.inr ⟨rfl,rfl⟩);simp only[aV hqx];exact(oH q hq).mono e2)
 unfold kU at q⊢;have key:∀(rv:Value) (w':World),(∃c',c'.w=w'∧Rel P c' ⟨H.bx,(H.tk++[(e,0)]).set H.tk.length (e,0+xs.length),H.mu⟩∧kI ⟨c.σ,c.τ++[⟨false,0,e,size,0,0⟩],c.μ,c.hid,c.w⟩ c'∧RV c' (.own ([]++xs) H.tk.length) rv)->∃c',c'.w=w'∧Rel P c' H∧kI c c'∧RV c' (.g (.sl xs)) rv:=by
  rintro rv w' ⟨c',rfl,kP,rX,hv⟩;have hE:=e2.trans rX;have lG:(H.tk++[(e,0)]).set H.tk.length (e,0+xs.length)=H.tk++[(e,0+xs.length)]:=aa
  rw[lG]at kP;refine⟨c'.cut H.bx.length H.tk.length H.mu.length,rfl,kP.cut ⟨[],by simp⟩ ⟨_,rfl⟩ ⟨[],by simp⟩ (qq hH),hE.cut ?_ ?_ ?_,(ye hv).cut (.g _)⟩;rw[hr.len];exact aZ _;rw[OH];exact aZ _;rw[hr.nq];exact aZ _
 have pQ:(execOp ρr o).run P c.w=((Builtin.append_ #[t,t] o.type #[ρr x,ρr y]).run P c.w).andThen λr w=>.ok (.value r) w:=by simp[execOp,ho,resolve,invoke,builtin]
 have aeW:(execOp ρr o).run P (⟨c.σ,c.τ++[⟨false,0,e,size,0,0⟩],c.μ,c.hid,c.w⟩:Ctx).w=((Builtin.append_ #[t,t] o.type #[ρr x,ρr y]).run P c.w).andThen λr w=>.ok (.value r) w:=pQ;rw[aeW]at q;rw[pQ];revert q;cases(Builtin.append_ #[t,t] o.type #[ρr x,ρr y]).run P c.w with
 |ok rv w'=>exact key rv w'
 |_=>exact λh=>h
end
end Go.Pure
namespace Go.Pure.V
open Go
variable{l:List Nat}{k:Nat}
def HA{x:Nat}(h:l[k]?=some x):val (l.drop k)=x+WB*val (l.drop (k+1)):=by have hk:=(aR.1 h).1;rw[bY hk,kK];rw[aS hk]at h;rw[cE h]
def qW(D:Nat)(l:List Nat)(k:Nat):List Nat:=List.replicate k 0++iQ (l.length-k) (val (l.drop k)/D)
variable{D:Nat}
def Lc(h:k<=l.length):(qW D l k).length=l.length:=by unfold qW;rw[bd,cS,iN];omega
def Zw(D:Nat)(l:List Nat):qW D l l.length=List.replicate l.length 0:=by unfold qW;rw[dA];simp[iQ]
def acm(D:Nat)(l:List Nat):qW D l 0=iQ l.length (val l/D):=by unfold qW;simp
def HC(D x X:Nat)(hD:0<D):(x+WB*X)/D=(x+WB*(X%D))/D+WB*(X/D)∧(x+WB*X)%D=(x+WB*(X%D))%D:=by
 have h1:=cT X D;have e:x+WB*X=x+WB*(X%D)+D*(WB*(X/D)):=by
  conv=>lhs;rw[<-h1]
  rw[cn,Nat.mul_left_comm];omega
 refine⟨?_,?_⟩;rw[e,cL _ _ hD];rw[e,dc]
variable{R:Nat}
def Df{x:Nat}(hx:x<WB)(hR:R<D):(x+WB*R)/D<WB:=by refine(bK ab).2 ?_;have:WB*(R+1)<=WB*D:=ch _ hR;rw[cn,cU]at this;omega
def T4{P S:List Nat}{x y:Nat}:(P++x::S).set P.length y=P++y::S:=by rw[dW _ _ (aZ _),dA];rfl
def acn{x:Nat}(hD:0<D)(hx:x<WB)(h:l[k]?=some x):(qW D l (k+1)).set k ((x+WB*(val (l.drop (k+1))%D))/D)=qW D l k:=by have hk:=(aR.1 h).1;have hs:=(HC D x (val (l.drop (k+1))) hD).1;have hd:=Df (x:=x) hx (bL (val (l.drop (k+1))) hD);unfold qW;rw[HA h,hs,show l.length-k=(l.length-(k+1))+1 by omega,iQ,dc,bn hd,cL _ _ af,cZ hd,bc];rw[List.replicate_succ',bV];have:= @T4 (List.replicate k 0) (iQ (l.length-(k+1)) (val (l.drop (k+1))/D)) 0 ((x+WB*(val (l.drop (k+1))%D))/D);rw[cS]at this;exact this
def Ld{x:Nat}(hD:0<D)(h:l[k]?=some x):val (l.drop k)%D=(x+WB*(val (l.drop (k+1))%D))%D:=by rw[HA h];exact(HC D x _ hD).2
def uW(D:Nat)(l:List Nat)(k:Nat):List Nat:=l.take k++(val (l.drop k)%D)%WB::(val (l.drop k)%D)/WB::List.replicate (l.length-k-2) 0
def EW(h:k+2<=l.length):(uW D l k).length=l.length:=by unfold uW;simp;omega
def Zx(hw:okW l)(h2:2<=l.length)(h:val (l.drop (l.length-2))<D):uW D l (l.length-2)=l:=by
 unfold uW;rw[bn h,show l.length-(l.length-2)-2=0 by omega];have e:(l.drop (l.length-2)).length=2:=by simp;omega
 have hp:=sf (hw.drop (l.length-2));rw[e]at hp;simp only[iQ]at hp;have hq:val (l.drop (l.length-2))/WB<WB:=by have:=lP (hw.drop (l.length-2));rw[e]at this;exact(bK af).2 (by rw[cW,dT]at this;exact this)
 rw[bn hq]at hp;rw[gn,hp,cA]
def T5{x:Nat}(h:l[k]?=some x):uW D l (k+1)=l.take k++x::(val (l.drop (k+1))%D)%WB::(val (l.drop (k+1))%D)/WB::List.replicate (l.length-(k+1)-2) 0:=by unfold uW;rw[fu,h];simp
def agw{x:Nat}(h:l[k]?=some x):(uW D l (k+1))[k]?=some x∧(uW D l (k+1))[k+1]?=some ((val (l.drop (k+1))%D)%WB)∧(uW D l (k+1))[k+2]?=some ((val (l.drop (k+1))%D)/WB):=by
 have hk:=(aR.1 h).1;have e:(l.take k).length=k:=by simp;omega
 rw[T5 h];refine⟨?_,?_,?_⟩;rw[a7 ab,e,dA];rfl;rw[a7 ab,e,show k+1-k=1 by omega];rfl;rw[a7 ab,e,show k+2-k=2 by omega];rfl
def aco{x a b:Nat}(hD:0<D)(h:l[k]?=some x)(n9:k+3<=l.length)(ha:a<WB)(lr:a+WB*b=(x+WB*(val (l.drop (k+1))%D))%D):(((uW D l (k+1)).set k a).set (k+1) b).set (k+2) 0=uW D l k:=by
 have e:(l.take k).length=k:=by simp;omega
 rw[T5 h];have hr:=Ld hD h;rw[<-lr]at hr;unfold uW;rw[hr,dc,bn ha,cL _ _ af,cZ ha,bc];rw[dW _ _ ab,e,dA,fU];rw[dW _ _ ab,e,show k+1-k=1 by omega,List.set_cons_succ,fU];rw[dW _ _ ab,e,show k+2-k=2 by omega,List.set_cons_succ,List.set_cons_succ,fU];rw[show l.length-k-2=(l.length-(k+1)-2)+1 by omega,fB]
def acp:val (uW D l 0)=val l%D:=by unfold uW;simp only[e8,dz,dX,kK,vK];have:=cT (val l%D) WB;omega
structure Win(u2 u1 u0 v1 v0 g x1 x0 d0 d1:Nat):Prop where
 BR:d0=if u0<g*v0%WB then 1 else 0
 sJ:x0=(u0+WB-g*v0%WB)%WB
 vS:d1=if u1<(g*v0/WB+g*v1)%WB+d0 then 1 else 0
 kf:x1=(u1+(WB+WB)-(g*v0/WB+g*v1)%WB-d0)%WB
 hv:x0+WB*x1=(u0+WB*(u1+WB*u2))%(v0+WB*v1)
 h2:u2=(g*v0/WB+g*v1)/WB+d1
 hp:g*v0/WB+g*v1<WB*WB
variable{u2 v1 v0:Nat}
def Win.mk'{u1 u0 g:Nat}(hu0:u0<WB)(CA:u1<WB)(ox:v0<WB)(lI:v1<WB)(hg:g<WB)(hV:0<v0+WB*v1)(he:g=(u0+WB*(u1+WB*u2))/(v0+WB*v1)):∃x1 x0 d0 d1,Win u2 u1 u0 v1 v0 g x1 x0 d0 d1:=by
 refine⟨_,_,_,_,rfl,rfl,rfl,rfl,?_,?_,?_⟩;all_goals
  have hm:=cT (u0+WB*(u1+WB*u2)) (v0+WB*v1)
  have iI:=bL (u0+WB*(u1+WB*u2)) hV
  rw[<-he]at hm
  have e1:(v0+WB*v1)*g=g*v0+WB*(g*v1):=by rw[bB,bG v0,cN,bG v1]
  rw[e1]at hm
  have b1:g*v1<=(WB-1)*(WB-1):=dy ab ab
  have b0:g*v0<=(WB-1)*(WB-1):=dy ab ab
  generalize g*v0=p0,g*v1=p1 at *
  generalize hr:(u0+WB*(u1+WB*u2))%(v0+WB*v1)=r at *
  clear hr he e1 hV
  unfold WB at *
 by_cases c0:u0<p0%4294967296;rw[aW c0];omega;rw[aV c0];omega;by_cases c0:u0<p0%4294967296;rw[aW c0];split<;>omega;rw[aV c0];split<;>omega;omega
def wX:∀{l:List Nat} {y c:Nat},okW l->c<y->iW l y c<y
 |[],_,_,_,hc=>hc
 |x::r,y,c,h,hc=>by obtain⟨h1,h2⟩:=iS.1 h;show iW r y ((x*y+c)/WB)<y;refine wX h2 ((bK af).2 ?_);have:(x+1)*y<=WB*y:=bg _ h1;rw[bB,c8]at this;rw[bG y];omega
def lW(l:List Nat)(y i:Nat):List Nat:=iO (l.take i) y 0++iW (l.take i) y 0::List.replicate (l.length-i) 0
def Zy(l:List Nat)(y:Nat):lW l y 0=List.replicate (l.length+1) 0:=by unfold lW;simp[iO,iW,fB]
variable{y i:Nat}
def EX(h:i<=l.length):(lW l y i).length=l.length+1:=by unfold lW;simp[jh];omega
def agx(h:i<l.length):(lW l y i)[i]?=some (iW (l.take i) y 0)∧(lW l y i)[i+1]?=some 0:=by
 have e:(iO (l.take i) y 0).length=i:=by rw[jh];simp;omega
 unfold lW;refine⟨?_,?_⟩;rw[a7 ab,e,dA];rfl;rw[a7 ab,e,show i+1-i=1 by omega,c7,eJ,aW ab]
def acq{x:Nat}(h:l[i]?=some x):((lW l y i).set i ((x*y+iW (l.take i) y 0)%WB)).set (i+1) ((x*y+iW (l.take i) y 0)/WB)=lW l y (i+1):=by
 have hi:=(aR.1 h).1;obtain⟨s1,s2⟩:=rV (y:=y) (c:=0) h;have e:(iO (l.take i) y 0).length=i:=by rw[jh];simp;omega
 unfold lW;rw[s1,s2];rw[dW _ _ ab,e,dA,fU];rw[dW _ _ ab,e,show i+1-i=1 by omega,List.set_cons_succ,show l.length-i=(l.length-(i+1))+1 by omega,fB,fU];simp
def acr:val (lW l y l.length)=val l*y:=by have:=rn l y 0;unfold lW;rw[du,jy,jh,dA,gn,kK,mQ];simpa using this
def ajO(hl:okW l)(hy:y<WB)(h0:0<y):okW (lW l y i):=by unfold lW;exact kz.2 ⟨rm _ _ _,iS.2 ⟨dU (wX (hl.take i) h0) hy,oB _⟩⟩
end Go.Pure.V
namespace Go.Pure
open Go
section
variable{P:Program}{o:Oper}{ρ:Operand->PV}{H:PH}
variable{off:Nat}
def uR{f x:Operand}{ts:Array TypeId}{id:FuncId}{b:Nat}{cs:List PV}(ho:o.op=.call {callee:=.value f,args:= #[x],argTypes:=ts})(hf:ρ f=.g (.raw (.func (.func id) #[] #[])))(he:nI P id=true)(hx:ρ x=.ptr b 0)
  (hp:PC P id [.ptr 0 0] ⟨[cs],[],[]⟩ (.ptr 0 off) ⟨[cs],[],[]⟩) (hr:∀ι κ ν,pa ι κ ν cs=cs) (hb:H.bx[b]?=some cs):PO P o ρ H (.ptr b off) H:=by
 refine B5 [] ho hf he (ps:=[.ptr b 0]) ?_ ?_;simp[od,hx,pack];refine I7 hp [b] [] [] rfl ?_ rfl rfl ?_ ?_ ?_;simp[tl,hb,hr];simp[pa,rF,posOf];rw[uV];simp[rF,jw];rw[OI];obtain⟨h1,h2⟩:=aR.1 hb;have hs:H.bx.set b cs=H.bx:=(by rw[<-h2];exact List.set_getElem_self h1);simp[back,nJ,hr,hs]
end
variable{P:Program}
def AU{K:List Nat}{o:Oper}{env:Env}{H:PH}{v:PV}(hk:zH K o=true)(b:Nat)(hK:nv K (20000+b)=true)(Fw:Nat.ble 10000 b=false)(h:∀H1,H.bx[b]?=H1.bx[b]? ->PO P o env.eval H1 v H1):lS P K o env H v H:=
 .inl ⟨(Bf hk).1,(Bf hk).2,.inl ⟨B3 hk,rfl,λH1 hq=>h H1 (hq.fix b hK Fw)⟩⟩
end Go.Pure
namespace Go.Pure
open Go Go.Lib
def Zz{l:List UInt8}(js:l≠[])(h:128<=(l.getD 0 0).toNat)(hb:(l.getD 0 0).toNat<192∨248<=(l.getD 0 0).toNat):validD l=false:=by
 rw[validD_lead l js h];have hf:firstT (l.getD 0 0).toNat=241:=by
  unfold firstT;generalize(l.getD 0 0).toNat=b at *
  repeat' split
  all_goals omega
 rw[hf];rfl
variable{n:Nat}
def Sn{l:List UInt8}(js:l≠[])(h:192<=(l.getD 0 0).toNat)(hb:(l.getD 0 0).toNat<224∧n=1∨224<=(l.getD 0 0).toNat∧(l.getD 0 0).toNat<240∧n=2∨240<=(l.getD 0 0).toNat∧n=3)(hl:l.length<=n):validD l=false:=by
 rw[validD_lead l js ab];have hf:firstT (l.getD 0 0).toNat%8=1∨l.length<firstT (l.getD 0 0).toNat%8:=by
  unfold firstT;generalize(l.getD 0 0).toNat=b at *
  repeat' split
  all_goals omega
 generalize firstT (l.getD 0 0).toNat=f at *
 have hc:∀lo hi:Nat,checkN l.length (l.getD 1 0).toNat (l.getD 2 0).toNat (l.getD 3 0).toNat (f%8) lo hi=none:=by
  intro lo hi;unfold checkN;rcases hf with hf|hf
  rw[hf];rfl
  ·repeat' split
   all_goals first|rfl|(exfalso;omega)
 rw[hc]
variable{b0 b1:Nat}
def ajP{l:List UInt8}(hl:1<l.length)(h0:(l.getD 0 0).toNat=b0)(h1:(l.getD 1 0).toNat=b1)(hb:192<=b0∧b0<224):
  validD l=if b1<128∨192<=b1 then false else if(b0-192)*64+(b1-128)<128 then false else validD (l.drop 2):=by
 have js:l≠[]:=λe=>by subst e;simp at hl
 rw[validD_lead l js ab,h0,h1];by_cases c:b0<194
 ·have hf:firstT b0=241:=by unfold firstT;(repeat' split)<;>omega
  rw[hf];show false=_;repeat' split
  all_goals first|rfl|(exfalso;omega)
 ·have hf:firstT b0=2:=by unfold firstT;(repeat' split)<;>omega
  rw[hf];unfold checkN;simp only[Nat.reduceMod,Nat.reduceDiv,accLo,accHi,aW];by_cases hx:b1<128∨192<=b1;rw[aW hx,aW ab];rw[aV hx,aV ab,aV ab]
variable{b2:Nat}
def ajQ{l:List UInt8}(hl:2<l.length)(h0:(l.getD 0 0).toNat=b0)(h1:(l.getD 1 0).toNat=b1)(h2:(l.getD 2 0).toNat=b2)(hb:224<=b0∧b0<240):
  validD l=if b1<128∨192<=b1 then false else if b2<128∨192<=b2 then false else if((b0-224)*64+(b1-128))*64+(b2-128)<2048∨55296<=((b0-224)*64+(b1-128))*64+(b2-128)∧((b0-224)*64+(b1-128))*64+(b2-128)<57344 then false else validD (l.drop 3):=by
 have js:l≠[]:=λe=>by subst e;simp at hl
 rw[validD_lead l js ab,h0,h1,h2];have key:∀lo hi:Nat,checkN l.length b1 b2 (l.getD 3 0).toNat 3 lo hi=if b1<lo∨hi<b1∨b2<128∨191<b2 then none else some 3:=by intro lo hi;unfold checkN;simp only[Nat.reduceEqDiff,en,gF];by_cases hx:b1<lo∨hi<b1∨b2<128∨191<b2;rw[aW hx,aW (.inr hx)];rw[aV hx,aV ab]
 have run:∀f lo hi:Nat,firstT b0=f->f%8=3->accLo (f/16)=lo->accHi (f/16)=hi->(128<=b2->b2<192->((b1<lo∨hi<b1)↔(b1<128∨192<=b1∨((b0-224)*64+(b1-128))*64+(b2-128)<2048∨55296<=((b0-224)*64+(b1-128))*64+(b2-128)∧((b0-224)*64+(b1-128))*64+(b2-128)<57344)))->
   (match checkN l.length b1 b2 (l.getD 3 0).toNat (firstT b0%8) (accLo (firstT b0/16)) (accHi (firstT b0/16))with|none=>false|some k=>validD (l.drop k))=if b1<128∨192<=b1 then false else if b2<128∨192<=b2 then false else if((b0-224)*64+(b1-128))*64+(b2-128)<2048∨55296<=((b0-224)*64+(b1-128))*64+(b2-128)∧((b0-224)*64+(b1-128))*64+(b2-128)<57344 then false else validD (l.drop 3):=by
  intro f lo hi e1 e2 e3 e4 hk;rw[e1,e2,e3,e4,key];by_cases c2:b2<128∨192<=b2;rw[aW (show b1<lo∨hi<b1∨b2<128∨191<b2 by omega),aW c2];show false=_;split<;>rfl;have hk:=hk ab ab;by_cases c1:b1<lo∨hi<b1;rw[aW (show b1<lo∨hi<b1∨b2<128∨191<b2 by omega)];have hk:=hk.1 c1;by_cases c3:b1<128∨192<=b1;rw[aW c3];rw[aV c3,aV c2,aW ab];rw[aV (show ¬(b1<lo∨hi<b1∨b2<128∨191<b2) by omega)];have hk:=λh=>c1 (hk.2 h);rw[aV (λh=>hk ab),aV c2,aV (λh=>hk ab)]
 by_cases c0:b0=224;exact run 19 160 191 (by subst c0;rfl) rfl rfl rfl (by intro _ _;subst c0;omega)
 ·by_cases c1:b0=237;exact run 35 128 159 (by subst c1;rfl) rfl rfl rfl (by intro _ _;subst c1;omega)
  ·exact run 3 128 191 (by unfold firstT;(repeat' split)<;>omega) rfl rfl rfl (by intro _ _;omega)
def ajR{l:List UInt8}{b3:Nat}(hl:3<l.length)(h0:(l.getD 0 0).toNat=b0)(h1:(l.getD 1 0).toNat=b1)(h2:(l.getD 2 0).toNat=b2)(h3:(l.getD 3 0).toNat=b3)(hb:240<=b0∧b0<248):
  validD l=if b1<128∨192<=b1 then false else if b2<128∨192<=b2 then false else if b3<128∨192<=b3 then false else if(((b0-240)*64+(b1-128))*64+(b2-128))*64+(b3-128)<65536∨1114111<(((b0-240)*64+(b1-128))*64+(b2-128))*64+(b3-128)then false else validD (l.drop 4):=by
 have js:l≠[]:=λe=>by subst e;simp at hl
 rw[validD_lead l js ab,h0,h1,h2,h3];by_cases c5:245<=b0
 ·have hf:firstT b0=241:=by unfold firstT;(repeat' split)<;>omega
  rw[hf];show false=_;repeat' split
  all_goals first|rfl|(exfalso;omega)
 have key:∀lo hi:Nat,checkN l.length b1 b2 b3 4 lo hi=if b1<lo∨hi<b1∨b2<128∨191<b2∨b3<128∨191<b3 then none else some 4:=by intro lo hi;unfold checkN;simp only[Nat.reduceEqDiff,en,gF];by_cases hx:b1<lo∨hi<b1∨b2<128∨191<b2∨b3<128∨191<b3;rw[aW hx,aW (.inr hx)];rw[aV hx,aV ab]
 have run:∀f lo hi:Nat,firstT b0=f->f%8=4->accLo (f/16)=lo->accHi (f/16)=hi->(128<=b2->b2<192->128<=b3->b3<192->((b1<lo∨hi<b1)↔(b1<128∨192<=b1∨(((b0-240)*64+(b1-128))*64+(b2-128))*64+(b3-128)<65536∨1114111<(((b0-240)*64+(b1-128))*64+(b2-128))*64+(b3-128))))->
   (match checkN l.length b1 b2 b3 (firstT b0%8) (accLo (firstT b0/16)) (accHi (firstT b0/16))with|none=>false|some k=>validD (l.drop k))=if b1<128∨192<=b1 then false else if b2<128∨192<=b2 then false else if b3<128∨192<=b3 then false else if(((b0-240)*64+(b1-128))*64+(b2-128))*64+(b3-128)<65536∨1114111<(((b0-240)*64+(b1-128))*64+(b2-128))*64+(b3-128)then false else validD (l.drop 4):=by
  intro f lo hi e1 e2 e3 e4 hk;rw[e1,e2,e3,e4,key];by_cases c3:b3<128∨192<=b3
  ·rw[aW (show b1<lo∨hi<b1∨b2<128∨191<b2∨b3<128∨191<b3 by omega),aW c3];show false=_;repeat' split
   all_goals rfl
  by_cases c2:b2<128∨192<=b2;rw[aW (show b1<lo∨hi<b1∨b2<128∨191<b2∨b3<128∨191<b3 by omega),aW c2];show false=_;split<;>rfl;have hk:=hk ab ab ab ab;by_cases c1:b1<lo∨hi<b1;rw[aW (show b1<lo∨hi<b1∨b2<128∨191<b2∨b3<128∨191<b3 by omega)];have hk:=hk.1 c1;by_cases c4:b1<128∨192<=b1;rw[aW c4];rw[aV c4,aV c2,aV c3,aW ab];rw[aV (show ¬(b1<lo∨hi<b1∨b2<128∨191<b2∨b3<128∨191<b3) by omega)];have hk:=λh=>c1 (hk.2 h);rw[aV (λh=>hk ab),aV c2,aV c3,aV (λh=>hk ab)]
 by_cases c0:b0=240;exact run 52 144 191 (by subst c0;rfl) rfl rfl rfl (by intro _ _ _ _;subst c0;omega)
 ·by_cases c1:b0=244;exact run 68 128 143 (by subst c1;rfl) rfl rfl rfl (by intro _ _ _ _;subst c1;omega)
  ·exact run 4 128 191 (by unfold firstT;(repeat' split)<;>omega) rfl rfl rfl (by intro _ _ _ _;omega)
def cc(l:List UInt8)(c:Nat):Nat->Nat
 |0=>c|k+1=>cc l c k*64+((l.getD (k+1) 0).toNat-128)
def T6(l:List UInt8)(c:Nat):cc l c 0=c:=rfl
def CL(l:List UInt8)(c k:Nat):cc l c (k+1)=cc l c k*64+((l.getD (k+1) 0).toNat-128):=rfl
def Iw(l:List UInt8)(k:Nat):Prop:=128<=(l.getD k 0).toNat∧(l.getD k 0).toNat<192
def aed{l:List UInt8}{c:Nat}(hc:c<32):∀k,(∀j,1<=j->j<=k->Iw l j)->cc l c k<32*64^k
 |0,_=>by rw[T6,eM];omega
 |k+1,h=>by have ih:=aed (l:=l) hc k λj h1 h2=>h j h1 ab;have hk:=h (k+1) ab (aZ _);unfold Iw at hk;rw[CL,cW];have:(cc l c k+1)*64<=32*64^k*64:=bg _ ih;rw[bB,c8,cN]at this;omega
def aiv(l:List UInt8)(c:Nat):cc l c 1=c*64+((l.getD 1 0).toNat-128):=by have e:=CL l c 0;rw[T6]at e;simpa only[bc]using e
def aiw(l:List UInt8)(c:Nat):cc l c 2=(c*64+((l.getD 1 0).toNat-128))*64+((l.getD 2 0).toNat-128):=by have e:=CL l c 1;rw[aiv]at e;exact e
def al5(l:List UInt8)(c:Nat):cc l c 3=((c*64+((l.getD 1 0).toNat-128))*64+((l.getD 2 0).toNat-128))*64+((l.getD 3 0).toNat-128):=by have e:=CL l c 2;rw[aiw]at e;exact e
def ae9(b n least off:Nat):Prop:=(192<=b∧b<224∧n=1∧least=128∧off=192)∨(224<=b∧b<240∧n=2∧least=2048∧off=224)∨(240<=b∧b<248∧n=3∧least=65536∧off=240)
variable{off:Nat}
def agy{l:List UInt8}{least:Nat}(hc:ae9 (l.getD 0 0).toNat n least off)(hl:n<l.length):
  (∀k,1<=k->k<=n->¬Iw l k->validD l=false)∧
  ((∀k,1<=k->k<=n->Iw l k)->validD l=if cc l ((l.getD 0 0).toNat-off) n<least∨1114111<cc l ((l.getD 0 0).toNat-off) n∨(55296<=cc l ((l.getD 0 0).toNat-off) n∧cc l ((l.getD 0 0).toNat-off) n<57344)then false else validD (l.drop (n+1))):=by
 rcases hc with⟨a,b,rfl,rfl,rfl⟩|⟨a,b,rfl,rfl,rfl⟩|⟨a,b,rfl,rfl,rfl⟩
 ·have hv:=ajP hl rfl rfl ⟨a,b⟩;refine⟨λk h1 h2 h3=>?_,λh=>?_⟩
  ·obtain rfl:k=1:=ab
   unfold Iw at h3;rw[hv,aW ab]
  have o1:=h 1 ab ab;unfold Iw at o1;rw[aiv];rw[hv,aV ab];by_cases q:((l.getD 0 0).toNat-192)*64+((l.getD 1 0).toNat-128)<128;rw[aW q,aW (.inl q)];rw[aV q,aV ab]
 ·have hv:=ajQ hl rfl rfl rfl ⟨a,b⟩;refine⟨λk h1 h2 h3=>?_,λh=>?_⟩
  ·obtain rfl|rfl:k=1∨k=2:=ab
   unfold Iw at h3;rw[hv,aW ab];unfold Iw at h3;rw[hv];split;rfl;rw[aW ab]
  have o1:=h 1 ab ab;have o2:=h 2 ab ab;unfold Iw at o1 o2;rw[aiw];rw[hv,aV ab,aV ab];generalize hC:(((l.getD 0 0).toNat-224)*64+((l.getD 1 0).toNat-128))*64+((l.getD 2 0).toNat-128)=C;by_cases q:C<2048∨55296<=C∧C<57344;rw[aW q,aW ab];rw[aV q,aV ab]
 ·have hv:=ajR hl rfl rfl rfl rfl ⟨a,b⟩;refine⟨λk h1 h2 h3=>?_,λh=>?_⟩
  ·obtain rfl|rfl|rfl:k=1∨k=2∨k=3:=ab
   unfold Iw at h3;rw[hv,aW ab];unfold Iw at h3;rw[hv];split;rfl;rw[aW ab];unfold Iw at h3;rw[hv];split;rfl;split;rfl;rw[aW ab]
  have o1:=h 1 ab ab;have o2:=h 2 ab ab;have o3:=h 3 ab ab;unfold Iw at o1 o2 o3;rw[al5];rw[hv,aV ab,aV ab,aV ab];generalize hC:((((l.getD 0 0).toNat-240)*64+((l.getD 1 0).toNat-128))*64+((l.getD 2 0).toNat-128))*64+((l.getD 3 0).toNat-128)=C;by_cases q:C<65536∨1114111<C;rw[aW q,aW ab];rw[aV q,aV ab]
variable{i:Nat}
def byte_at{s:ByteArray}(h:i<s.size):∃b:UInt8,s[i]?=some b∧s.data.toList[i]?=some b:=by refine⟨s[i],getElem?_pos s i h,?_⟩;rw[fC];exact getElem?_pos s.data i h
end Go.Pure
namespace Go.Pure
def fX:(∀(p:Prop) [Decidable p],(decide p=true)=p)∧(∀(p:Prop) [Decidable p],(decide p=false)= ¬p)∧(∀a b:Int,((a==b)=true)=(a=b))∧(∀a b:Int,((a==b)=false)= ¬(a=b))∧(∀a b:Int,((a !=b)=true)= ¬(a=b))∧(∀a b:Int,((a !=b)=false)=(a=b))∧(∀b:Bool,((!b)=true)=(b=false))∧(∀b:Bool,((!b)=false)=(b=true)):=by refine⟨λp _=>aa,λp _=>aa,λa b=>aa,λa b=>aa,λa b=>aa,λa b=>aa,λb=>aa,λb=>aa⟩
end Go.Pure
namespace Go.Pure
open Go
def hB(b:Bool):Int:=if b then 2 else 0
mutual
def T7:iD->iD->Int
 |.mk k y c e t l,.mk k' y' c' e' t' l'=>
  if k=1∨k'=1 then(if k=k' then 2 else 0)else if k≠k' then 1
  else if k=2 then hB (y==y')else if k=3 then hB (decide (c=c'∧e=e'))else if k=4 then hB (t.toList==t'.toList)else if k=5 then(if l.length=l'.length then Ob l l' 2 else 0)else 0
def Ob:List iD->List iD->Int->Int
 |x::r,y::s,a=>Ob r s (if T7 x y<a then T7 x y else a)|_,_,a=>a
end
def Le(k:Int)(y:Bool)(c e:Int)(t:ByteArray)(l:List iD)(k':Int)(y':Bool)(c' e':Int)(t':ByteArray)(l':List iD):T7 (.mk k y c e t l) (.mk k' y' c' e' t' l')=
  if k=1∨k'=1 then(if k=k' then 2 else 0)else if k≠k' then 1
  else if k=2 then hB (y==y')else if k=3 then hB (decide (c=c'∧e=e'))else if k=4 then hB (t.toList==t'.toList)else if k=5 then(if l.length=l'.length then Ob l l' 2 else 0)else 0:=by rw[T7]
def F5:iD->iD->Int
 |.mk k _ c e t _,.mk k' _ c' e' t' _=>if k=3∧k'=3 then hB (decide (s6 c e c' e'<0))else if k=4∧k'=4 then hB (Op.bytesLess t.toList t'.toList)else 1
end Go.Pure
namespace Go.Pure.V
open Go
def BW:∀{l:List Nat} {i x:Nat},l[i]?=some x->val (l.take (i+1))=val (l.take i)+WB^i*x
 |[],i,x,h=>by simp at h|a::r,0,x,h=>by simp at h;subst h;simp[kK,mQ]
 |a::r,i+1,x,h=>by
  have h':r[i]?=some x:=by simpa using h
  rw[eH,eH,kK,kK,BW h',cW,cn,ep];congr 2;rw[<-cN,bG WB]
def Lf:∀(k v:Nat),iQ (k+1) v=iQ k v++[v/WB^k%WB]
 |0,v=>by simp[iQ]|k+1,v=>by rw[show iQ (k+1+1) v=(v%WB)::iQ (k+1) (v/WB)from rfl,Lf k (v/WB),show iQ (k+1) v=(v%WB)::iQ k (v/WB)from rfl,dQ,fq,cW,bG WB]
def l8(l:List Nat)(i:Nat):Nat:=l.getD i 0
def ql(l:List Nat)(i:Nat):Nat:=val (l.take i)
def AV(l:List Nat)(i:Nat):ql l (i+1)=ql l i+WB^i*l8 l i:=by
 unfold ql l8;cases h:l[i]? with
 |some x=>rw[BW h,dE,h];rfl
 |none=>
  have hl:=fW.1 h;rw[bR ab,bR hl,dE,h];simp
variable{l:List Nat}
def Ag(h:okW l)(i:Nat):ql l i<WB^i:=by unfold ql;refine bX (lP (h.take i)) (cf af ?_);rw[bW];omega
def AW(a b:List Nat)(i:Nat):Nat:=(ql a i+ql b i)/WB^i
variable{a b:List Nat}
def acs(ha:okW a)(hb:okW b)(i:Nat):AW a b i<=1:=by have h1:=Ag ha i;have h2:=Ag hb i;unfold AW;have h3:(ql a i+ql b i)/WB^i<2:=(bK (Lb i)).2 ab;omega
def Lg(a b:List Nat)(i:Nat):(ql a (i+1)+ql b (i+1))/WB^i=AW a b i+(l8 a i+l8 b i):=by rw[AV,AV];unfold AW;rw[show ql a i+WB^i*l8 a i+(ql b i+WB^i*l8 b i)=(ql a i+ql b i)+WB^i*(l8 a i+l8 b i) by rw[cn];omega,cL _ _ (Lb i)]
def VF(a b:List Nat)(i:Nat):AW a b (i+1)=(AW a b i+(l8 a i+l8 b i))/WB:=by rw[<-Lg];unfold AW;rw[cW,fq]
def AX(l:List Nat)(k:Nat):val l=ql l k+WB^k*val (l.drop k):=by unfold ql;by_cases h:k<=l.length;have h1:=jy (l.take k) (l.drop k);rw[cA,bW,ec h]at h1;exact h1;rw[bR ab,dH ab,mQ,dZ,b9]
def VG(a b:List Nat)(i:Nat):(val a+val b)/WB^i%WB=(AW a b i+(l8 a i+l8 b i))%WB:=by rw[AX a (i+1),AX b (i+1),<-Lg];rw[show ql a (i+1)+WB^(i+1)*val (a.drop (i+1))+(ql b (i+1)+WB^(i+1)*val (b.drop (i+1)))=(ql a (i+1)+ql b (i+1))+WB^i*(WB*(val (a.drop (i+1))+val (b.drop (i+1)))) by rw[<-cN,<-cW,Nat.succ_eq_add_one,cn];omega,cL _ _ (Lb i),dc]
def zC(a b:List Nat)(i:Nat):Nat:=if ql a i<ql b i then 1 else 0
def T8(a b:List Nat)(i:Nat):zC a b i<=1:=by unfold zC;split<;>omega
def VH(ha:okW a)(hb:okW b)(i:Nat):zC a b (i+1)=if l8 a i<l8 b i+zC a b i then 1 else 0:=by
 have h1:=Ag ha i;have h2:=Ag hb i;unfold zC;rw[AV,AV];generalize ql a i=x at *
 generalize ql b i=y,l8 a i=u,l8 b i=v,WB^i=p at *
 have key:(x+p*u<y+p*v)↔(u<v+if x<y then 1 else 0):=by
  rcases fF u v with q|q|q
  have h3:p*(u+1)<=p*v:=ch p q;rw[cn,cU]at h3;exact⟨λ_=>by split<;>omega,λ_=>ab⟩;subst q;by_cases G1:x<y;rw[aW G1];omega;rw[aV G1];omega;have h3:p*(v+1)<=p*u:=ch p q;rw[cn,cU]at h3;exact⟨λh=>ab,λh=>by split at h<;>omega⟩
 by_cases h:u<v+if x<y then 1 else 0
 rw[aW h,aW (key.2 h)];rw[aV h,aV (λq=>h (key.1 q))]
def Lh(l:List Nat)(i:Nat):val (l.drop i)=l8 l i+WB*val (l.drop (i+1)):=by unfold l8;by_cases h:i<l.length;rw[bY h,kK,dE,aS h];rfl;rw[dH ab,dH ab,mQ,dE,dp ab];rfl
def Sp(ha:okW a)(hb:okW b)(h:val b<=val a)(i:Nat):(val a-val b)/WB^i%WB=(l8 a i+WB-l8 b i-zC a b i)%WB:=by
 have h1:=Ag ha i;have h2:=Ag hb i;have s1:=AX a i;have s2:=AX b i;have d1:=Lh a i;have d2:=Lh b i;have yu:l8 b i<WB:=by
  unfold l8;rw[dE];cases hq:b[i]? with
  |some x=>exact hb.at hq|none=>decide
 have aq1:=T8 a b i;have hD:(val a-val b)/WB^i=val (a.drop i)-val (b.drop i)-zC a b i∧val (b.drop i)+zC a b i<=val (a.drop i):=by
  rw[s1,s2]at h⊢;unfold zC;generalize ql a i=x at *
  generalize ql b i=y,val (a.drop i)=u,val (b.drop i)=v at *
  have hp:=Lb i;generalize WB^i=p at *
  by_cases G1:x<y
  ·rw[aW G1];have UT:v+1<=u:=by
    refine Nat.succ_le_of_lt (im λq=>?_);have:=ch p q;omega
   obtain⟨k,rfl⟩:∃k,u=v+1+k:=⟨u-(v+1),by omega⟩;refine⟨?_,UT⟩;rw[show x+p*(v+1+k)-(y+p*v)=(x+p-y)+p*k by rw[cn,cn,cU];omega,cL _ _ hp,cZ ab];omega
  ·rw[aV G1];have UT:v<=u:=by
    refine Nat.le_of_not_lt λq=>?_;have:=ch p (show u+1<=v from q);rw[cn,cU]at this;omega
   obtain⟨k,rfl⟩:∃k,u=v+k:=⟨u-v,by omega⟩;refine⟨?_,UT⟩;rw[show x+p*(v+k)-(y+p*v)=(x-y)+p*k by rw[cn];omega,cL _ _ hp,cZ ab];omega
 obtain⟨e1,e2⟩:=hD;rw[e1];generalize zC a b i=r at *
 generalize l8 a i=u,l8 b i=v,val (a.drop i)=A,val (b.drop i)=B,val (a.drop (i+1))=A',val (b.drop (i+1))=B' at *
 unfold WB at *
 omega
end Go.Pure.V
namespace Go.Pure
open Go
variable{u:Int}{mid:Int->Int->Int}
def Li(a:Int)(r:List Int):∃X,l6 u mid (a::r)=a::X:=by
 cases r with
 |nil=>exact⟨_,rfl⟩|cons b r=>exact⟨_,rfl⟩
def Ix{u:Int}{mid:Int->Int->Int}(hu:0<u):∀{a:Int} {r:List Int},lQ (a::r)->(∀x y,x<y->x∈a::r->y∈a::r->x<mid x y∧mid x y<y)->lQ (l6 u mid (a::r))
 |a,[],_,_=>⟨by omega,trivial⟩
 |a,b::r,h,hm=>by obtain⟨lr,hr⟩:=h;have ih:=Ix (u:=u) (mid:=mid) hu (a:=b) (r:=r) hr λx y G1 hx hy=>hm x y G1 (bw _ hx) (bw _ hy);obtain⟨m1,m2⟩:=hm a b lr (bE ..) (bw _ (bE ..));obtain⟨X,hX⟩:=Li (u:=u) (mid:=mid) b r;rw[show l6 u mid (a::b::r)=a::mid a b::l6 u mid (b::r)from rfl,hX];rw[hX]at ih;exact⟨m1,m2,ih⟩
def JA(hu:0<u){E:List Int}(h:lQ E)(hm:∀x y,x<y->x∈E->y∈E->x<mid x y∧mid x y<y):lQ (jN u mid E):=by
 cases E with
 |nil=>exact trivial
 |cons a r=>
  have h1:=Ix hu h hm;obtain⟨X,hX⟩:=Li (u:=u) (mid:=mid) a r;rw[jN,hX];rw[hX]at h1;exact⟨by omega,h1⟩
variable{kd:Int}
def vU{V:ByteArray->Bool}{l:List iJ}(h:(kN V kd l).2=0):(kd=2∨kd=3∨kd=4)∧l.length<=20∧kB V kd l=0:=by unfold kN at h;split at h;cases h;rename_i h1;split at h;cases h;rename_i h2;split at h;rename_i h3;exact absurd h h3;rename_i h3;exact⟨by omega,by omega,by simpa using h3⟩
def xj{V:ByteArray->Bool}{l:List iJ}(h:(kN V kd l).2=0):(kN V kd l).1=if kd=2 then [(rU false).g,(rU true).g]else if kd=3 then uP (ku (l.flatMap jF))else iD.gs ((jZ (ko (l.flatMap jj))).map km):=by obtain⟨h1,h2,h3⟩:=vU h;unfold kN at h⊢;rw[aV ab,aV ab,aV (by rw[h3];decide)]at h⊢;by_cases k2:kd=2;rw[aW k2,aW k2];rw[aV k2]at h⊢;rw[aV k2];by_cases k3:kd=3;rw[aW k3,aW k3];rw[aV k3]at h⊢;rw[aV k3];split;rename_i hb;rw[aW hb]at h;cases h;rfl
def Lj{V:ByteArray->Bool}{l:List iJ}(h:(kN V kd l).2=0):∃x:iD,(kN V kd l).1[0]?=some x.g∧iY x=kd:=by
 have h1:=(vU h).1;have h2:=xj h;have h3:=EP (vU h).2.2;rw[h2];rcases h1 with rfl|rfl|rfl
 exact⟨rU false,rfl,rfl⟩;rw[aV af,aW rfl];obtain⟨k,_,a2,_⟩:=MC (E:=ku (l.flatMap jF)) (λk hk=>(h3 k hk).2) (i:=0) (by rw[mZ];omega);exact⟨kn k,a2,rfl⟩;rw[aV af,aV af];exact⟨km [],rfl,rfl⟩
end Go.Pure