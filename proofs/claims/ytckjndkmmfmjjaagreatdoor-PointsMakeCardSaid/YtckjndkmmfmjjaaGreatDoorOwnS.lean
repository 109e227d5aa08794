/- Steps to pointsMake_card. -/
import Derived.Test.YtckjndkmmfmjjaaGreatDoorOwnG
import Derived.Test.YtckjndkmmfmjjaaGreatDoorPureE
set_option linter.all false
open Go.IntKind (i64 u32 u64)
open Go.Proofs.Tryz
set_option maxRecDepth 100000
set_option maxHeartbeats 32000000
namespace Go.Pure.V
open Go Go.Proofs Go.Proofs.YtckjndkmmfmjjaaGreatDoor
attribute [local irreducible] PW jQ ju PO PC lS
abbrev IF:Nat:=137
abbrev AR(g:Nat)(ws:List Nat):MO:=.arr g IF (iG ws)
variable{l:List Nat}
def vY(hw:okW l)(hm:l.length<=maxLen):ak 118 [av (iG l)] (av (iG (iF (val l)))):=by
 rw[vL hw];have hlen:=iK l;refine' eN func118;(try refine' uN);refine jf (S:=Nat) (λi=>iL [(0,av (iG l)),(3,aq i)]) (λi=>⟨[],[],[]⟩) (λi=>i<=l.length∧∀j,i<=j->∀x,l[j]?=some x->x=0) (λi=>i) l.length ⟨aZ _,λj hj x hx=>by rw[dp ab]at hx;cases hx⟩
  (iE.le ⟨.inl rfl,.inl (aT (λk:Nat=>aq k) hlen),trivial⟩) aJ (λi hi=>?_)
 obtain⟨hi,hz⟩:=hi;have cut:∀k:Nat,k<=l.length->((iG l).drop 0).take (k-0)=iG (l.take k):=λk _=>by rw[dz,gD];unfold iG;rw[gf]
 cases i with
 |zero=>
  have hk:mL l=0:=EG λx hx=>by obtain⟨j,hj⟩:=bt hx;exact hz j (bm _) x hj
  (repeat first|refine' uN|refine oQ (lE rfl (EL rfl) (SZ rfl) rfl rfl rfl af (br 0) (by show((0:Nat):Int)<=((iG l).length:Int);omega) (λx hx=>by rw[nA x hx];rfl)) ?_);rw[hk];refine' rT;exact aT GV.sl (cut 0 (bm _))
 |succ i=>
  have Ua:l[i]?=some (l[i]'(by omega)):=aS ab;generalize l[i]'(by omega)=x at Ua;have hg:(iG l)[i]?=some (wG x):=iT Ua;have pI:i64.wrap (((i+1:Nat):Int)-1)=(i:Int):=by rw[jD (by unfold maxLen at hm;omega)];omega
  have sy:(iG l)[(i64.wrap (((i+1:Nat):Int)-1)).toNat]?=some (wG x):=by rw[pI,da];exact hg
  have jX:decide ((0:Int)<((i+1:Nat):Int))=true:=bU ab;(try refine' uN);refine' sQ<;>intro h;clear h;(repeat first|refine' uN|refine oQ (jA (g:=wG x) (z:=by rw[pI];exact br _) (q:=aI sy)) ?_);refine' sQ<;>intro h;have sJ:x=0:=(by have:=aU h;omega);subst sJ;clear h;(try refine' uN);refine⟨i,⟨by omega,λj hj x hx=>?_⟩,by omega,iE.le ⟨.inl rfl,.inl (aT aq pI),trivial⟩,aJ⟩;by_cases hji:j=i;subst hji;rw[Ua]at hx;exact(cE hx).symm;exact hz j ab x hx;have sJ:x≠0:=λe=>(by subst e;simp at h);have hk:mL l=i+1:=AN Ua (λj hj y hy=>hz j hj y hy) sJ;clear h;(repeat first|refine' uN|refine oQ (lE rfl (EL rfl) (SZ rfl) rfl rfl rfl af (br _) (by show((i+1:Nat):Int)<=((iG l).length:Int);rw[hlen];omega) (λx hx=>by rw[nA x hx];rfl)) ?_);rw[hk];refine' rT;exact aT GV.sl (cut (i+1) hi);have:=aX h;omega
variable{n:Nat}
def mr:u32.wrap (n:Int)=((n%WB:Nat):Int):=by simp only[IntKind.wrap,IntKind.signed,IntKind.bits,dN,dB,en];unfold WB;omega
variable{s:Nat}
def sU(hs:s<=64):((n:Int)).fdiv (2^min ((s:Int)).toNat u64.bits)=((n/2^s:Nat):Int):=by rw[da,ec (show s<=u64.bits from hs),show((2:Int)^s)=((2^s:Nat):Int) by push_cast;rfl,fM _ (br _)];rfl
def xq{x:Nat}(hx:x<WB*WB):ak 110 [ar x] (av (iG (iF x))):=by
 have iI:x/WB<WB:=(bK af).2 hx;have ht:=vY (l:=[x%WB,x/WB]) (iS.2 ⟨bL _ af,iS.2 ⟨iI,ke⟩⟩) (by unfold maxLen;simp);have hv:val [x%WB,x/WB]=x:=by rw[kK,kK,mQ];have:=cT x WB;simpa using this
 rw[hv]at ht;have e1:GV.int .u32 (u32.wrap (x:Int))=wG (x%WB):=aT (GV.int .u32) mr;have e2:GV.int .u32 (u32.wrap ((x:Int).fdiv (2^min (32:Int).toNat u64.bits)))=wG (x/WB):=by show GV.int .u32 (u32.wrap ((x:Int).fdiv (2^min ((32:Nat):Int).toNat u64.bits)))=wG (x/WB);rw[sU af,mr];exact aT wG (bn iI)
 have kp:ak 118 [av [GV.int .u32 (u32.wrap (x:Int)),GV.int .u32 (u32.wrap ((x:Int).fdiv (2^min (32:Int).toNat u64.bits)))]] (av (iG (iF x))):=by rw[e1,e2];exact ht
 refine' eN func110;(repeat first|refine' uN|refine oQ jH ?_|refine oQ (iV kp) ?_);refine' rT;rfl
def CR(hm:l.length<=1000000):ak 106 [av (iG l)] (av (iG l)):=by have hl:=iK l;refine' eN func106;(repeat first|refine' uN|refine oQ (IW rfl (EL rfl) (SZ rfl) (BY rfl) (ZR rfl) rfl rfl rfl rfl (λx hx=>by rw[nA x hx];rfl) ab ai) ?_);refine' rT;rfl
def oz(a b:Nat):Int:=if a<b then -1 else if b<a then 1 else 0
variable{X Y:Nat}
def rK(hX:(iF X).length<=100000)(hY:(iF Y).length<=100000):ak 112 [av (iG (iF X)),av (iG (iF Y))] (aq (oz X Y)):=by
 have BX:=iK (iF X);have hly:=iK (iF Y);have E7:=ji X;have Q6:=ji Y;have iI:(iF X).length<(iF Y).length->oz X Y= -1:=λh=>by unfold oz;rw[aW (vp h)]
 have oJ:(iF Y).length<(iF X).length->oz X Y=1:=λh=>by have:=vp h;unfold oz;rw[aV ab,aW this]
 have zd:=jm X;have Kg:=jm Y;generalize iF X=xs at *
 generalize iF Y=ys at *
 refine' eN func112;(try refine' uD);refine' sQ<;>intro h
 ·have js:xs.length≠ys.length:=by intro e;rw[BX,hly,e]at h;simp at h
  clear h;(try refine' uD);refine' sQ<;>intro h;have:=aU h;rw[iI ab];(try refine' uD);refine' rT;rfl;have:=aX h;rw[oJ ab];(try refine' uD);refine' rT;rfl
 ·have heq:xs.length=ys.length:=by simp at h;omega
  clear h;(try refine' uD);refine jf (S:=Nat) (λk=>iL [(0,av (iG xs)),(1,av (iG ys)),(5,aq ((k:Int)-1))]) (λ_=>⟨[],[],[]⟩) (λk=>k<=xs.length∧xs.drop k=ys.drop k) (λk=>k) xs.length ⟨aZ _,by rw[dv,heq,dv]⟩
   (iE.le (aA ⟨.inl (aT aq (by rw[jD ab,BX])),trivial⟩)) aJ (λk hk=>?_)
  obtain⟨hk,hd⟩:=hk;cases k with
  |zero=>
   have he:oz X Y=0:=(by have:xs=ys:=(by simpa using hd);subst this;unfold oz;rw[aV ab,aV ab]);rw[he];(try refine' uD);refine' rT;rfl
  |succ k=>
   have hx:xs[k]?=some (xs[k]'(by omega)):=aS ab;generalize xs[k]'(by omega)=x at hx;have hy:ys[k]?=some (ys[k]'(by omega)):=aS ab;generalize ys[k]'(by omega)=y at hy;have y7:(iG xs)[(((k+1:Nat):Int)-1).toNat]?=some (wG x):=(by rw[show(((k+1:Nat):Int)-1).toNat=k by omega];exact iT hx);have D8:(iG ys)[(((k+1:Nat):Int)-1).toNat]?=some (wG y):=(by rw[show(((k+1:Nat):Int)-1).toNat=k by omega];exact iT hy);(try refine' uD);refine' sQ<;>intro h;clear h;(repeat first|refine' uD|(refine' oX;(first|exact jA (g:=wG x) (z:=by omega) (q:=aI y7)|exact jA (g:=wG y) (z:=by omega) (q:=aI D8));exact kq));refine' sQ<;>intro h;have G1:x≠y:=(by intro e;subst e;simp at h);clear h;(repeat first|refine' uD|(refine' oX;(first|exact jA (g:=wG x) (z:=by omega) (q:=aI y7)|exact jA (g:=wG y) (z:=by omega) (q:=aI D8));exact kq));refine' sQ<;>intro h;have hl:x<y:=(by have:=aU h;omega);have hv:=s8 E7 Q6 heq hx hy hd hl;rw[show oz X Y= -1 by unfold oz;rw[aW ab]];(try refine' uD);refine' rT;rfl;have hl:y<x:=(by have:=aX h;omega);have hv:=s8 Q6 E7 heq.symm hy hx hd.symm hl;rw[show oz X Y=1 by unfold oz;rw[aV ab,aW ab]];(try refine' uD);refine' rT;rfl;have G1:x=y:=(by simp at h;omega);subst G1;(try refine' uD);refine⟨k,⟨by omega,?_⟩,by omega,iE.le (aA ⟨.inl (aT aq (by rw[jD ab];omega)),trivial⟩),aJ⟩;rw[bY (show k<xs.length by omega),bY (show k<ys.length by omega),hd];congr 1;have a:=aR.1 hx;have b:=aR.1 hy;obtain⟨_,a⟩:=a;obtain⟨_,b⟩:=b;rw[a,b];exfalso;have:=aX h;omega
def kC(h:n<WB*WB):u64.wrap (n:Int)=(n:Int):=by simp only[IntKind.wrap,IntKind.signed,IntKind.bits,dN,dB,en];unfold WB at h;omega
variable{a b:Nat}
def RH(ha:a<WB)(hb:b<WB):u64.wrap (((BitVec.ofInt u64.bits (a:Int) ||| BitVec.ofInt u64.bits (u64.wrap ((b:Int)*2^min (32:Int).toNat u64.bits))).toNat:Nat):Int)=((a+WB*b:Nat):Int):=by
 have e0:u64.wrap ((b:Int)*2^min (32:Int).toNat u64.bits)=((b*2^32:Nat):Int):=by rw[show((b:Int)*2^min (32:Int).toNat u64.bits)=((b*2^32:Nat):Int) by rw[show min (32:Int).toNat u64.bits=32 from rfl,dJ];rfl];exact kC aK
 rw[e0];have e:(((BitVec.ofInt 64 (a:Int) ||| BitVec.ofInt 64 ((b*2^32:Nat):Int)).toNat:Nat):Int)=((a+WB*b:Nat):Int):=by rw[dn,dn,iz,dD,dD,bn (show a<2^64 by unfold WB at ha;omega),bn (show b*2^32<2^64 by unfold WB at hb;omega),Nat.or_comm,<-iv,<-Nat.shiftLeft_add_eq_or_of_lt (show a<2^32 from ha),iv];unfold WB;omega
 show u64.wrap (((BitVec.ofInt 64 (a:Int) ||| BitVec.ofInt 64 ((b*2^32:Nat):Int)).toNat:Nat):Int)=_;rw[e];exact kC aK
def Dl(hX:X<WB*WB):ak 144 [av (iG (iF X))] (ar X):=by
 by_cases h0:X=0;subst h0;rw[jg];refine' eN func144;(try refine' uN);refine' rT;rfl
 ·by_cases h1:X<WB;rw[jC h0 h1];have hw:=kC (n:=X) aK;refine' eN func144;(repeat first|refine' uN|refine oQ (jB (g:=wG X)) ?_);refine' rT;exact hw
  ·have hq:X/WB≠0:=by
    have:=(fa (show 0<WB by decide)).2 (show 1*WB<=X by omega);omega
   have vd:X/WB<WB:=(bK af).2 hX;rw[ml h0,jC hq vd];have hr:X%WB<WB:=bL _ af;have hx:=cT X WB;have ho:=RH hr vd;rw[hx]at ho;have w1:=kC (n:=X%WB) aK;have w2:=kC (n:=X/WB) aK;generalize X%WB=a at *
   generalize X/WB=b at *
   refine' eN func144;(repeat first|refine' uN|refine oQ (jB (g:=wG a)) ?_|refine oQ (jB (g:=wG b)) ?_|refine oQ jG ?_);refine' rT;rw[w1,w2];exact ho
def jn(z:Int):List PV:=[ax (decide (z<0)),av (iG (iF z.natAbs))]
def mR{p q:PV}{neg:Bool}:al 78 [.ptr 0 0,ax neg,av (iG l)] ⟨[[p,q]],[],[]⟩ (.ptr 0 0) ⟨[[ax (neg&&decide (0<l.length)),av (iG l)]],[],[]⟩:=by
 have hl:=iK l;cases neg with
 |true=>
  refine' eN func78;(try refine' uN);refine' rB;all_goals first|rfl|(simp[hl])
 |false=>
  refine' eN func78;(try refine' uN);refine' rB;all_goals first|rfl|(simp[hl])
def HK(x:Int):(decide (x<0)&&decide (0<(iF x.natAbs).length))=decide (x<0):=by
 by_cases h:x<0
 ·have h0:x.natAbs≠0:=ab
  rw[bU h,ml h0];simp
 rw[bA h];rfl
def Ea{x:Int}(hm:(iF x.natAbs).length<=1000000):al 67 [.ptr 0 0,.ptr 1 0] ⟨[[ax false,.iM],jn x],[],[]⟩ (.ptr 0 0) ⟨[jn x,jn x],[],[]⟩:=by
 have ht:=CR (l:=iF x.natAbs) hm;have hg:=mR (p:= ax false) (q:=.iM) (neg:=decide (x<0)) (l:=iF x.natAbs);rw[HK]at hg;unfold jn;generalize iF x.natAbs=l at *
 generalize decide (x<0)=b at *
 refine' eN func67;(repeat first|refine' wc|(refine' oX;(first|exact iV ht|exact cD [] hg);exact kq)|refine' xW [1]);refine' rB;all_goals rfl
def Eb{z:Nat}(h:z<9223372036854775808):al 69 [.ptr 0 0,aq z] ⟨[[ax false,.iM]],[],[]⟩ (.ptr 0 0) ⟨[jn z],[],[]⟩:=by
 have hw:=xq (x:=z) aL;have hg:=mR (p:= ax false) (q:=.iM) (neg:=false) (l:=iF z);have hc:u64.wrap (z:Int)=(z:Int):=kC aL;have hw':ak 110 [ar (u64.wrap (z:Int))] (av (iG (iF z))):=by rw[hc];exact hw
 have hi:jn (z:Int)=[ax (false&&decide (0<(iF z).length)),av (iG (iF z))]:=by unfold jn;rw[bM,bA (show ¬((z:Int)<0) by omega)];rfl
 rw[hi];generalize iF z=l at *
 refine' eN func69;(repeat' first|refine' wf @hw' @hg|refine' sN<;>intro h|fail);all_goals(first|(exfalso;have:=aU h;omega)|(refine' rB;all_goals rfl))
def tq{z:Nat}(h:z<9223372036854775808):al 46 [aq z] ⟨[],[],[]⟩ (.ptr 0 0) ⟨[jn z],[],[]⟩:=by
 have hs:=Eb h;unfold jn at hs⊢;generalize iF (z:Int).natAbs=l at *
 generalize decide ((z:Int)<0)=b at *
 refine' eN func46;(try refine' we @hs);refine' rB;all_goals rfl
variable{z:Int}
def acY(h1:z<0)(h2: -9223372036854775808<=z):u64.wrap (0-u64.wrap z)=(z.natAbs:Int):=by simp only[IntKind.wrap,IntKind.signed,IntKind.bits,dN,dB,en];omega
def NK(h1:z<0)(h2: -9223372036854775808<=z):al 69 [.ptr 0 0,aq z] ⟨[[ax false,.iM]],[],[]⟩ (.ptr 0 0) ⟨[jn z],[],[]⟩:=by
 have hw:=xq (x:=z.natAbs) aL;have hg:=mR (p:= ax false) (q:=.iM) (neg:=decide (z<0)) (l:=iF z.natAbs);rw[HK]at hg;have hw':ak 110 [ar (u64.wrap (0-u64.wrap z))] (av (iG (iF z.natAbs))):=by rw[acY h1 h2];exact hw
 unfold jn;generalize iF z.natAbs=l at *
 refine' eN func69;(repeat' first|refine' wf @hw' @hg|refine' sN<;>intro h|fail);all_goals(first|(exfalso;have:=aX h;omega)|(refine' rB;all_goals rfl))
def Qm(h1: -9223372036854775808<=z)(h2:z<9223372036854775808):al 69 [.ptr 0 0,aq z] ⟨[[ax false,.iM]],[],[]⟩ (.ptr 0 0) ⟨[jn z],[],[]⟩:=by by_cases h:z<0;exact NK h h1;obtain⟨n,rfl⟩:=Int.eq_ofNat_of_zero_le (show 0<=z by omega);exact Eb ab
def Ch(h1: -9223372036854775808<=z)(h2:z<9223372036854775808):al 46 [aq z] ⟨[],[],[]⟩ (.ptr 0 0) ⟨[jn z],[],[]⟩:=by
 have hs:=Qm h1 h2;unfold jn at hs⊢;generalize iF z.natAbs=l at *
 generalize decide (z<0)=b at *
 refine' eN func46;(try refine' we @hs);refine' rB;all_goals rfl
def zt{o:Oper}{ρ:Operand->PV}{H:PH}{t:TypeId}{x y:Operand}{k1 k2:IntKind}{z':Int}(ho:o.op=.makeSlice t x y)(kf:ρ x=.g (.int k1 z))(pD:ρ y=.g (.int k2 z'))(hz:z=n)(hz':z'=n)(he:Tryz.prog.underlying t=some (.slice IF))(hn:n<=2000000):
  PO Tryz.prog o ρ H (.vw H.mu.length 0 0 n n) ⟨H.bx,H.tk,H.mu++[AR 0 (List.replicate n 0)]⟩:=by
 subst hz hz';have hr:iG (List.replicate n 0)=List.replicate n (mB (.int .u32 0)):=by unfold iG;rw[List.map_replicate];rfl
 rw[AR,hr];exact ON ho kf pD he (SZ rfl) (ZR rfl) rfl (BY rfl) (aZ _) ab ab
variable{d y:Nat}
def Z3{C z:Nat}(hC:C<WB)(hd:d<WB)(hy:y<WB)(hz:z<WB):u64.wrap ((C:Int)+u64.wrap (u64.wrap (u64.wrap (d:Int)*u64.wrap (y:Int))+u64.wrap (z:Int)))=((y*d+z+C:Nat):Int):=by
 have b:d*y<=(WB-1)*(WB-1):=dy ab ab;have e:y*d=d*y:=bG _ _;rw[e];rw[kC (n:=d) aK,kC (n:=y) aK,kC (n:=z) aK,<-dJ];generalize d*y=p at *
 rw[kC (n:=p) aK,<-gV,kC (n:=p+z) aK,<-gV,kC (n:=C+(p+z)) aK];omega
def tE{l:List GV}(h:l.length=n):(l.drop 0).take n=l:=by rw[dz,bR ab]
def sL(hX:(iF X).length<=1000)(hY:(iF Y).length<=1000):ak 80 [av (iG (iF X)),av (iG (iF Y))] (av (iG (iF (X*Y)))):=by
 by_cases h0:X=0;subst h0;rw[gO,jg];refine' eN func80;(try refine' uD);refine' rT;rfl;by_cases h1:Y=0
 ·subst h1;rw[dZ,jg];have hp:=jl h0;generalize iG (iF X)=xs at *
  have js:(((xs.length:Nat):Int)==0)=false:=bk.2 ab;refine' eN func80;(repeat' first|refine' uD|refine' sN<;>intro h|fail);all_goals(first|(exfalso;simp_all;done)|(refine' rT;rfl))
 have hp:=jl h0;have hq:=jl h1;have hpx:=iK (iF X);have hpy:=iK (iF Y);have E7:=ji X;have Q6:=ji Y;have zd:=jm X;have Kg:=jm Y;generalize iF X=xs at *
 generalize iF Y=ys at *
 have lC:i64.wrap (((iG xs).length:Int)+((iG ys).length:Int))=((ys.length+xs.length:Nat):Int):=by rw[jD ab];omega
 refine' eN func80;(repeat' first|refine' wb|refine xU [3] rfl ?_|refine' sN<;>intro h|fail);all_goals(first|(exfalso;have hh:=bQ.1 h;omega)|skip)
 clear h;(repeat first|refine' uD|(refine' oX;exact zt (n:=ys.length+xs.length) rfl rfl rfl lC lC (EL rfl) ab;exact kq));refine jf (S:=Nat×List Nat) (λs=>iL [(0,av (iG xs)),(1,av (iG ys)),(5,.vw 0 0 0 (ys.length+xs.length) (ys.length+xs.length)),(6,aq s.1)]) (λs=>⟨[],[],[AR 0 s.2]⟩) (λs=>s.1<=xs.length∧mY ys xs s.2 s.1) (λs=>xs.length-s.1) (0,List.replicate (ys.length+xs.length) 0) ⟨bm _,mY.start ys xs⟩
  (iE.le an) aJ (λs hs=>?_)
 obtain⟨i,zs⟩:=s;obtain⟨hi,hI⟩:=hs;dsimp only at hi hI;have hzl:=hI.len;(try refine' uD);refine' sQ<;>intro h
 ·have iI:i<xs.length:=by have:=aU h;omega
  have nk:xs[i]?=some (xs[i]'(by omega)):=aS ab;generalize xs[i]'(by omega)=d at nk;have hg:(iG xs)[(i:Int).toNat]?=some (wG d):=iT nk;have hd:d<WB:=E7.at nk;have tT:=hI.step Q6 nk hd;have p8:((zs.drop i).take ys.length).length=ys.length:=by simp;omega
  clear h;(try refine' uD);refine jf (S:=Nat) (λj=>iL [(0,av (iG xs)),(1,av (iG ys)),(5,.vw 0 0 0 (ys.length+xs.length) (ys.length+xs.length)),(6,aq i),(7,ar (jk ((zs.drop i).take j) (ys.take j) d 0)),(8,aq j)])
   (λj=>⟨[],[],[AR 0 (iH zs i (jb ((zs.drop i).take j) (ys.take j) d 0))]⟩) (λj=>j<=ys.length) (λj=>ys.length-j) 0 (bm _)
   (iE.le an) (kW.of_eq (by simp only[e8,jb,oh])) (λj hj=>?_)
  (try refine' uD);refine' sQ<;>intro h
  ·have amt:j<ys.length:=by have:=aU h;omega
   have hyj:ys[j]?=some (ys[j]'(by omega)):=aS ab;generalize ys[j]'(by omega)=y at hyj;have D8:(iG ys)[(j:Int).toNat]?=some (wG y):=iT hyj;have hy:y<WB:=Q6.at hyj;have hzj:(zs.drop i)[j]?=some (zs[i+j]'(by omega)):=(by rw[bD];exact aS ab);have hzk:zs[i+j]?=some (zs[i+j]'(by omega)):=aS ab;generalize zs[i+j]'(by omega)=z at hzj hzk;have hz:z<WB:=hI.ok.at hzk;have NA:(jb ((zs.drop i).take j) (ys.take j) d 0).length=j:=(by rw[kM (by rw[bW,bW,eY];omega),bW,eY];omega);have wE:(iG (iH zs i (jb ((zs.drop i).take j) (ys.take j) d 0)))[0+(i+j)]?=some (wG z):=iT (by rw[bc,oi ab];exact hzk);have hC:=nL ((hI.ok.drop i).take j) (Q6.take j) hd (show 0<WB by decide);obtain⟨s1,s2⟩:=rW (m:=d) (c:=0) hzj hyj;have uT:=Z3 hC hd hy hz;have zN:i64.wrap ((i:Int)+(j:Int))=((i+j:Nat):Int):=(by rw[jD ab];omega);clear h;(repeat first|refine' wc|(apply dR rfl rfl;focus(first|exact lU rfl rfl (AG rfl) rfl rfl wE rfl))|(refine' oX;(first|exact jA (q:=aI hg)|exact jA (q:=aI D8)|exact jV (i+j) (z:=by exact zN)|exact jS (q:=aI wE)|exact jH);exact kq)|refine' xW [10000]);have e1:GV.int .u32 (u32.wrap (u64.wrap ((jk ((zs.drop i).take j) (ys.take j) d 0:Int)+u64.wrap (u64.wrap (u64.wrap (d:Int)*u64.wrap (y:Int))+u64.wrap (z:Int)))))=wG ((y*d+z+jk ((zs.drop i).take j) (ys.take j) d 0)%WB):=(by rw[uT];exact aT (GV.int .u32) mr);exact⟨j+1,amt,by omega,iE.le (aC ⟨.inl (aT ar (by rw[uT,s2];exact sU (s:=32) af)),.inl (aT aq (jD ab)),trivial⟩),
    kW.of_eq (aT (λl=>(⟨[],[],[MO.arr 0 IF l]⟩:PH)) (show(iG (iH zs i (jb ((zs.drop i).take j) (ys.take j) d 0))).set (0+(i+j)) (GV.int .u32 (u32.wrap (u64.wrap ((jk ((zs.drop i).take j) (ys.take j) d 0:Int)+u64.wrap (u64.wrap (u64.wrap (d:Int)*u64.wrap (y:Int))+u64.wrap (z:Int))))))=iG (iH zs i (jb ((zs.drop i).take (j+1)) (ys.take (j+1)) d 0))from by rw[bc,e1,jo,s1,kx NA ab]))⟩
  ·have wT:j=ys.length:=by have:=aX h;omega
   subst wT;have Bm:(jb ((zs.drop i).take ys.length) ys d 0).length=ys.length:=(by rw[kM p8,p8]);rw[bR (aZ ys.length)];have hC:=nL ((hI.ok.drop i).take ys.length) Q6 hd (show 0<WB by decide);have VM:i64.wrap ((i:Int)+((iG ys).length:Int))=((i+ys.length:Nat):Int):=(by rw[jD ab];omega);have wE:(iG (iH zs i (jb ((zs.drop i).take ys.length) ys d 0)))[0+(i+ys.length)]?=some (wG (zs[i+ys.length]'(by omega))):=iT (by rw[bc,oi ab];exact aS _);generalize zs[i+ys.length]'(by omega)=q at wE;clear h;(repeat first|refine' uD|(refine' oX;(first|exact jV (i+ys.length) (z:=by exact VM)|exact jS (q:=aI wE));exact kq));have e1:GV.int .u32 (u32.wrap (jk ((zs.drop i).take ys.length) ys d 0:Int))=wG (jk ((zs.drop i).take ys.length) ys d 0):=(aT (GV.int .u32) mr).trans (aT wG (bn hC));exact⟨(i+1,yH zs ys i d),⟨iI,tT⟩,by dsimp only;omega,iE.le (aB ⟨.inl (aT aq (jD ab)),trivial⟩),
    kW.of_eq (aT (λl=>(⟨[],[],[MO.arr 0 IF l]⟩:PH)) (show(iG (iH zs i (jb ((zs.drop i).take ys.length) ys d 0))).set (0+(i+ys.length)) (GV.int .u32 (u32.wrap (jk ((zs.drop i).take ys.length) ys d 0:Int)))=iG (yH zs ys i d)from by unfold yH;rw[bc,e1,jo,kx Bm ab]))⟩
 ·have lk:i=xs.length:=by have:=aX h;omega
  subst lk;have tK:=hI.done;rw[zd,Kg]at tK;have ht:=vY hI.ok ai;rw[tK,bG Y X]at ht;clear h;refine jP 0 rfl (ja (env':=iL [(5,av (iG zs))]) (H':=⟨[],[],[.gone (0+1)]⟩) (iE.le ⟨.inl ?_,trivial⟩) aJ ?_);exact aT av (tE (by rw[iK];omega));(try refine' wn @ht);refine' rT;rfl
def Xp(ha:a<WB)(hb:b<WB):u64.wrap (((BitVec.ofInt u64.bits (u64.wrap ((b:Int)*2^min (32:Int).toNat u64.bits)) ||| BitVec.ofInt u64.bits (a:Int)).toNat:Nat):Int)=((a+WB*b:Nat):Int):=by rw[BitVec.or_comm];exact RH ha hb
def MJ(ha:a<WB*WB):u64.wrap (((a:Int)).tdiv (b:Int))=((a/b:Nat):Int):=by rw[<-il];exact kC (bO (dY _ _) ha)
def GG{a b:Nat}:((a:Int)).tmod (b:Int)=((a%b:Nat):Int):=by rw[gM]
variable{D:Nat}
def Z4(h:okW l):val (iQ l.length (val l/D))=val l/D:=lH (bO (dY _ _) (lP h))
def Z5(hX:(iF X).length<=100000)(BR:d≠0)(hd:d<WB):ak 145 [av (iG (iF X)),.g (wG d)] (.tuple [av (iG (iF (X/d))),.g (wG (X%d))]):=by
 have BX:=iK (iF X);have E7:=ji X;have zd:=jm X;generalize iF X=xs at *
 have yV:u64.wrap (d:Int)=(d:Int):=kC aK;have hdz:u64.wrap (d:Int)≠0:=by rw[yV];omega
 have jX:0<d:=ab
 have ht:=vY (l:=iQ xs.length (X/d)) (lJ _ _) (by rw[iN];unfold maxLen;omega);have hvd:=Z4 (D:=d) E7;rw[zd]at hvd;rw[hvd]at ht;refine' eN func145;(repeat first|refine' uN|refine oQ (zt (n:=xs.length) rfl rfl rfl (by rw[BX]) (by rw[BX]) (EL rfl) ab) ?_);refine jf (S:=Nat) (λk=>iL [(0,av (iG xs)),(1,.g (wG d)),(6,.vw 0 0 0 xs.length xs.length),(7,ar ((val (xs.drop k)%d:Nat):Int)),(8,aq ((k:Int)-1))]) (λk=>⟨[],[],[AR 0 (qW d xs k)]⟩) (λk=>k<=xs.length) (λk=>k) xs.length (aZ _)
  (iE.le (aB ⟨.inl (aT (λz:Nat=>ar (z:Int)) (by rw[dv,mQ,Nat.zero_mod])),.inl (aT aq (by rw[jD ab,BX])),trivial⟩)) (kW.of_eq (by rw[Zw];rfl)) (λk hk=>?_)
 cases k with
 |zero=>
  (repeat first|refine' wa|refine xU [9] rfl ?_);refine jP 0 rfl (ja (env':=iL [(6,av (iG (iQ xs.length (X/d)))),(7,ar ((X%d:Nat):Int))]) (H':=⟨[],[],[.gone (0+1)]⟩) (iE.le ⟨.inl ?_,.inl ?_,trivial⟩) aJ ?_);rw[<-zd,<-acm];exact aT av (tE (by rw[iK,Lc (bm _)]));rw[<-zd];rfl;(try refine' wk @ht);refine' rE;rfl;exact(aT (GV.int .u32) mr).trans (aT wG (bn (dU (bL _ jX) hd)))
 |succ k=>
  have hx:xs[k]?=some (xs[k]'(by omega)):=aS ab;generalize xs[k]'(by omega)=x at hx;have rL:=E7.at hx;have y7:(iG xs)[(((k+1:Nat):Int)-1).toNat]?=some (wG x):=by rw[show(((k+1:Nat):Int)-1).toNat=k by omega];exact iT hx
  have hr:=bL (val (xs.drop (k+1))) jX;have lT:=Ld jX hx;have Yr:=acn jX rL hx;have vd:=Lc (D:=d) (l:=xs) hk;have wE:(iG (qW d xs (k+1)))[0+k]?=some (wG ((qW d xs (k+1))[k]'(by omega))):=iT (by rw[bc];exact aS _);generalize(qW d xs (k+1))[k]'(by omega)=z at wE;have hdl:=Df (D:=d) rL hr;generalize val (xs.drop (k+1))%d=r at *
  have hN:x+WB*r<WB*WB:=by unfold WB at *;omega
  have Bo:u64.wrap (((BitVec.ofInt u64.bits (u64.wrap ((r:Int)*2^min (32:Int).toNat u64.bits)) ||| BitVec.ofInt u64.bits (u64.wrap (x:Int))).toNat:Nat):Int)=((x+WB*r:Nat):Int):=by rw[kC (n:=x) aK];exact Xp rL ab
  have hq:u64.wrap ((((x+WB*r:Nat)):Int).tdiv (u64.wrap (d:Int)))=(((x+WB*r)/d:Nat):Int):=by rw[yV];exact MJ hN
  have hm:(((x+WB*r:Nat)):Int).tmod (u64.wrap (d:Int))=(((x+WB*r)%d:Nat):Int):=by rw[yV];exact GG
  (try refine' uN);refine' sQ<;>intro h
  ·clear h;(repeat first|refine' wa|refine oQ (jA (g:=wG x) (z:=by omega) (q:=aI y7)) ?_|refine oQ jG ?_|refine xU [7] rfl ?_);refine ja (env':=iL [(0,av (iG xs)),(1,.g (wG d)),(6,.vw 0 0 0 xs.length xs.length),(7,ar ((x+WB*r:Nat):Int)),(8,aq (((k+1:Nat):Int)-1))]) (H':=⟨[],[],[AR 0 (qW d xs (k+1))]⟩) (iE.le (aB ⟨.inl (aT ar Bo),an⟩)) aJ ?_;(repeat first|refine' uN|refine oQ (jV k (z:=by exact show(((k+1:Nat):Int)-1)=(k:Int) by omega)) ?_|refine oQ (kg (xy rfl rfl rfl hdz) (aT ar hq)) ?_|refine oQ (kg (Dt rfl rfl rfl hdz) (aT ar hm)) ?_|refine oQ (jS (q:=aI wE)) ?_);exact⟨k,by omega,by omega,iE.le (aB ⟨.inl (aT (λz:Nat=>ar (z:Int)) lT.symm),.inl (aT aq (by rw[jD ab];omega)),trivial⟩),
    kW.of_eq (aT (λl=>(⟨[],[],[MO.arr 0 IF l]⟩:PH)) (show(iG (qW d xs (k+1))).set (0+k) (GV.int .u32 (u32.wrap (((x+WB*r)/d:Nat):Int)))=iG (qW d xs k)from by rw[bc,mr,bn hdl,<-Yr];exact jo))⟩
  exfalso;have:=aX h;omega
def acZ(hs:s<=64)(h:n*2^s<WB*WB):u64.wrap ((n:Int)*2^min ((s:Int)).toNat u64.bits)=((n*2^s:Nat):Int):=by rw[da,ec (show s<=u64.bits from hs),show((n:Int)*2^s)=((n*2^s:Nat):Int) by push_cast;rfl];exact kC h
variable{c:Nat}
def ahi{x:Nat}(hc:c<2^s)(hs:s<32):(c ||| (x*2^s)%WB)=(x*2^s+c)%WB:=by
 have hW:WB=2^(32-s)*2^s:=by rw[<-fp,show 32-s+s=32 by omega]
 have e1:(x*2^s)%WB=(x%2^(32-s))*2^s:=by rw[hW,Nat.mul_mod_mul_right]
 have e2:(x*2^s+c)%WB=(x%2^(32-s))*2^s+c:=by
  have iI:(x%2^(32-s))*2^s+c<WB:=by have h1:=bL x (dt (n:=32-s) (show 0<2 by decide));have h2:(x%2^(32-s)+1)*2^s<=2^(32-s)*2^s:=bg _ h1;rw[<-hW,bB,c8]at h2;omega
  rw[Nat.add_mod,e1,bn (show c<WB from bX hc (by rw[hW];exact Nat.le_mul_of_pos_left _ (dt af))),bn iI]
 rw[e1,e2,Nat.or_comm,<-iv,<-Nat.shiftLeft_add_eq_or_of_lt hc,iv]
def ai9(ha:a<WB)(hb:b<WB):u32.wrap (((BitVec.ofInt u32.bits (a:Int) ||| BitVec.ofInt u32.bits (b:Int)).toNat:Nat):Int)=((a ||| b:Nat):Int):=by
 have e:(BitVec.ofInt 32 (a:Int) ||| BitVec.ofInt 32 (b:Int)).toNat=(a ||| b):=by rw[dn,dn,iz,dD,dD,bn (show a<2^32 from ha),bn (show b<2^32 from hb)]
 show u32.wrap (((BitVec.ofInt 32 (a:Int) ||| BitVec.ofInt 32 (b:Int)).toNat:Nat):Int)=_;rw[e,mr,bn (gb (n:=32) ha hb)]
def Ut(hX:(iF X).length<=100000)(hs:s<32):ak 147 [av (iG (iF X)),ar s] (av (iG (iF (X*2^s)))):=by
 by_cases h0:X=0;subst h0;rw[gO,jg];refine' eN func147;(try refine' uN);refine' rT;rfl;have hp:=jl h0;have BX:=iK (iF X);have E7:=ji X;have zd:=jm X;generalize iF X=xs at *
 have hy:2^s<WB:=by have:=Nat.pow_lt_pow_right (show 1<2 by decide) hs;unfold WB;omega
 have Dz:0<2^s:=dt af;have ht:=vY (ajO (i:=xs.length) E7 hy Dz) (by rw[EX (aZ _)];unfold maxLen;omega);rw[acr,zd]at ht;have hq:i64.wrap (u64.wrap ((s:Int).tdiv 32))=0:=by rw[show(s:Int).tdiv 32=((s/32:Nat):Int) by rw[show(32:Int)=((32:Nat):Int)from rfl,<-il],cZ hs];rfl
 have hm:(s:Int).tmod 32=(s:Int):=by rw[show(s:Int).tmod 32=((s%32:Nat):Int) by rw[show(32:Int)=((32:Nat):Int)from rfl,<-gM],bn hs]
 have hlen:i64.wrap (i64.wrap (((iG xs).length:Int)+0)+1)=((xs.length+1:Nat):Int):=by rw[jD (n:=((iG xs).length:Int)+0) ab,jD ab];omega
 refine' eN func147;(try refine' uN);refine' sQ<;>intro h;exfalso;have hh:=bQ.1 h;omega;clear h;(repeat first|refine' wa|refine oQ (xy rfl rfl rfl af) ?_|refine oQ jR ?_|refine xU [4] rfl ?_);refine ja (env':=iL [(0,av (iG xs)),(5,aq 0),(6,ar s)]) (H':=⟨[],[],[]⟩) (iE.le ⟨.inl rfl,.inl (aT aq hq),.inl (aT ar hm),trivial⟩) aJ ?_;(repeat first|refine' uN|refine oQ (zt (n:=xs.length+1) rfl rfl rfl hlen hlen (EL rfl) ab) ?_);refine jf (S:=Nat) (λi=>iL [(0,av (iG xs)),(5,aq 0),(6,ar s),(7,.vw 0 0 0 (xs.length+1) (xs.length+1)),(8,aq i)]) (λi=>⟨[],[],[AR 0 (lW xs (2^s) i)]⟩) (λi=>i<=xs.length) (λi=>xs.length-i) 0 (bm _)
  (iE.le an) (kW.of_eq (by rw[Zy];rfl)) (λi hi=>?_)
 (try refine' uN);refine' sQ<;>intro h
 ·have iI:i<xs.length:=by have:=aU h;omega
  have nk:xs[i]?=some (xs[i]'(by omega)):=aS ab;generalize xs[i]'(by omega)=x at nk;have hg:(iG xs)[(i:Int).toNat]?=some (wG x):=iT nk;have rL:x<WB:=E7.at nk;obtain⟨g1,g2⟩:=agx (y:=2^s) iI;have lT:=acq (y:=2^s) nk;have hc:=wX (E7.take i) Dz;have YC:=EX (y:=2^s) hi;generalize lW xs (2^s) i=ws at *
  generalize iW (xs.take i) (2^s) 0=cc at *
  have BN:(iG ws)[0+i]?=some (wG cc):=iT (by rw[bc];exact g1);have Hf:x*2^s<WB*WB:=by have:x*2^s<=(WB-1)*(WB-1):=dy ab ab;unfold WB at *;omega
  have Ue:u64.wrap ((u64.wrap (x:Int))*2^min ((s:Int)).toNat u64.bits)=((x*2^s:Nat):Int):=by rw[kC (n:=x) aK];exact acZ ab Hf
  have BF:i64.wrap ((i:Int)+0)=((i:Nat):Int):=by rw[jD ab];omega
  have BG:i64.wrap (i64.wrap ((i:Int)+0)+1)=((i+1:Nat):Int):=by rw[BF,jD ab];omega
  have EC:cc<WB:=dU hc hy;have Bo:u32.wrap (((BitVec.ofInt u32.bits (cc:Int) ||| BitVec.ofInt u32.bits (u32.wrap ((x*2^s:Nat):Int))).toNat:Nat):Int)=(((x*2^s+cc)%WB:Nat):Int):=by rw[mr (n:=x*2^s),ai9 EC (bL _ af),ahi hc hs]
  have hdv:(x*2^s+cc)/WB=x*2^s/WB:=by
   have e:x*2^s=x/2^(32-s)*WB+(x%2^(32-s))*2^s:=by
    have h1:=eX x (2^(32-s));have hW:WB=2^(32-s)*2^s:=(by rw[<-fp,show 32-s+s=32 by omega]);conv=>lhs;rw[<-h1]
    rw[bB,hW,bG (2^(32-s)),cN]
   have iI:(x%2^(32-s))*2^s+cc<WB:=(by have hW:WB=2^(32-s)*2^s:=(by rw[<-fp,show 32-s+s=32 by omega]);have h1:=bL x (dt (n:=32-s) (show 0<2 by decide));have h2:(x%2^(32-s)+1)*2^s<=2^(32-s)*2^s:=bg _ h1;rw[<-hW,bB,c8]at h2;omega);rw[e];generalize x/2^(32-s)=q at *
   generalize(x%2^(32-s))*2^s=m at *
   unfold WB at *
   omega
  have abc:u32.wrap (((BitVec.ofInt u32.bits ((0:Nat):Int) ||| BitVec.ofInt u32.bits (u32.wrap (((x*2^s:Nat):Int).fdiv (2^min (32:Int).toNat u64.bits)))).toNat:Nat):Int)=(((x*2^s+cc)/WB:Nat):Int):=by have:=sU (n:=x*2^s) (s:=32) af;rw[show(((x*2^s:Nat):Int).fdiv (2^min (32:Int).toNat u64.bits))=((x*2^s/2^32:Nat):Int)from this];rw[mr (n:=x*2^s/2^32),ai9 af (bL _ af),Nat.zero_or,hdv];have:x*2^s/2^32<WB:=(by have:x*2^s<WB*WB:=Hf;exact(bK af).2 this);rw[bn this]
  clear h;(repeat first|refine' wa|refine oQ (jA (q:=aI hg)) ?_|refine oQ (kg (nW rfl rfl rfl (br _)) (aT ar Ue)) ?_|refine xU [9] rfl ?_);have Cu:(iG (ws.set i ((x*2^s+cc)%WB)))[0+(i+1)]?=some (wG 0):=iT (by rw[bc,bP ab];exact g2);refine nK (iL [(0,av (iG xs)),(5,aq 0),(6,ar s),(7,.vw 0 0 0 (xs.length+1) (xs.length+1)),(8,aq i),(9,ar ((x*2^s:Nat):Int))]) ⟨[],[],[AR 0 (ws.set i ((x*2^s+cc)%WB))]⟩ ?_ ?_
  ·(repeat first|refine' uN|refine oQ (jV i (z:=by exact BF)) ?_|refine oQ (jM (q:=aI BN)) ?_|refine oQ (jS (q:=aI BN)) ?_);exact⟨iE.le an,
    kW.of_eq (aT (λl=>(⟨[],[],[MO.arr 0 IF l]⟩:PH)) (show(iG ws).set (0+i) (GV.int .u32 (u32.wrap (((BitVec.ofInt u32.bits (cc:Int) ||| BitVec.ofInt u32.bits (u32.wrap ((x*2^s:Nat):Int))).toNat:Nat):Int)))=iG (ws.set i ((x*2^s+cc)%WB))from by rw[bc,Bo];exact jo))⟩
  (repeat first|refine' uN|refine oQ (jV (i+1) (z:=by exact BG)) ?_|refine oQ (jM (q:=aI Cu)) ?_|refine oQ jH ?_|refine oQ (jS (q:=aI Cu)) ?_);exact⟨i+1,iI,by omega,iE.le (aC ⟨.inl (aT aq (jD ab)),trivial⟩),
   kW.of_eq (aT (λl=>(⟨[],[],[MO.arr 0 IF l]⟩:PH)) (show(iG (ws.set i ((x*2^s+cc)%WB))).set (0+(i+1)) (GV.int .u32 (u32.wrap (((BitVec.ofInt u32.bits ((0:Nat):Int) ||| BitVec.ofInt u32.bits (u32.wrap (((x*2^s:Nat):Int).fdiv (2^min (32:Int).toNat u64.bits)))).toNat:Nat):Int)))=iG (lW xs (2^s) (i+1))from by rw[bc,abc,<-lT];exact jo))⟩
 ·have lk:i=xs.length:=by have:=aX h;omega
  subst lk;clear h;refine jP 0 rfl (ja (env':=iL [(7,av (iG (lW xs (2^s) xs.length)))]) (H':=⟨[],[],[.gone (0+1)]⟩) (iE.le ⟨.inl ?_,trivial⟩) aJ ?_);exact aT av (tE (by rw[iK,EX (aZ _)]));(try refine' wk @ht);refine' rT;rfl
def Ju(s:Nat):List Nat->List Nat
 |[]=>[]|x::r=>((x+WB*r.headD 0)/2^s)%WB::Ju s r
def oS(s:Nat):∀l,(Ju s l).length=l.length
 |[]=>rfl|x::r=>by simp[Ju,oS s r]
def YD(s:Nat):∀l,okW (Ju s l)
 |[]=>ke|x::r=>iS.2 ⟨bL _ af,YD s r⟩
def YE{x R:Nat}(hx:x<WB)(hs:s<=32):(x+WB*(y+WB*R))/2^s=((x+WB*y)/2^s)%WB+WB*((y+WB*R)/2^s):=by
 have hP:0<2^s:=dt af;have hW:WB=2^s*2^(32-s):=by rw[<-fp,show s+(32-s)=32 by omega]
 have e1:(x+WB*(y+WB*R))/2^s=(x+WB*y)/2^s+2^(32-s)*(WB*R):=by rw[show x+WB*(y+WB*R)=x+WB*y+2^s*(2^(32-s)*(WB*R)) by rw[<-cN (2^s),<-hW,cn];omega,cL _ _ hP]
 have e2:(y+WB*R)/2^s=y/2^s+2^(32-s)*R:=by rw[show WB*R=2^s*(2^(32-s)*R) by rw[<-cN,<-hW],cL _ _ hP]
 have e3:(x+WB*y)/2^s/WB=y/2^s:=by rw[fq,bG (2^s) WB,<-fq,cL _ _ af,cZ hx,bc]
 have e4:=cT ((x+WB*y)/2^s) WB;rw[e3]at e4;rw[e1,e2,cn,<-ep,e4,Nat.mul_left_comm]
def Uu{s:Nat}(hs:s<=32):∀{l:List Nat},okW l->val (Ju s l)=val l/2^s
 |[],_=>by simp[Ju,mQ]
 |x::r,h=>by
  obtain⟨h1,h2⟩:=iS.1 h;have ih:=Uu hs h2;rw[Ju,kK,kK,ih];cases r with
  |nil=>
   have:=YE (y:=0) (R:=0) h1 hs;simp only[mQ,List.headD_nil,dZ,b9,Nat.zero_div]at this⊢;exact this.symm
  |cons y r'=>exact(YE h1 hs).symm
def Uv{s:Nat}:∀{l:List Nat} {i x:Nat},l[i]?=some x->(Ju s l)[i]?=some (((x+WB*l.getD (i+1) 0)/2^s)%WB)
 |[],_,_,h=>by simp at h|x::r,0,z,h=>by simp at h;subst h;cases r<;>simp[Ju]|x::r,i+1,z,h=>by have:=Uv (s:=s) (l:=r) (i:=i) (x:=z) (by simpa using h);simpa[Ju]using this
def Ai(l:List Nat)(i:Nat):List Nat:=l.take i++List.replicate (l.length-i) 0
variable{i:Nat}
def Ec(h:i<=l.length):(Ai l i).length=l.length:=by simp[Ai];omega
def SF{x:Nat}(h:l[i]?=some x):(Ai l i).set i x=Ai l (i+1):=by
 have hi:=(aR.1 h).1;have e:(l.take i).length=i:=by simp;omega
 unfold Ai;rw[dW _ _ ab,e,dA,show l.length-i=(l.length-(i+1))+1 by omega,fB,fU,fu,h];simp
def ac0(hs:s<=64):((n:Int)).fdiv (2^min ((s:Int)).toNat u64.bits)=((n/2^s:Nat):Int):=sU hs
def xn(hX:(iF X).length<=100000)(hs:s<32):ak 148 [av (iG (iF X)),ar s] (av (iG (iF (X/2^s)))):=by
 have hq:i64.wrap (u64.wrap ((s:Int).tdiv 32))=0:=by rw[show(s:Int).tdiv 32=((s/32:Nat):Int) by rw[show(32:Int)=((32:Nat):Int)from rfl,<-il],cZ hs];rfl
 have hm:(s:Int).tmod 32=(s:Int):=by rw[show(s:Int).tmod 32=((s%32:Nat):Int) by rw[show(32:Int)=((32:Nat):Int)from rfl,<-gM],bn hs]
 by_cases h0:X=0;subst h0;rw[Nat.zero_div,jg];refine' eN func148;(repeat first|refine' wa|refine oQ (xy rfl rfl rfl af) ?_|refine oQ jR ?_|refine xU [2] rfl ?_);refine ja (env':=iL [(0,av (iG [])),(5,aq 0),(6,ar s)]) (H':=⟨[],[],[]⟩) (iE.le ⟨.inl rfl,.inl (aT aq hq),.inl (aT ar hm),trivial⟩) aJ ?_;(try refine' uN);refine' rT;rfl;have hp:=jl h0;have BX:=iK (iF X);have E7:=ji X;have zd:=jm X;generalize iF X=xs at *
 have ht:=vY (YD s xs) (by rw[oS];unfold maxLen;omega);rw[Uu ab E7,zd]at ht;have hlen:i64.wrap (((iG xs).length:Int)-0)=((xs.length:Nat):Int):=by rw[jD ab];omega
 refine' eN func148;(repeat first|refine' wa|refine oQ (xy rfl rfl rfl af) ?_|refine oQ jR ?_|refine xU [2] rfl ?_);refine ja (env':=iL [(0,av (iG xs)),(5,aq 0),(6,ar s)]) (H':=⟨[],[],[]⟩) (iE.le ⟨.inl rfl,.inl (aT aq hq),.inl (aT ar hm),trivial⟩) aJ ?_;(try refine' uN);refine' sQ<;>intro h;exfalso;have hh:=aU h;omega;clear h;(repeat first|refine' uN|refine oQ (zt (n:=xs.length) rfl rfl rfl hlen hlen (EL rfl) ab) ?_);refine jf (S:=Nat) (λi=>iL [(0,av (iG xs)),(5,aq 0),(6,ar s),(7,.vw 0 0 0 xs.length xs.length),(8,aq i)]) (λi=>⟨[],[],[AR 0 (Ai (Ju s xs) i)]⟩) (λi=>i<=xs.length) (λi=>xs.length-i) 0 (bm _)
  (iE.le an) (kW.of_eq (by unfold Ai;rw[oS];rfl)) (λi hi=>?_)
 (repeat first|refine' uN|refine oQ jL ?_);refine' sQ<;>intro h
 ·have iI:i<xs.length:=by have:=aU h;omega
  have nk:xs[i]?=some (xs[i]'(by omega)):=aS ab;generalize xs[i]'(by omega)=x at nk;have hg:(iG xs)[(i64.wrap ((i:Int)+0)).toNat]?=some (wG x):=by rw[jD ab];exact iT (by rw[show((i:Int)+0).toNat=i by omega];exact nk)
  have x8:0<=i64.wrap ((i:Int)+0):=by rw[jD ab];omega
  have rL:x<WB:=E7.at nk;have oJ:=Uv (s:=s) nk;have lT:=SF oJ;have IB:xs.getD (i+1) 0<WB:=by
   rw[dE];cases hh:xs[i+1]? with
   |none=>exact(by decide:0<WB)|some y=>exact E7.at hh
  have pD:i+1<xs.length->(iG xs)[i+1]?=some (wG (xs.getD (i+1) 0)):=λhh=>iT (by rw[dE,aS hh];rfl);have OC:¬i+1<xs.length->xs.getD (i+1) 0=0:=λhh=>by rw[dE,dp ab];rfl
  have MZ:=Ec (l:=Ju s xs) (i:=i) (by rw[oS];omega);rw[oS]at MZ;generalize xs.getD (i+1) 0=y at *
  generalize Ai (Ju s xs) i=ws at *
  have hz:(iG ws)[0+i]?=some (wG (ws[i]'(by omega))):=iT (by rw[bc];exact aS _);generalize ws[i]'(by omega)=z at hz;have BG:i64.wrap (i64.wrap ((i:Int)+0)+1)=((i+1:Nat):Int):=by rw[jD (n:=(i:Int)+0) ab,jD ab];omega
  have BN:i+1<xs.length->(iG xs)[(i64.wrap (i64.wrap ((i:Int)+0)+1)).toNat]?=some (wG y):=λhh=>by rw[BG];exact pD hh
  have amu:0<=i64.wrap (i64.wrap ((i:Int)+0)+1):=by rw[BG];omega
  have w1:=kC (n:=x) aK;have w2:=kC (n:=y) aK;have Bo:u64.wrap (((BitVec.ofInt u64.bits (u64.wrap (x:Int)) ||| BitVec.ofInt u64.bits (u64.wrap (u64.wrap (y:Int)*2^min (32:Int).toNat u64.bits))).toNat:Nat):Int)=((x+WB*y:Nat):Int):=by rw[w1,w2];exact RH rL IB
  clear h;(repeat first|refine' wa|refine oQ (jA (g:=wG x) (z:=x8) (q:=aI hg)) ?_|refine xU [9] rfl ?_);refine nK (iL [(0,av (iG xs)),(5,aq 0),(6,ar s),(7,.vw 0 0 0 xs.length xs.length),(8,aq i),(9,ar ((x+WB*y:Nat):Int))]) ⟨[],[],[AR 0 ws]⟩ ?_ ?_;(try refine' uN);refine' sQ<;>intro h;have hc:i+1<xs.length:=(by rw[BG]at h;have:=aU h;omega);have D8:=BN hc;clear h;(repeat first|refine' uN|refine oQ (jA (g:=wG y) (z:=amu) (q:=aI D8)) ?_|refine oQ jG ?_);exact⟨iE.le (aD ⟨.inl (aT ar Bo),trivial⟩),aJ⟩;have hc:¬i+1<xs.length:=(by rw[BG]at h;have:=aX h;omega);have Dz:=OC hc;have e:u64.wrap (x:Int)=((x+WB*y:Nat):Int):=(by rw[w1,Dz,dZ,b9]);clear h;(try refine' uN);exact⟨iE.le (aD ⟨.inl (aT ar e),trivial⟩),aJ⟩;(repeat first|refine' uN|refine oQ (jV i) ?_|refine oQ (kg (pP rfl rfl rfl (br _)) (aT ar (ac0 ab))) ?_|refine oQ (jS (q:=aI hz)) ?_);exact⟨i+1,iI,by omega,iE.le (aC ⟨.inl (aT aq (jD ab)),trivial⟩),
   kW.of_eq (aT (λl=>(⟨[],[],[MO.arr 0 IF l]⟩:PH)) (show(iG ws).set (0+i) (GV.int .u32 (u32.wrap (((x+WB*y)/2^s:Nat):Int)))=iG (Ai (Ju s xs) (i+1))from by rw[bc,mr,<-lT];exact jo))⟩
 ·have lk:i=xs.length:=by have:=aX h;omega
  subst lk;clear h;refine jP 0 rfl (ja (env':=iL [(7,av (iG (Ju s xs)))]) (H':=⟨[],[],[.gone (0+1)]⟩) (iE.le ⟨.inl ?_,trivial⟩) aJ ?_);refine aT av ((tE (by rw[iK,Ec (by rw[oS];exact aZ _),oS])).trans ?_);unfold Ai;rw[bR (by rw[oS];exact aZ _),oS,dA,gn,cG];(try refine' wk @ht);refine' rT;rfl
def ac1:((n:Int)).fdiv (2^min (1:Int).toNat u32.bits)=((n/2:Nat):Int):=by rw[show(2:Int)^min (1:Int).toNat u32.bits=((2:Nat):Int)from rfl,fM _ (br _)];rfl
def V7{x:Nat}(h0:y≠0)(hy:y<WB):ak 146 [av (iG [x,y])] (aq ((33+y.log2:Nat):Int)):=by
 have h1:=Nat.log2_self_le h0;have h2:=Nat.lt_log2_self (n:=y);have h3:y.log2<32:=by refine cj λhc=>?_;have:2^32<=2^y.log2:=cf af ab;unfold WB at hy;omega
 generalize y.log2=N at *
 refine' eN func146;(repeat first|refine' uN|refine oQ (jB (g:=wG y) (z:=show(0:Int)<=i64.wrap (((2:Nat):Int)-1) by decide)) ?_);refine jf (S:=Nat) (λk=>iL [(0,av (iG [x,y])),(3,aq k),(4,.g (wG (y/2^k)))]) (λ_=>⟨[],[],[]⟩) (λk=>k<=N+1) (λk=>N+1-k) 0 (bm _)
  (iE.le (aA ⟨.inl (aT (λz=>PV.g (wG z)) (show y=y/2^0 by rw[eM,fe])),trivial⟩)) aJ (λk hk=>?_)
 (try refine' uN);refine' sQ<;>intro h
 ·have yt:k<N+1:=by
   refine cj λhc=>?_;have:k=N+1:=ab;subst this;have:y/2^(N+1)=0:=cZ h2;rw[this]at h;simp at h
  clear h;(repeat first|refine' uN|refine oQ jH ?_);exact⟨k+1,yt,by omega,iE.le ⟨.inl rfl,.inl (aT aq (jD ab)),.inl (aT (λz=>PV.g (.int .u32 z)) (by rw[cW,<-fq];exact ac1)),trivial⟩,aJ⟩
 ·have yt:k=N+1:=by
   refine cj λhc=>?_;have h4:2^k<=2^N:=cf af ab;have h5:0<y/2^k:=fY ab (dt af);generalize y/2^k=q at *
   have hq:((q:Nat):Int)=0:=(by simpa using h);omega
  subst yt;clear h;(try refine' uN);refine' rT;have e:i64.wrap (i64.wrap (((2:Nat):Int)-1)*32)=32:=af
  show i64.wrap (i64.wrap (i64.wrap (((2:Nat):Int)-1)*32)+((N+1:Nat):Int))=_;rw[e,jD ab];omega
def Z6(h:X<Y)(hX:(iF X).length<=100000)(hY:(iF Y).length<=100000):ak 109 [av (iG (iF X)),av (iG (iF Y))] (.tuple [av (iG (iF (X/Y))),av (iG (iF (X%Y)))]):=by
 have hc:=rK hX hY;rw[show oz X Y= -1 by unfold oz;rw[aW h]]at hc;have ht:=CR (l:=iF X) ab;rw[cZ h,bn h,jg];have hp:=jl (X:=Y) ab;clear hX hY h;generalize iF X=xs at *
 generalize iF Y=ys at *
 refine' eN func109;(try refine' uD);refine' sQ<;>intro h;exfalso;have hh:=bQ.1 h;omega;clear h;(try refine' wo @hc @ht);refine' rE;all_goals rfl
def MK(h:Y<=X):decide (oz X Y<0)=false:=by refine bA ?_;unfold oz;rw[aV ab];split<;>omega
def sd(h:X<WB*WB):(iG (iF X)).length<=2:=by rw[kL];exact iU (k:=2) (by rw[cW,dT];exact h)
def V8(h0:Y≠0)(hXY:Y<=X)(hX:X<WB*WB):ak 109 [av (iG (iF X)),av (iG (iF Y))] (.tuple [av (iG (iF (X/Y))),av (iG (iF (X%Y)))]):=by
 have hYl:Y<WB*WB:=ab
 have lx:=sd hX;have ly:=sd hYl;have hc:=rK (X:=X) (Y:=Y) (by rw[<-kL];omega) (by rw[<-kL];omega);have hr:=MK hXY;generalize oz X Y=r at hc hr;have p1:=Dl hX;have p2:=Dl hYl;have hq:=xq (x:=X/Y) (bO (dY _ _) hX);have hm:=xq (x:=X%Y) (bO (Nat.mod_le _ _) hX);have hp:=jl h0;have e1:=MJ (b:=Y) hX;have e2:= @GG X Y;have hz:(Y:Int)≠0:=ab
 generalize iF (X/Y)=qs,iF (X%Y)=ms,iF X=xs,iF Y=ys at *
 generalize X/Y=q,X%Y=m at *
 refine' eN func109;(try refine' uD);refine' sQ<;>intro h;exfalso;have hh:=bQ.1 h;omega;clear h;(try refine' wn @hc);refine' sQ<;>intro h;exfalso;rw[hr]at h;cases h;clear h;(try refine' uD);refine' sQ<;>intro h
 ·clear h;(repeat first|refine' uD|(refine' oX;(first|exact iV p1|exact iV p2|exact kg (xy rfl rfl rfl hz) (aT ar e1)|exact kg (Dt rfl rfl rfl hz) (aT ar e2)|exact iV hq|exact iV hm);exact kq));refine' rE;all_goals rfl
 exfalso;have hh:=aX h;omega
def div_one{X Y:Nat}(h0:Y≠0)(hY:Y<WB)(hX:WB*WB<=X)(hm:(iF X).length<=100000):ak 109 [av (iG (iF X)),av (iG (iF Y))] (.tuple [av (iG (iF (X/Y))),av (iG (iF (X%Y)))]):=by
 have hc:=rK (X:=X) (Y:=Y) hm (by rw[<-kL];have:=sd (X:=Y) aK;omega);have hr:=MK (X:=X) (Y:=Y) aK;generalize oz X Y=r at hc hr;have hs:=Z5 hm h0 hY;have ht:=vY (l:=[X%Y]) (iS.2 ⟨dU (bL _ ab) hY,ke⟩) (by unfold maxLen;simp);rw[kK,mQ,dZ,b9]at ht;have hl:2<(iG (iF X)).length:=by
  rw[kL];refine cj λhc=>?_;have h1:=lP (ji X);rw[jm]at h1;have h2:WB^(iF X).length<=WB^2:=cf af ab;have:WB^2=WB*WB:=by rw[cW,dT]
  omega
 rw[jC h0 hY]at hc⊢;generalize iF (X/Y)=qs at *
 generalize iF (X%Y)=ms,iF X=xs at *
 generalize X%Y=m at *
 refine' eN func109;(try refine' wn @hc);refine' sQ<;>intro h;exfalso;rw[hr]at h;cases h;clear h;(try refine' uD);refine' sQ<;>intro h;exfalso;have hh:=aU h;omega;clear h;(repeat first|refine' uD|(refine' oX;(first|exact jB (g:=wG Y)|exact iV hs|exact iV ht);exact kq));refine' rE;all_goals rfl
def qV(D:Nat)(l:List Nat)(n k:Nat):List Nat:=List.replicate k 0++iQ (n-k) (val (l.drop k)/D)
variable{k:Nat}
def LJ(h:k<=n):(qV D l n k).length=n:=by unfold qV;rw[bd,cS,iN];omega
def ac2{x:Nat}(hD:0<D)(hx:x<WB)(hk:k<n)(h:l[k]?=some x):(qV D l n (k+1)).set k ((x+WB*(val (l.drop (k+1))%D))/D)=qV D l n k:=by have hs:=(HC D x (val (l.drop (k+1))) hD).1;have hd:=Df (x:=x) hx (bL (val (l.drop (k+1))) hD);unfold qV;rw[HA h,hs,show n-k=(n-(k+1))+1 by omega,iQ,dc,bn hd,cL _ _ af,cZ hd,bc];rw[List.replicate_succ',bV];have:= @T4 (List.replicate k 0) (iQ (n-(k+1)) (val (l.drop (k+1))/D)) 0 ((x+WB*(val (l.drop (k+1))%D))/D);rw[cS]at this;exact this
def aj6(hD:0<D)(FQ:D<WB*WB):okW (uW D l 0):=by unfold uW;have:=bL (val (l.drop 0)) hD;refine kz.2 ⟨?_,iS.2 ⟨bL _ af,iS.2 ⟨(bK af).2 ab,oB _⟩⟩⟩;rw[e8];exact ke
def Uw{V:Nat}(h1:WB<=V)(h2:V<WB*WB):iF V=[V%WB,V/WB]:=by
 have h0:V/WB≠0:=by have:=fY h1 (show 0<WB by decide);omega
 rw[ml aK,jC h0 ((bK af).2 h2)]
def ac3(hk:k<=l.length):WB^k*val (l.drop k)<=val l:=by have:=jy (l.take k) (l.drop k);rw[cA,bW,ec hk]at this;omega
def ahj(h1:WB<=Y)(h2:Y<WB*WB):(Y/WB).log2<32∧2147483648<=(Y*2^(31-(Y/WB).log2))/WB∧Y*2^(31-(Y/WB).log2)<WB*WB:=by
 have h0:Y/WB≠0:=by have:=fY h1 (show 0<WB by decide);omega
 have hb:Y/WB<WB:=(bK af).2 h2;have k1:=Nat.log2_self_le h0;have k2:=Nat.lt_log2_self (n:=Y/WB);have k3:(Y/WB).log2<32:=by
  refine cj λhc=>?_;have:2^32<=2^(Y/WB).log2:=cf af ab;unfold WB at *
  omega
 have hy:=cT Y WB;have hyl:=bL Y (show 0<WB by decide);generalize Y/WB=b at *
 generalize Y%WB=a,b.log2=N at *
 refine⟨k3,?_,?_⟩
 ·refine(fa af).2 ?_;have e1:2^N*2^(31-N)<=b*2^(31-N):=bg _ k1;rw[<-fp,show N+(31-N)=31 by omega]at e1;have e2:WB*b*2^(31-N)<=Y*2^(31-N):=bg _ ab;have e3:WB*(b*2^(31-N))=WB*b*2^(31-N):=by rw[cN]
  have e4:WB*2147483648<=WB*(b*2^(31-N)):=ch _ e1;rw[bG 2147483648];omega
 ·have e1:Y+1<=WB*2^(N+1):=by
   have:WB*(b+1)<=WB*2^(N+1):=ch _ k2;rw[cn,cU]at this;omega
  have e2:(Y+1)*2^(31-N)<=WB*2^(N+1)*2^(31-N):=bg _ e1;rw[cN,<-fp,show N+1+(31-N)=32 by omega,bB,c8]at e2;have e3:0<2^(31-N):=dt af;have e4:(2:Nat)^32=WB:=rfl;rw[e4]at e2;omega
def V9{u p:Nat}(hu:u<WB)(hd:d<=1):
  u32.wrap (u64.wrap (u64.wrap (u64.wrap (u:Int)-u64.wrap (u32.wrap (p:Int)))-(d:Int)))=(((u+(WB+WB)-p%WB-d)%WB:Nat):Int)∧
  (u64.wrap (u64.wrap (u64.wrap (u:Int)-u64.wrap (u32.wrap (p:Int)))-(d:Int))).fdiv (2^min (63:Int).toNat u64.bits)=((if u<p%WB+d then 1 else 0:Nat):Int):=by
 have hl:=bL p (show 0<WB by decide);rw[mr (n:=p),kC (n:=u) aK,kC (n:=p%WB) aK];generalize p%WB=l at *
 have hT:u64.wrap (u64.wrap ((u:Int)-(l:Int))-(d:Int))=((if u<l+d then u+18446744073709551616-l-d else u-l-d:Nat):Int):=by
  simp only[IntKind.wrap,IntKind.signed,IntKind.bits,dN,dB,en];unfold WB at *
  split<;>omega
 rw[hT];refine⟨?_,?_⟩
 ·rw[mr];congr 1;unfold WB at *
  split<;>omega
 ·have:=sU (n:=if u<l+d then u+18446744073709551616-l-d else u-l-d) (s:=63) af;rw[show(((if u<l+d then u+18446744073709551616-l-d else u-l-d:Nat):Int)).fdiv (2^min (63:Int).toNat u64.bits)=_ from this];congr 1;unfold WB at *
  by_cases hc:u<l+d;rw[aW hc,aW hc];omega;rw[aV hc,aV hc];omega
def Xq(A:List Nat)(j v1 v0 g x1 x0 d0 d1 i c d:Nat)(ws:List Nat):Prop:=
 (i=0∧c=0∧d=0∧ws=A)∨(i=1∧c=g*v0/WB∧d=d0∧ws=A.set j x0)∨(i=2∧c=(g*v0/WB+g*v1)/WB∧d=d1∧ws=(A.set j x0).set (j+1) x1)
def Wc{A ws:List Nat}{j v1 v0 g u2 u1 u0 x1 x0 d0 d1:Nat}(hW:Win u2 u1 u0 v1 v0 g x1 x0 d0 d1)(hA0:A[j]?=some u0)(hA1:A[j+1]?=some u1)(hu0:u0<WB)(CA:u1<WB)(ox:v0<WB)(lI:v1<WB)(hg:g<WB)(hs:Xq A j v1 v0 g x1 x0 d0 d1 i c d ws)(hi:i<2):
  ∃vi ui,[v0,v1][i]?=some vi∧ws[i+j]?=some ui∧vi<WB∧ui<WB∧c+g*vi<WB*WB∧d<=1∧Xq A j v1 v0 g x1 x0 d0 d1 (i+1) ((c+g*vi)/WB) (if ui<(c+g*vi)%WB+d then 1 else 0) (ws.set (i+j) ((ui+(WB+WB)-(c+g*vi)%WB-d)%WB)):=by
 have q0:g*v0<=(WB-1)*(WB-1):=dy ab ab;rcases hs with⟨rfl,rfl,rfl,rfl⟩|⟨rfl,rfl,rfl,rfl⟩|⟨rfl,_⟩
 ·refine⟨v0,u0,rfl,by rw[bc];exact hA0,ox,hu0,by unfold WB at *;omega,by omega,.inr (.inl ⟨rfl,by rw[bc],?_,?_⟩)⟩;rw[hW.BR,bc,b9]
  ·rw[hW.sJ,bc,bc,gD];congr 1;have:=bL (g*v0) (show 0<WB by decide);generalize g*v0%WB=l at *
   unfold WB at *
   omega
 refine⟨v1,u1,rfl,by rw[bP ab,eK];exact hA1,lI,CA,hW.hp,by rw[hW.BR];split<;>omega,.inr (.inr ⟨rfl,rfl,hW.vS.symm,?_⟩)⟩;rw[hW.kf,eK 1 j];omega
def Z7{g v:Nat}(hv:v<WB)(h:c+g*v<WB*WB):u64.wrap ((c:Int)+u64.wrap ((g:Int)*u64.wrap (v:Int)))=((c+g*v:Nat):Int):=by
 rw[kC (n:=v) aK,<-dJ];generalize g*v=p at *
 rw[kC (n:=p) ab,<-gV,kC h]
def ac4(IA:WB<=Y)(Q2:Y<WB*WB)(hX:WB*WB<=X)(hm:(iF X).length<=10000):ak 109 [av (iG (iF X)),av (iG (iF Y))] (.tuple [av (iG (iF (X/Y))),av (iG (iF (X%Y)))]):=by
 have Q3:Y/WB≠0:=by have:=fY IA (show 0<WB by decide);omega
 have ri:Y/WB<WB:=(bK af).2 Q2;have Q4:=Uw IA Q2;obtain⟨k3,kt,kV⟩:=ahj IA Q2;have hlen:=V7 (x:=Y%WB) Q3 ri;have Jj:=sd Q2;have hc:=rK (X:=X) (Y:=Y) ab (by rw[<-kL];omega);have hr:=MK (X:=X) (Y:=Y) ab;generalize oz X Y=rr at hc hr;generalize(Y/WB).log2=N at *
 have afo:31-N<32:=ab
 have FG:u64.wrap (i64.wrap (i64.wrap (32-(i64.wrap (((33+N:Nat):Int)-1)).tmod 32)-1))=((31-N:Nat):Int):=by rw[jD (n:=((33+N:Nat):Int)-1) ab,show((33+N:Nat):Int)-1=((32+N:Nat):Int) by omega,show((32+N:Nat):Int).tmod 32=(((32+N)%32:Nat):Int) by rw[show(32:Int)=((32:Nat):Int)from rfl,<-gM],show(32+N)%32=N by omega,jD (n:=32-(N:Int)) ab,jD ab,show(32-(N:Int)-1)=((31-N:Nat):Int) by omega];exact kC aL
 generalize hs:31-N=s at *
 have IX:0<2^s:=dt af;have aow:2^s<=2147483648:=by
  have:2^s<=2^31:=cf af ab;have e:(2:Nat)^31=2147483648:=af
  omega
 have aja:WB<=Y*2^s:=b8 IA (gj _ IX);have Nw:=Uw aja kV;have MS:=Ut (X:=Y) (s:=s) (by rw[<-kL];omega) afo;have BX:=Ut (X:=X) (s:=s) ab afo;have f1:X/Y=X*2^s/(Y*2^s):=(Nat.mul_div_mul_right X Y IX).symm;have f2:X%Y=X*2^s%(Y*2^s)/2^s:=by rw[Nat.mul_mod_mul_right,Nat.mul_div_cancel _ IX]
 have D5:2<(iF X).length:=by
  refine cj λhc=>?_;have h1:=lP (ji X);rw[jm]at h1;have h2:WB^(iF X).length<=WB^2:=cf af ab;have:WB^2=WB*WB:=by rw[cW,dT]
  omega
 have Q5:X<WB^(iF X).length:=by have:=lP (ji X);rwa[jm]at this
 have hZL:X*2^s<WB^(iF X).length*2^s:=gE Q5 IX;have ajb:X*2^s<WB^((iF X).length+1):=bX hZL (by rw[cW];exact ch _ aL);have hQL:X*2^s/(Y*2^s)<WB^(iF X).length:=by rw[<-f1];exact bO (dY _ _) Q5
 have hdl:=iU ajb;have LA:=iK (iF X);rw[Q4]at hc MS;rw[Q4,f1,f2];rw[Nw]at MS;generalize hL:(iF X).length=L at *
 clear Q4 Nw f1 f2;generalize iF X=xs at *
 generalize hV:Y*2^s=V at *
 generalize hZ:X*2^s=Z at *
 have ox:V%WB<WB:=bL _ af;have lI:V/WB<WB:=(bK af).2 kV;have VX:=cT V WB;generalize V%WB=v0 at *
 generalize V/WB=v1,Y%WB=b0,Y/WB=b1 at *
 have EV:0<V:=ab
 have QZ:=iN (L+2) Z;have Py:=lJ (L+2) Z;have hUv:val (iQ (L+2) Z)=Z:=lH (dU ajb (Nat.pow_lt_pow_right af ab));have uo:putAt (iG (List.replicate (L+2) 0)) 0 ((iG (iF Z)).take (L+2))=iG (iQ (L+2) Z):=by
  have e:iQ (L+2) Z=iF Z++List.replicate (L+2-(iF Z).length) 0:=by refine val_inj Py (kz.2 ⟨ji _,oB _⟩) (by rw[QZ,bd,cS];omega) ?_;rw[hUv,jy,vK,jm];omega
  rw[e,bR (by rw[iK];omega)];unfold putAt iG;simp
 have Br:uW V (iQ (L+2) Z) L=iQ (L+2) Z:=by have:=Zx (D:=V) Py ab (by rw[QZ,gC];have h1:=ac3 (l:=iQ (L+2) Z) (k:=L) ab;rw[hUv]at h1;have h2:WB^L*val ((iQ (L+2) Z).drop L)<WB^L*2^s:=ab;have h3:=Nat.lt_of_mul_lt_mul_left h2;unfold WB at aja;omega);rwa[QZ,gC]at this
 have ac5:qV V (iQ (L+2) Z) L L=List.replicate L 0:=by unfold qV;rw[dA];simp[iQ]
 have ahk:=xn (X:=Z%V) (s:=s) (by rw[<-kL];have:=sd (X:=Z%V) (by have:=bL Z EV;omega);omega) afo;have htu:=vY (aj6 (l:=iQ (L+2) Z) EV kV) (by rw[EW ab,QZ];unfold maxLen;omega);rw[acp,hUv]at htu;have htq:=vY (lJ L (Z/V)) (by rw[iN];unfold maxLen;omega);rw[lH hQL]at htq;have aj7:qV V (iQ (L+2) Z) L 0=iQ L (Z/V):=by unfold qV;rw[dz,hUv,gD,gn,dX]
 have aev:i64.wrap (((iG xs).length:Int)+2)=((L+2:Nat):Int):=by rw[jD ab];omega
 have hmm:i64.wrap (i64.wrap (((L+2:Nat):Int)-2)-1)=((L-1:Nat):Int):=by rw[jD (n:=((L+2:Nat):Int)-2) ab,jD ab];omega
 have tN:i64.wrap (((L-1:Nat):Int)+1)=((L:Nat):Int):=by rw[jD ab];omega
 have nn:=kC (n:=v0) aK;have yu:=kC (n:=v1) aK;generalize iQ (L+2) Z=U at *
 refine' eN func109;(try refine' wn @hc);refine' sQ<;>intro h;exfalso;rw[hr]at h;cases h;clear h;(try refine' uD);refine' sQ<;>intro h;exfalso;have hh:=aU h;omega;clear h;(repeat first|refine' wb|(refine' oX;(first|exact iV hlen|exact jR);exact kq)|refine xU [12] rfl ?_);refine ja (env':=iL [(0,av (iG xs)),(1,av (iG [b0,b1])),(10,ar s)]) (H':=⟨[],[],[]⟩) (iE.le (aA ⟨.inl (aT ar FG),trivial⟩)) aJ ?_;(repeat first|refine' wb|(refine' oX;(first|exact iV MS|exact zt (n:=L+2) rfl rfl rfl aev aev (EL rfl) (by omega)|exact iV BX|exact jI (zO (ys:=iG (iF Z)) rfl (EL rfl) (SZ rfl) (SZ rfl) rfl rfl rfl (λ_ _ _ _ _ e=>by cases e) nA (by simp[iK])) (aT (λl=>(⟨[],[],[MO.arr 0 IF l]⟩:PH)) uo));exact kq)|refine xU [16] rfl ?_);refine ja (env':=iL [(10,ar s),(11,av (iG [v0,v1])),(12,.vw 0 0 0 (L+2) (L+2)),(13,aq 2)]) (H':=⟨[],[],[AR 0 U]⟩) (iE.le an) aJ ?_;(repeat first|refine' wb|(refine' oX;exact jL;exact kq)|refine xU [17] rfl ?_);refine ja (env':=iL [(10,ar s),(11,av (iG [v0,v1])),(12,.vw 0 0 0 (L+2) (L+2)),(13,aq 2),(14,aq ((L-1:Nat):Int))]) (H':=⟨[],[],[AR 0 U]⟩) (iE.le (aC ⟨.inl (aT aq hmm),trivial⟩)) aJ ?_;(repeat first|refine' uD|(refine' oX;(first|exact zt (n:=L) rfl rfl rfl tN tN (EL rfl) (by omega)|exact jB (g:=wG v1) (z:=show(0:Int)<=i64.wrap (2-1) by decide)|exact jB (g:=wG v0) (z:=show(0:Int)<=i64.wrap (2-2) by decide));exact kq));refine jf (S:=Nat) (λk=>iL [(10,ar s),(11,av (iG [v0,v1])),(12,.vw 0 0 0 (L+2) (L+2)),(13,aq 2),(15,.vw 1 0 0 L L),(16,ar v1),(17,ar v0),(18,aq ((k:Int)-1))]) (λk=>⟨[],[],[AR 0 (uW V U k),AR 0 (qV V U L k)]⟩) (λk=>k<=L) (λk=>k) L (aZ _)
  (iE.le (aD ⟨.inl (aT ar yu),.inl (aT ar nn),.inl (aT aq (show((L-1:Nat):Int)=(L:Int)-1 by omega)),trivial⟩)) (kW.of_eq (by rw[Br,ac5];rfl)) (λk hk=>?_)
 cases k with
 |zero=>
  (repeat first|refine' wb|refine xU [50] rfl ?_);refine jP 0 rfl (jP 1 rfl (ja (env':=iL [(10,ar s),(12,av (iG (uW V U 0))),(15,av (iG (iQ L (Z/V))))]) (H':=⟨[],[],[.gone (0+1),.gone (0+1)]⟩) (iE.le ⟨.inl rfl,.inl ?_,.inl ?_,trivial⟩) aJ ?_));exact aT av (tE (by rw[iK,EW ab,QZ]));rw[<-aj7];exact aT av (tE (by rw[iK,LJ (bm _)]));(try refine' wt @htq @htu @ahk);refine' rE;all_goals rfl
 |succ j=>
  have hjx:U[j]?=some (U[j]'(by omega)):=aS ab;generalize U[j]'(by omega)=x at hjx;have rL:=Py.at hjx;obtain⟨g0,g1,g2⟩:=agw (D:=V) hjx;have hAl:=EW (D:=V) (l:=U) (k:=j+1) ab;have hR:=bL (val (U.drop (j+1))) EV;have aa6:=λa b=>aco (D:=V) (a:=a) (b:=b) EV hjx ab;have VW:=ac2 (n:=L) EV rL ab hjx;have vd:=LJ (D:=V) (l:=U) hk;have hgq:(iG (qV V U L (j+1)))[0+j]?=some (wG ((qV V U L (j+1))[j]'(by omega))):=iT (by rw[bc];exact aS _);generalize(qV V U L (j+1))[j]'(by omega)=zq at hgq;generalize hRe:val (U.drop (j+1))%V=R at *
  generalize hA:uW V U (j+1)=A at *
  generalize qV V U L (j+1)=B at *
  have Yh:=Df (D:=V) rL hR;have hR2:R/WB<WB:=(bK af).2 ab;have hR1:R%WB<WB:=bL _ af;have Nv:=cT R WB;generalize Nq:R/WB=u2 at *
  generalize CA:R%WB=u1 at *
  generalize hG:(x+WB*R)/V=G at *
  have Nx:G=(x+WB*R)/V:=hG.symm;have VU:=Win.mk' (u2:=u2) (u1:=u1) (u0:=x) (v1:=v1) (v0:=v0) (g:=G) rL hR1 ox lI Yh ab (by rw[Nv,VX];exact Nx);obtain⟨x1,x0,d0,d1,hW⟩:=VU;have amv:(iG A)[0+(j+1)]?=some (wG u1):=iT (by rw[bc];exact g1);have amw:(iG A)[0+(j+2)]?=some (wG u2):=iT (by rw[bc];exact g2);have amx:(iG A)[0+j]?=some (wG x):=iT (by rw[bc];exact g0);have sO:i64.wrap ((j:Int)+2)=((j+2:Nat):Int):=by rw[jD ab];omega
  have pS:i64.wrap (i64.wrap ((j:Int)+2)-1)=((j+1:Nat):Int):=by rw[sO,jD ab];omega
  have QJ:i64.wrap (i64.wrap ((j:Int)+2)-2)=((j:Nat):Int):=by rw[sO,jD ab];omega
  have Bo:u64.wrap (((BitVec.ofInt u64.bits (u64.wrap (u64.wrap (u2:Int)*2^min (32:Int).toNat u64.bits)) ||| BitVec.ofInt u64.bits (u64.wrap (u1:Int))).toNat:Nat):Int)=((R:Nat):Int):=by rw[kC (n:=u2) aK,kC (n:=u1) aK,Xp hR1 hR2,Nv]
  have VQ:(v1:Int)≠0:=ab
  have eq1:=MJ (a:=R) (b:=v1) ab;have eq2:= @GG R v1;(try refine' uD);refine' sQ<;>intro h
  ·clear h;refine ja (env':=iL [(10,ar s),(11,av (iG [v0,v1])),(12,.vw 0 0 0 (L+2) (L+2)),(13,aq 2),(15,.vw 1 0 0 L L),(16,ar v1),(17,ar v0),(18,aq j)]) (H':=⟨[],[],[AR 0 A,AR 0 B]⟩) (iE.le (aG ⟨.inl (aT aq (show((j+1:Nat):Int)-1=(j:Int) by omega)),trivial⟩)) aJ ?_;(repeat first|refine' wd|(apply dR rfl rfl;focus(first|exact lU rfl rfl (AG rfl) rfl rfl amw rfl|exact lU rfl rfl (AG rfl) rfl rfl amv rfl))|(refine' oX;(first|exact jV (j+2) (z:=by exact sO)|exact jV (j+1) (z:=by exact pS)|exact jG);exact kq)|refine xU [23] rfl ?_|refine' xW [10000,10001]);refine ja (env':=iL [(10,ar s),(11,av (iG [v0,v1])),(12,.vw 0 0 0 (L+2) (L+2)),(13,aq 2),(15,.vw 1 0 0 L L),(16,ar v1),(17,ar v0),(18,aq j),(19,ar R)]) (H':=⟨[],[],[AR 0 A,AR 0 B]⟩) (iE.le (aH ⟨.inl (aT ar Bo),trivial⟩)) aJ ?_;(repeat first|refine' wb|(refine' oX;(first|exact kg (xy rfl rfl rfl VQ) (aT ar eq1)|exact kg (Dt rfl rfl rfl VQ) (aT ar eq2));exact kq)|refine xU [24] rfl ?_);have hH:R<v1*HB+v0:=(by unfold HB;unfold WB at VX;omega);have aa5:2147483648<=v1:=kt;refine nK (iL [(10,ar s),(11,av (iG [v0,v1])),(12,.vw 0 0 0 (L+2) (L+2)),(13,aq 2),(15,.vw 1 0 0 L L),(16,ar v1),(17,ar v0),(18,aq j),(20,ar G)]) ⟨[],[],[AR 0 A,AR 0 B]⟩ ?_ ?_
   ·(try refine' uD);refine jf (S:=Nat×Nat) (λq=>iL [(10,ar s),(11,av (iG [v0,v1])),(12,.vw 0 0 0 (L+2) (L+2)),(13,aq 2),(15,.vw 1 0 0 L L),(16,ar v1),(17,ar v0),(18,aq j),(20,ar q.1),(21,ar q.2)]) (λ_=>⟨[],[],[AR 0 A,AR 0 B]⟩) (λq=>BD R x v1 v0 q.1 q.2∧q.2<WB) (λq=>q.1) (R/v1,R%v1) ⟨BD.start hH aa5 lI ox rL,dU (bL _ ab) lI⟩
     (iE.le an) aJ (λq hq=>?_)
    obtain⟨g,r⟩:=q;obtain⟨hI,Yq⟩:=hq;dsimp only at hI Yq;have Lq:=hI.b;have hmul:u64.wrap ((g:Int)*(v0:Int))=((g*v0:Nat):Int):=(by rw[<-dJ];refine kC ?_;have m1:g*v0<=(HB+1)*(HB-1):=dy Lq (by unfold WB at ox;unfold HB;omega);have m2:(HB+1)*(HB-1)<WB*WB:=af;omega);have abc:u64.wrap (((BitVec.ofInt u64.bits (u64.wrap ((r:Int)*2^min (32:Int).toNat u64.bits)) ||| BitVec.ofInt u64.bits (u64.wrap (x:Int))).toNat:Nat):Int)=((x+WB*r:Nat):Int):=(by rw[kC (n:=x) aK];exact Xp rL Yq);(try refine' uD);refine' sQ<;>intro h
    ·have yZ:HB<=g∨r*HB+x<g*v0:=.inl (by have:=aU h;unfold HB;omega);obtain⟨BN,uA⟩:=hI.over hH rL yZ;have e1:u64.wrap ((g:Int)-1)=((g-1:Nat):Int):=(by rw[show((g:Int)-1)=((g-1:Nat):Int) by omega];exact kC (by have:=hI.b;unfold HB at this;unfold WB;omega));have e2:u64.wrap ((r:Int)+(v1:Int))=((r+v1:Nat):Int):=(by rw[<-gV];exact kC aK);clear h;(try refine' uD);refine' sQ<;>intro h
     ·have nh:WB<=r+v1:=(by rw[e2]at h;have:=aU h;unfold WB;omega);have CN:=uA.done ab (by
       have hb:=hI.b;have m1:(g-1)*v0<=HB*(HB-1):=dy ab (by unfold WB at ox;unfold HB;omega);have m2:HB*HB<=(r+v1)*HB:=bg _ nh;have m3:HB*(HB-1)<=HB*HB:=af;omega)
      have Bp:g-1=G:=(by rw[<-CN,Nx,show R*HB+x=x+WB*R by unfold HB WB;omega,show v1*HB+v0=V by unfold HB;unfold WB at VX;omega]);clear h;(try refine' uD);exact⟨iE.le (aH ⟨.inl (aT ar (by rw[e1,Bp])),trivial⟩),aJ⟩
     have nh:r+v1<WB:=(by rw[e2]at h;have:=aX h;unfold WB;omega);clear h;(try refine' uD);exact⟨(g-1,r+v1),⟨uA,nh⟩,by dsimp only;omega,iE.le (aH ⟨.inl (aT ar e1),.inl (aT ar e2),trivial⟩),aJ⟩
    ·have pE:g<WB:=(by have:=aX h;unfold WB;omega);clear h;(repeat first|refine' uD|(refine' oX;(first|exact jG|exact jV j (z:=by exact QJ)|exact jM (q:=aI amx));exact kq));refine' sQ<;>intro h
     ·have yZ:HB<=g∨r*HB+x<g*v0:=.inr (by rw[hmul,abc]at h;have:=aU h;unfold HB;unfold WB at this;omega);obtain⟨BN,uA⟩:=hI.over hH rL yZ;have e1:u64.wrap ((g:Int)-1)=((g-1:Nat):Int):=(by rw[show((g:Int)-1)=((g-1:Nat):Int) by omega];exact kC (by have:=hI.b;unfold HB at this;unfold WB;omega));have e2:u64.wrap ((r:Int)+(v1:Int))=((r+v1:Nat):Int):=(by rw[<-gV];exact kC aK);clear h;(try refine' uD);refine' sQ<;>intro h
      ·have nh:WB<=r+v1:=(by rw[e2]at h;have:=aU h;unfold WB;omega);have CN:=uA.done ab (by
        have hb:=hI.b;have m1:(g-1)*v0<=HB*(HB-1):=dy ab (by unfold WB at ox;unfold HB;omega);have m2:HB*HB<=(r+v1)*HB:=bg _ nh;have m3:HB*(HB-1)<=HB*HB:=af;omega)
       have Bp:g-1=G:=(by rw[<-CN,Nx,show R*HB+x=x+WB*R by unfold HB WB;omega,show v1*HB+v0=V by unfold HB;unfold WB at VX;omega]);clear h;(try refine' uD);exact⟨iE.le (aH ⟨.inl (aT ar (by rw[e1,Bp])),trivial⟩),aJ⟩
      have nh:r+v1<WB:=(by rw[e2]at h;have:=aX h;unfold WB;omega);clear h;(try refine' uD);exact⟨(g-1,r+v1),⟨uA,nh⟩,by dsimp only;omega,iE.le (aH ⟨.inl (aT ar e1),.inl (aT ar e2),trivial⟩),aJ⟩
     ·have CN:=hI.done ab (by rw[hmul,abc]at h;have:=aX h;unfold HB;unfold WB at this;omega);have Bp:g=G:=(by rw[<-CN,Nx,show R*HB+x=x+WB*R by unfold HB WB;omega,show v1*HB+v0=V by unfold HB;unfold WB at VX;omega]);clear h;(try refine' uD);exact⟨iE.le (aH ⟨.inl (aT (λk:Nat=>ar k) Bp),trivial⟩),aJ⟩
   ·(try refine' uD);refine jf (S:=Nat×Nat×Nat×List Nat) (λq=>iL [(10,ar s),(11,av (iG [v0,v1])),(12,.vw 0 0 0 (L+2) (L+2)),(13,aq 2),(15,.vw 1 0 0 L L),(16,ar v1),(17,ar v0),(18,aq j),(20,ar G),(22,ar q.2.1),(23,ar q.2.2.1),(24,aq q.1)]) (λq=>⟨[],[],[AR 0 q.2.2.2,AR 0 B]⟩) (λq=>q.1<=2∧Xq A j v1 v0 G x1 x0 d0 d1 q.1 q.2.1 q.2.2.1 q.2.2.2) (λq=>2-q.1) (0,0,0,A) ⟨bm _,.inl ⟨rfl,rfl,rfl,rfl⟩⟩
     (iE.le an) aJ (λq hq=>?_)
    obtain⟨i,cc,dd,ws⟩:=q;obtain⟨hi,hI⟩:=hq;dsimp only at hi hI;(try refine' uD);refine' sQ<;>intro h
    ·have G7:i<2:=(by have:=aU h;omega);obtain⟨vi,ui,r1,r2,r3,r4,r5,r6,r7⟩:=Wc hW g0 g1 rL hR1 ox lI Yh hI G7;have hgv:(iG [v0,v1])[(i:Int).toNat]?=some (wG vi):=iT r1;have Yd:(iG ws)[0+(i+j)]?=some (wG ui):=iT (by rw[bc];exact r2);have zN:i64.wrap ((i:Int)+(j:Int))=((i+j:Nat):Int):=(by rw[jD ab];omega);have hmc:=Z7 (c:=cc) (g:=G) r3 r5;obtain⟨t1,t2⟩:=V9 (u:=ui) (p:=cc+G*vi) (d:=dd) r4 r6;clear h;(repeat first|refine' wb|(refine' oX;exact jA (q:=aI hgv);exact kq)|refine xU [33] rfl ?_);refine ja (env':=iL [(10,ar s),(11,av (iG [v0,v1])),(12,.vw 0 0 0 (L+2) (L+2)),(13,aq 2),(15,.vw 1 0 0 L L),(16,ar v1),(17,ar v0),(18,aq j),(20,ar G),(22,ar ((cc+G*vi:Nat):Int)),(23,ar dd),(24,aq i)]) (H':=⟨[],[],[AR 0 ws,AR 0 B]⟩) (iE.le (aH ⟨.inl rfl,.inl (aT ar hmc),an⟩)) aJ ?_;(repeat first|refine' uD|(refine' oX;(first|exact jV (i+j) (z:=by exact zN)|exact jM (q:=aI Yd)|exact jS (q:=aI Yd)|exact jH);exact kq));exact⟨(i+1,(cc+G*vi)/WB,(if ui<(cc+G*vi)%WB+dd then 1 else 0),ws.set (i+j) ((ui+(WB+WB)-(cc+G*vi)%WB-dd)%WB)),⟨G7,r7⟩,by dsimp only;omega,iE.le (aH ⟨.inl rfl,.inl (aT ar (sU (s:=32) af)),.inl (aT ar t2),.inl (aT aq (jD ab)),trivial⟩),
      kW.of_eq (aT (λl=>(⟨[],[],[MO.arr 0 IF l,AR 0 B]⟩:PH)) (show(iG ws).set (0+(i+j)) (GV.int .u32 (u32.wrap (u64.wrap (u64.wrap (u64.wrap (ui:Int)-u64.wrap (u32.wrap ((cc+G*vi:Nat):Int)))-(dd:Int)))))=iG (ws.set (i+j) ((ui+(WB+WB)-(cc+G*vi)%WB-dd)%WB))from by rw[bc,t1];exact jo))⟩
    ·have G7:i=2:=(by have:=aX h;omega);subst G7;clear h;rcases hI with⟨e,_⟩|⟨e,_⟩|⟨_,rfl,rfl,rfl⟩
     cases e;cases e;have Yd:(iG ((A.set j x0).set (j+1) x1))[0+(j+2)]?=some (wG u2):=iT (by rw[bc,bP ab,bP ab];exact g2);have hzero:u64.wrap (u64.wrap (u64.wrap (u2:Int)-(((G*v0/WB+G*v1)/WB:Nat):Int))-(dd:Int))=0:=by
      have h2:=hW.h2;generalize(G*v0/WB+G*v1)/WB=w at *
      rw[kC (n:=u2) aK,show(u2:Int)-(w:Int)=((u2-w:Nat):Int) by omega,kC (n:=u2-w) aK,show((u2-w:Nat):Int)-(dd:Int)=((0:Nat):Int) by omega];rfl
     have afk:x0<WB:=(by rw[hW.sJ];exact bL _ af);have lG:=aa6 x0 x1 afk (by rw[hW.hv,Nv,VX]);(repeat first|refine' wb|(refine' oX;(first|exact jV (j+2) (z:=by exact sO)|exact jM (q:=aI Yd));exact kq)|refine xU [38] rfl ?_);refine ja (env':=iL [(10,ar s),(11,av (iG [v0,v1])),(12,.vw 0 0 0 (L+2) (L+2)),(13,aq 2),(15,.vw 1 0 0 L L),(16,ar v1),(17,ar v0),(18,aq j),(20,ar G),(26,ar 0)]) (H':=⟨[],[],[AR 0 ((A.set j x0).set (j+1) x1),AR 0 B]⟩) (iE.le (aH ⟨.inl rfl,.inl (aT ar hzero),trivial⟩)) aJ ?_;(repeat first|refine' wb|(refine' oX;(first|exact jV (j+2) (z:=by exact sO)|exact jS (q:=aI Yd));exact kq)|refine xU [39] rfl ?_);refine ja (env':=iL [(10,ar s),(11,av (iG [v0,v1])),(12,.vw 0 0 0 (L+2) (L+2)),(13,aq 2),(15,.vw 1 0 0 L L),(16,ar v1),(17,ar v0),(18,aq j),(20,ar G),(26,ar 0)]) (H':=⟨[],[],[AR 0 (uW V U j),AR 0 B]⟩) (iE.le an)
      (kW.of_eq (aT (λl=>(⟨[],[],[MO.arr 0 IF l,AR 0 B]⟩:PH)) (show(iG ((A.set j x0).set (j+1) x1)).set (0+(j+2)) (GV.int .u32 (u32.wrap 0))=iG (uW V U j)from by rw[bc,<-lG];exact jo (w:=0)))) ?_
     (repeat first|refine' uD|(refine' oX;(first|exact jH|exact jV j|exact jS (q:=aI hgq));exact kq));exact⟨j,by omega,by omega,iE.le (aG ⟨.inl (aT aq (jD ab)),trivial⟩),
      kW.of_eq (aT (λl=>(⟨[],[],[AR 0 (uW V U j),MO.arr 0 IF l]⟩:PH)) (show(iG B).set (0+j) (GV.int .u32 (u32.wrap (G:Int)))=iG (qV V U L j)from by rw[bc,mr,bn Yh,<-VW];exact jo))⟩
  exfalso;have:=aX h;omega
def Bs(h0:Y≠0)(hY:Y<WB*WB∨X<Y)(hm:(iF X).length<=10000)(xJ:(iF Y).length<=10000):ak 109 [av (iG (iF X)),av (iG (iF Y))] (.tuple [av (iG (iF (X/Y))),av (iG (iF (X%Y)))]):=by by_cases h:X<Y;exact Z6 h ab ab;have hY:Y<WB*WB:=hY.resolve_right h;by_cases hX:X<WB*WB;exact V8 h0 ab hX;by_cases h1:Y<WB;exact div_one h0 h1 ab ab;exact ac4 ab hY ab hm
def Ux{B:Nat}(h:(iG (iF B)).length<=2):B<WB*WB:=by
 rw[kL]at h;have h1:=lP (ji B);rw[jm]at h1;have h2:WB^(iF B).length<=WB^2:=cf af h;have:WB^2=WB*WB:=by rw[cW,dT]
 omega
def PI(x y:Nat):Nat.gcd y (x%y)=Nat.gcd x y:=by rw[Nat.gcd_comm y (x%y),<-Nat.gcd_rec,Nat.gcd_comm]
def Wd(Pg:X≠0)(hX:X<WB*WB∨Y<WB*WB)(hmX:(iF X).length<=10000)(hY0:Y≠0)(hm:(iF Y).length<=10000):ak 108 [av (iG (iF X)),av (iG (iF Y))] (av (iG (iF (Nat.gcd X Y)))):=by
 refine' eN func108;(try refine' uD);refine jf (S:=Nat×Nat) (λs=>iL [(0,av (iG (iF s.1))),(1,av (iG (iF s.2)))]) (λ_=>⟨[],[],[]⟩) (λs=>Nat.gcd s.1 s.2=Nat.gcd X Y∧s.1≠0∧s.2≠0∧(s.1<WB*WB∨s.2<WB*WB)∧(iF s.1).length<=10000∧(iF s.2).length<=10000) (λs=>s.2) (X,Y) ⟨rfl,Pg,hY0,hX,hmX,hm⟩
  (iE.le ⟨.inl rfl,.inl rfl,trivial⟩) aJ (λs hs=>?_)
 obtain⟨A,B⟩:=s;obtain⟨i1,i2,i3,i4,i5,i6⟩:=hs;dsimp only at i1 i2 i3 i4 i5 i6;(try refine' uD);refine' sQ<;>intro h;all_goals dsimp only at h
 ·have hB:WB*WB<=B:=by
   refine cj λhc=>?_;have:=sd (X:=B) ab;have:=aU h;omega
  have hA:A<WB*WB:=by rcases i4 with h|h<;>omega
  have hd:=Bs (X:=A) (Y:=B) i3 (.inr ab) i5 i6;rw[bn (show A<B by omega)]at hd;clear h;(try refine' wn @hd);exact⟨(B,A),⟨by rw[<-i1];exact Nat.gcd_comm _ _,i3,i2,.inr hA,i6,i5⟩,by dsimp only;omega,iE.le ⟨.inl rfl,.inl rfl,trivial⟩,aJ⟩
 ·have hB:B<WB*WB:=Ux (by have:=aX h;omega);clear h;have hp:=jl i3;(try refine' uD);refine' sQ<;>intro h;exfalso;have hh:=bQ.1 h;dsimp only at hh;omega;clear h;(repeat first|refine' wb|refine xU [6] rfl ?_);refine AA (S:=Nat×Nat) (λs=>iL [(0,av (iG (iF s.1))),(1,av (iG (iF s.2)))]) (λ_=>⟨[],[],[]⟩) (λs=>Nat.gcd s.1 s.2=Nat.gcd X Y∧s.1<WB*WB∧s.2<WB*WB) ?_ ?_;(try refine' uD);refine' sQ<;>intro h;have hd:=Bs (X:=A) (Y:=B) i3 (.inl hB) i5 i6;clear h;(try refine' wn @hd);exact⟨(B,A%B),⟨by rw[<-i1];exact PI _ _,hB,dU (bL _ ab) hB⟩,iE.le ⟨.inl rfl,.inl rfl,trivial⟩,aJ⟩;have hA:A<WB*WB:=Ux (by have:=aX h;dsimp only at this;omega);clear h;(try refine' uD);exact⟨(A,B),⟨i1,hA,hB⟩,iE.le ⟨.inl rfl,.inl rfl,trivial⟩,aJ⟩
  ·rintro⟨a,b⟩ ⟨j1,j2,j3⟩;dsimp only at j1 j2 j3;have p1:=Dl j2;have p2:=Dl j3;(try refine' wo @p1 @p2);refine jf (S:=Nat×Nat) (λs=>iL [(9,ar s.1),(10,ar s.2)]) (λ_=>⟨[],[],[]⟩) (λs=>Nat.gcd s.1 s.2=Nat.gcd X Y∧s.1<WB*WB∧s.2<WB*WB) (λs=>s.2) (a,b) ⟨j1,j2,j3⟩
    (iE.le ⟨.inl rfl,.inl rfl,trivial⟩) aJ (λs hs=>?_)
   obtain⟨x,y⟩:=s;obtain⟨k1,k2,k3⟩:=hs;dsimp only at k1 k2 k3;(try refine' uD);refine' sQ<;>intro h;have hy:0<y:=(by have:=aU h;omega);have hz:(y:Int)≠0:=ab;clear h;(repeat first|refine' uD|(refine' oX;exact kg (Dt rfl rfl rfl hz) (aT ar (@GG x y));exact kq));exact⟨(y,x%y),⟨by rw[<-k1];exact PI _ _,k3,dU (bL _ hy) k3⟩,bL _ hy,iE.le ⟨.inl rfl,.inl rfl,trivial⟩,aJ⟩;have hy:y=0:=(by have:=aX h;omega);subst hy;rw[Nat.gcd_zero_right]at k1;subst k1;have hw:=xq k2;clear h;(try refine' wn @hw);refine' rT;rfl
end Go.Pure.V