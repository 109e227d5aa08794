/- Steps to pointsMake_card. -/
import Derived.Test.YtckjndkmmfmjjaaGreatDoorOwnF
import Derived.Shelf.Bits.Mul64
import Derived.Shelf.Spec.BitsCarry
import Derived.Shelf.Small.Bits
set_option linter.all false
open Go.IntKind (i64 u64)
open Go.Proofs.Tryz
set_option maxRecDepth 100000
set_option maxHeartbeats 32000000
namespace Go.Proofs.YtckjndkmmfmjjaaGreatDoor
open Go Go.Pure Go.Shelf
def Sq:Go.Shelf.Ren:=⟨fun|212=>200|263=>226|264=>227|n=>n,fun|46=>92|51=>137|146=>197|53=>139|148=>199|n=>n,fun|n=>n⟩
def agO:Go.Proofs.Lays.n212 Tryz.prog Sq:={
 mixed:=aj
 f212:=func200.trans (aT some aj)
 f263:=func226.trans (aT some aj)
 f264:=func227.trans (aT some aj)
 t46:=underlying92
 a46:=Tryz.isAgg92
 z46:=Tryz.sizeOf92
 v46:=Tryz.zeroValue92
 t51:=underlying137
 a51:=Tryz.isAgg137
 z51:=Tryz.sizeOf137
 v51:=Tryz.zeroValue137
 t53:=underlying139
 a53:=Tryz.isAgg139
 z53:=Tryz.sizeOf139
 v53:=Tryz.zeroValue139
 t146:=underlying197
 a146:=Tryz.isAgg197
 z146:=Tryz.sizeOf197
 v146:=Tryz.zeroValue197
 t148:=underlying199
 a148:=Tryz.isAgg199
 z148:=Tryz.sizeOf199
 v148:=Tryz.zeroValue199}
def VJ:Go.Shelf.Ren:=⟨fun|130=>249|125=>64|128=>103|129=>104|n=>n,fun|46=>92|3=>3|51=>137|53=>139|4=>4|5=>5|9=>9|n=>n,fun|n=>n⟩
def ajS:Go.Proofs.Lays.n130 Tryz.prog VJ:={
 mixed:=aj
 f125:=func64.trans (aT some aj)
 f128:=func103.trans (aT some aj)
 f129:=func104.trans (aT some aj)
 f130:=func249.trans (aT some aj)
 t3:=underlying3
 a3:=Tryz.isAgg3
 z3:=Tryz.sizeOf3
 v3:=Tryz.zeroValue3
 t4:=underlying4
 a4:=Tryz.isAgg4
 z4:=Tryz.sizeOf4
 v4:=Tryz.zeroValue4
 t5:=underlying5
 a5:=Tryz.isAgg5
 z5:=Tryz.sizeOf5
 v5:=Tryz.zeroValue5
 t9:=underlying9
 a9:=Tryz.isAgg9
 z9:=Tryz.sizeOf9
 v9:=Tryz.zeroValue9
 t46:=underlying92
 a46:=Tryz.isAgg92
 z46:=Tryz.sizeOf92
 v46:=Tryz.zeroValue92
 t51:=underlying137
 a51:=Tryz.isAgg137
 z51:=Tryz.sizeOf137
 v51:=Tryz.zeroValue137
 t53:=underlying139
 a53:=Tryz.isAgg139
 z53:=Tryz.sizeOf139
 v53:=Tryz.zeroValue139}
def Sr:Go.Shelf.Ren:=⟨fun|25=>176|n=>n,fun|22=>139|n=>n,fun|n=>n⟩
def agP:Go.Proofs.Lays7.n25 Tryz.prog Sr:={
 mixed:=aj
 f25:=func176.trans (aT some aj)
 t22:=underlying139
 a22:=Tryz.isAgg139
 z22:=Tryz.sizeOf139
 v22:=Tryz.zeroValue139
 i22:=by kernel_rfl}
def Ss:Go.Shelf.Ren:=⟨fun|26=>178|n=>n,fun|22=>139|n=>n,fun|n=>n⟩
def agQ:Go.Proofs.Lays7.n26 Tryz.prog Ss:={
 mixed:=aj
 f26:=func178.trans (aT some aj)
 t22:=underlying139
 a22:=Tryz.isAgg139
 z22:=Tryz.sizeOf139
 v22:=Tryz.zeroValue139
 i22:=by kernel_rfl}
end Go.Proofs.YtckjndkmmfmjjaaGreatDoor
namespace Go.Proofs.YtckjndkmmfmjjaaGreatDoor
open Go Go.Pure Go.Shelf
attribute [local irreducible] PW jQ ju PO PC lS
variable{P:Program}{f:FuncId}{k1 k2:IntKind}{u:Value}{v:PV}
def agR{x y:Int}(h:∀w:World,Calls P f #[.int k1 x,.int k2 y] w λe w'=>e=.returned u∧w'=w)(hv:∀c:Ctx,RV c v u):
  PC P f [.g (.int k1 x),.g (.int k2 y)] ⟨[],[],[]⟩ v ⟨[],[],[]⟩:=by
 unfold PC;intro c vs hr ha;obtain⟨hl,GW⟩:=ha;obtain⟨a,b,rfl⟩:∃a b,vs= #[a,b]:=by
  obtain⟨l⟩:=vs;match l,hl with
  |[a,b],_=>exact⟨a,b,rfl⟩
 have h0:=k6 (GW 0 _ a rfl rfl);have h1:=k6 (GW 1 _ b rfl rfl);subst h0;subst h1;refine(h c.w).mono ?_;rintro e w' ⟨rfl,rfl⟩;exact⟨u,c,rfl,rfl,hr,kI.refl c,hv c⟩
def Yj{x:Int}(h:∀w:World,Calls P f #[.int k1 x] w λe w'=>e=.returned u∧w'=w)(hv:∀c:Ctx,RV c v u):
  PC P f [.g (.int k1 x)] ⟨[],[],[]⟩ v ⟨[],[],[]⟩:=by
 unfold PC;intro c vs hr ha;obtain⟨hl,GW⟩:=ha;obtain⟨a,rfl⟩:∃a,vs= #[a]:=by
  obtain⟨l⟩:=vs;match l,hl with
  |[a],_=>exact⟨a,rfl⟩
 have h0:=k6 (GW 0 _ a rfl rfl);subst h0;refine(h c.w).mono ?_;rintro e w' ⟨rfl,rfl⟩;exact⟨u,c,rfl,rfl,hr,kI.refl c,hv c⟩
def MF(c:Ctx)(x y:Nat):RV c (.tuple [.g (wG x),.g (wG y)]) (.tuple #[.int .u64 (x:Int),.int .u64 (y:Int)]):=by
 refine .tuple _ _ rfl λi p v hp hv=>?_;match i with
 |0=>cases hp;cases hv;exact .g _ _ (.int _ _)|1=>cases hp;cases hv;exact .g _ _ (.int _ _)|n+2=>simp at hp
variable{y:Nat}
def Gz{x:Nat}(hx:x<WB)(hy:y<WB):ak 200 [.g (wG x),.g (wG y)] (.tuple [.g (wG (x*y/WB)),.g (wG (x*y%WB))]):=
 agR (λw=>Any.bits_Mul agO x y hx hy w) (λc=>MF c _ _)
variable{c:Nat}
def VK{x:Nat}(hc:c<=1)(w:World):(callFunc 176 (Nl [(.u64,x),(.u64,y),(.u64,c)])).run Tryz.prog w=.ok (.value (.tuple #[.int .u64 (((x+y+c)%WB:Nat):Int),.int .u64 (((x+y+c)/WB:Nat):Int)])) w:=
 Any7.bits_Add64 agP x y c hc w
def VL{x:Nat}(hc:c<=1)(w:World):(callFunc 178 (Nl [(.u64,x),(.u64,y),(.u64,c)])).run Tryz.prog w=.ok (.value (.tuple #[.int .u64 (((x+WB-y-c)%WB:Nat):Int),.int .u64 ((if x<y+c then 1 else 0:Nat):Int)])) w:=
 Any7.bits_Sub64 agQ x y c hc w
def ajT{x:Nat}(hx:x<WB):ak 249 [.g (wG x)] (aq (64-(Lib.bitLen x:Int))):=
 Yj (λw=>by have lY:x<18446744073709551616:=hx;have h:=Any.bits_LeadingZeros ajS (x:Int) w ab ab;rw[da]at h;exact h) (λc=>.g _ _ (.int _ _))
end Go.Proofs.YtckjndkmmfmjjaaGreatDoor
namespace Go.Proofs.YtckjndkmmfmjjaaGreatDoor
open Go Go.Pure
attribute [local irreducible] PW jQ ju PO PC lS
variable{n:Nat}{z:Int}
def jz(hz:z=n)(h:n<WB):u64.wrap z=n:=by have h':n<18446744073709551616:=h;subst hz;rw[IntKind.wrap_u64];omega
def MG(hz:z=n)(h:n<WB):GV.int .u64 (u64.wrap z)=wG n:=by have h':n<18446744073709551616:=h;subst hz;unfold wG;rw[IntKind.wrap_u64];congr 1;omega
variable{y c:Nat}
def sT{x:Nat}(hc:c<=1):ak 163 [.g (wG x),.g (wG y),.g (wG c)] (.tuple [.g (wG ((x+y+c)%WB)),.g (wG ((x+y+c)/WB))]):=by refine' eN func163;(repeat first|refine' uN|refine oQ (FI rfl rfl rfl (λw=>VK hc w) (λc=>MF c _ _)) ?_);exact Bx (vC vT (vC vT vN)) rfl rfl rfl
def GA{x:Nat}(hc:c<=1):ak 166 [.g (wG x),.g (wG y),.g (wG c)] (.tuple [.g (wG ((x+WB-y-c)%WB)),.g (wG (if x<y+c then 1 else 0))]):=by refine' eN func166;(repeat first|refine' uN|refine oQ (FI rfl rfl rfl (λw=>VL hc w) (λc=>MF c _ _)) ?_);exact Bx (vC vT (vC vT vN)) rfl rfl rfl
def www{x:Nat}(hx:x<WB)(hy:y<WB)(hc:c<WB):(x*y%WB+c+0)%WB=(x*y+c)%WB∧x*y/WB+(x*y%WB+c+0)/WB=(x*y+c)/WB∧(x*y+c)/WB<WB:=by
 refine⟨by rw[b9,Nat.mod_add_mod],?_,EH hx hy hc⟩;have h1:=cT (x*y) WB;have h2:(x*y+c)/WB=(x*y%WB+c+WB*(x*y/WB))/WB:=by congr 1;omega
 rw[h2,cL _ _ af,b9,eK]
def Lk{x:Nat}(hx:x<WB)(hy:y<WB)(hc:c<WB):ak 202 [.g (wG x),.g (wG y),.g (wG c)] (.tuple [.g (wG ((x*y+c)/WB)),.g (wG ((x*y+c)%WB))]):=by have h1:=Gz hx hy;have h2:=sT (x:=x*y%WB) (y:=c) (c:=0) ab;obtain⟨e1,e2,e3⟩:=www hx hy hc;generalize(x*y+c)%WB=lo at e1⊢;generalize(x*y+c)/WB=hi at e2 e3⊢;generalize x*y/WB=h at h1 e2;generalize x*y%WB=l at h1 h2 e1 e2;generalize(l+c+0)%WB=l2 at h2 e1;generalize(l+c+0)/WB=c2 at h2 e2;subst e1;refine' eN func202;(try refine' wl @h1 @h2);exact Bx (vC vT (vC vT vN)) rfl (MG ab e3) rfl
def Ll{x:Nat}(hx:x<WB)(hb:Lib.bitLen x<=64):ak 221 [.g (wG x)] (.g (wG (64-Lib.bitLen x))):=by have h1:=ajT hx;refine' eN func221;(try refine' wk @h1);refine' rT;refine jz (n:=64-Lib.bitLen x) ?_ (bO (Nat.sub_le _ _) af);omega
abbrev WT:Nat:=160
abbrev AR(g:Nat)(ws:List Nat):MO:=.arr g WT (iG ws)
variable{ws:List Nat}{i w:Nat}
def jo:(iG ws).set i (wG w)=iG (ws.set i w):=by unfold iG;rw[iC]
variable{us:List Nat}{off:Nat}
def kx(hl:us.length=n)(h:off+n<ws.length):(iH ws off us).set (off+n) w=iH ws off (us++[w]):=by
 subst hl;have hlen:(iH ws off us).length=ws.length:=iX ab;apply eE;intro k;rw[List.getElem?_set];unfold iH;have e1:(ws.take off).length=off:=by simp;omega
 by_cases hk:off+us.length=k;subst hk;rw[aW rfl,aW (by have:=hlen;unfold iH at this;rw[this];exact h)];rw[bV,a7 ab,e1,a8 aa,a7 ab];simp
 ·rw[aV hk];have e2:(ws.take off++us).length=off+us.length:=by rw[bd,e1]
  have e3:ws.take off++(us++[w])++ws.drop (off+(us++[w]).length)=(ws.take off++us)++([w]++ws.drop (off+(us++[w]).length)):=aa
  rw[e3];by_cases h1:k<off+us.length;rw[a8 ab,a8 (l₁:=ws.take off++us) ab];rw[a7 ab,a7 (l₁:=ws.take off++us) ab,e2,a7 ad,bD,bD];congr 1;simp;omega
def oh(ws:List Nat)(off:Nat):iH ws off []=ws:=by simp[iH]
variable{k:Nat}
def oi(h:off+us.length<=k):(iH ws off us)[k]?=ws[k]? :=by unfold iH;by_cases hk:k<ws.length;rw[a7 ad,bD];congr 1;simp;omega;rw[dp ad,dp ab]
def rV:∀{l:List Nat} {y c i x:Nat},l[i]?=some x->iO (l.take (i+1)) y c=iO (l.take i) y c++[(x*y+iW (l.take i) y c)%WB]∧iW (l.take (i+1)) y c=(x*y+iW (l.take i) y c)/WB
 |[],_,_,_,_,h=>by simp at h|z::r,y,c,0,x,h=>by simp at h;subst h;simp[iO,iW]|z::r,y,c,i+1,x,h=>by have:=rV (l:=r) (y:=y) (c:=(z*y+c)/WB) (i:=i) (x:=x) (by simpa using h);simp only[eH,iO,iW,dQ];exact⟨by rw[this.1],this.2⟩
def rW:∀{z l:List Nat} {m c i x y:Nat},z[i]?=some x->l[i]?=some y->jb (z.take (i+1)) (l.take (i+1)) m c=jb (z.take i) (l.take i) m c++[(y*m+x+jk (z.take i) (l.take i) m c)%WB]∧jk (z.take (i+1)) (l.take (i+1)) m c=(y*m+x+jk (z.take i) (l.take i) m c)/WB
 |[],_,_,_,_,_,_,h,_=>by simp at h|_::_,[],_,_,_,_,_,_,h=>by simp at h|z::zs,q::l,m,c,0,x,y,h,h'=>by simp at h h';subst h;subst h';simp[jb,jk]|z::zs,q::l,m,c,i+1,x,y,h,h'=>by have:=rW (z:=zs) (l:=l) (m:=m) (c:=(q*m+z+c)/WB) (i:=i) (x:=x) (y:=y) (by simpa using h) (by simpa using h');simp only[eH,jb,jk,dQ];exact⟨by rw[this.1],this.2⟩
variable{o cap r:Nat}{xs:List Nat}
def St{g:Nat}(hx:okW xs)(hn:xs.length=n)(hm:n<=maxLen)(hy:y<WB)(hr:r<WB)(mK:o+n<=ws.length):
  al 131 [.vw 0 g o n cap,av (iG xs),.g (wG y),.g (wG r)] ⟨[],[],[AR g ws]⟩ (.g (wG (iW xs y r))) ⟨[],[],[AR g (iH ws o (iO xs y r))]⟩:=by
 have pE:((iG xs).length:Int)=n:=by rw[iK,hn]
 refine' eN func131;(repeat first|refine' uN|refine oQ jL ?_);refine' sQ<;>intro h;exfalso;revert h;simp[iK,hn];clear h;(repeat first|refine' uN|refine oQ jL ?_);refine jf (S:=Nat) (λi=>iL [(0,.vw 0 g o n cap),(1,av (iG xs)),(2,.g (wG y)),(8,.g (wG (iW (xs.take i) y r))),(18,aq n),(19,aq i)]) (λi=>⟨[],[],[AR g (iH ws o (iO (xs.take i) y r))]⟩) (λi=>i<=n) (λi=>n-i) 0 (bm _)
  (iE.le an) (kW.of_eq (by rw[e8,iO,oh])) (λi hi=>?_)
 (try refine' uN);refine' sQ<;>intro h
 ·have iI:i<n:=by have:=aU h;omega
  have nk:xs[i]?=some (xs[i]'(by omega)):=aS ab;generalize xs[i]'(by omega)=x at nk;have hg:(iG xs)[(i:Int).toNat]?=some (wG x):=iT nk;have hw:=Lk (hx.at nk) hy (yG (hx.take i) hy hr);obtain⟨s1,s2⟩:=rV (y:=y) (c:=r) nk;have NA:(iO (xs.take i) y r).length=i:=by rw[jh,bW];omega
  have hz:(iG (iH ws o (iO (xs.take i) y r)))[o+i]?=some (wG (ws[o+i]'(by omega))):=iT (by rw[oi ab];exact aS ab);generalize ws[o+i]'(by omega)=z at hz;clear h;(repeat first|refine' uN|refine oQ (iV hw) ?_|refine oQ (jA (q:=aI hg)) ?_|refine oQ (jV i (l:=iI)) ?_|refine oQ (jS (q:=aI hz)) ?_);exact⟨i+1,iI,by omega,iE.le (aB ⟨.inl (by rw[s2];rfl),.inl rfl,.inl (aT aq (jD (by unfold maxLen at hm;omega))),trivial⟩),
   kW.of_eq (by rw[s1,<-kx NA ab];exact aT (λl=>(⟨[],[],[MO.arr g WT l]⟩:PH)) jo)⟩
 ·have lk:i=n:=by have:=aX h;omega
  subst lk;rw[bR (fJ hn)];(try refine' uN);refine' rB;all_goals rfl
variable{g1 o1 c1:Nat}{ws1:List Nat}
def tQ{g:Nat}(hv:(ws1.drop o1).take n=xs)(hx:okW xs)(hn:xs.length=n)(hm:n<=maxLen)(hy:y<WB)(hr:r<WB)(mK:o+n<=ws.length):
  al 131 [.vw 0 g o n cap,.vw 1 g1 o1 n c1,.g (wG y),.g (wG r)] ⟨[],[],[AR g ws,AR g1 ws1]⟩ (.g (wG (iW xs y r))) ⟨[],[],[AR g (iH ws o (iO xs y r)),AR g1 ws1]⟩:=by
 refine' eN func131;(repeat first|refine' uN|refine oQ jL ?_);refine' sQ<;>intro h;exfalso;revert h;simp;clear h;(repeat first|refine' uN|refine oQ jL ?_);refine jf (S:=Nat) (λi=>iL [(0,.vw 0 g o n cap),(1,.vw 1 g1 o1 n c1),(2,.g (wG y)),(8,.g (wG (iW (xs.take i) y r))),(18,aq n),(19,aq i)]) (λi=>⟨[],[],[AR g (iH ws o (iO (xs.take i) y r)),AR g1 ws1]⟩) (λi=>i<=n) (λi=>n-i) 0 (bm _)
  (iE.le an) (kW.of_eq (by rw[e8,iO,oh])) (λi hi=>?_)
 (try refine' uN);refine' sQ<;>intro h
 ·have iI:i<n:=by have:=aU h;omega
  have nk:xs[i]?=some (xs[i]'(by omega)):=aS ab;generalize xs[i]'(by omega)=x at nk;have hg:(iG ws1)[o1+i]?=some (wG x):=iT (by rw[<-hv,bq,aW iI,bD]at nk;exact nk);have hw:=Lk (hx.at nk) hy (yG (hx.take i) hy hr);obtain⟨s1,s2⟩:=rV (y:=y) (c:=r) nk;have NA:(iO (xs.take i) y r).length=i:=by rw[jh,bW];omega
  have hz:(iG (iH ws o (iO (xs.take i) y r)))[o+i]?=some (wG (ws[o+i]'(by omega))):=iT (by rw[oi ab];exact aS ab);generalize ws[o+i]'(by omega)=z at hz;clear h;(repeat first|refine' uN|refine oQ (iV hw) ?_|refine oQ (jM (q:=aI hg)) ?_|refine oQ (jV i (l:=iI)) ?_|refine oQ (jS (q:=aI hz)) ?_);exact⟨i+1,iI,by omega,iE.le (aB ⟨.inl (by rw[s2];rfl),.inl rfl,.inl (aT aq (jD (by unfold maxLen at hm;omega))),trivial⟩),
   kW.of_eq (by rw[s1,<-kx NA ab];exact aT (λl=>(⟨[],[],[MO.arr g WT l,AR g1 ws1]⟩:PH)) jo)⟩
 ·have lk:i=n:=by have:=aX h;omega
  subst lk;rw[bR (fJ hn)];(try refine' uN);refine' rB;all_goals rfl
def aiz{x:Nat}:(x%WB+c+0)%WB=(x+c)%WB∧x/WB+(x%WB+c+0)/WB=(x+c)/WB:=by
 refine⟨by rw[b9,Nat.mod_add_mod],?_⟩;have h1:=cT x WB;have h2:(x+c)/WB=(x%WB+c+WB*(x/WB))/WB:=by congr 1;omega
 rw[h2,cL _ _ af,b9,eK]
variable{cap' a:Nat}{ys:List Nat}
def Su{g:Nat}{m:Nat}(hw:okW ws)(hv:(ws.drop o).take n=xs)(hy:okW ys)(hn:ys.length=n)(hm:n<=maxLen)(Pq:m<WB)(ha:a<WB)(mK:o+n<=ws.length):
  al 132 [.vw 0 g o n cap,.vw 0 g o n cap',av (iG ys),.g (wG m),.g (wG a)] ⟨[],[],[AR g ws]⟩ (.g (wG (jk xs ys m a))) ⟨[],[],[AR g (iH ws o (jb xs ys m a))]⟩:=by
 have Na:xs.length=n:=by rw[<-hv];simp;omega
 have EY:okW xs:=by rw[<-hv];exact(hw.drop o).take n
 refine' eN func132;(repeat' first|refine' wb|(refine' oX;exact jL;exact kq)|refine xU [3] rfl ?_|refine' sN<;>intro h|fail);all_goals(try(exfalso;revert h;simp[iK,hn];done))
 all_goals(try(exfalso;rename_i h1 h2;revert h1 h2;simp[iK,hn];done))
 all_goals try clear h
 (repeat first|refine' uD|(refine' oX;exact jL;exact kq));refine jf (S:=Nat) (λi=>iL [(0,.vw 0 g o n cap),(1,.vw 0 g o n cap'),(2,av (iG ys)),(3,.g (wG m)),(10,.g (wG (jk (xs.take i) (ys.take i) m a))),(31,aq n),(32,aq i)]) (λi=>⟨[],[],[AR g (iH ws o (jb (xs.take i) (ys.take i) m a))]⟩) (λi=>i<=n) (λi=>n-i) 0 (bm _)
  (iE.le an) (kW.of_eq (by simp only[e8,jb,oh])) (λi hi=>?_)
 (try refine' uD);refine' sQ<;>intro h
 ·have iI:i<n:=by have:=aU h;omega
  have nk:xs[i]?=some (xs[i]'(by omega)):=aS ab;generalize xs[i]'(by omega)=x at nk;have pF:ys[i]?=some (ys[i]'(by omega)):=aS ab;generalize ys[i]'(by omega)=y at pF;have hg:(iG ys)[(i:Int).toNat]?=some (wG y):=iT pF;have hC:=nL (EY.take i) (hy.take i) Pq ha;have NA:(jb (xs.take i) (ys.take i) m a).length=i:=by rw[kM (by rw[bW,bW];omega),bW];omega
  have hz:(iG (iH ws o (jb (xs.take i) (ys.take i) m a)))[o+i]?=some (wG x):=iT (by rw[oi ab];rw[<-hv,bq,aW iI,bD]at nk;exact nk);have h1:=Lk (hy.at pF) Pq (EY.at nk);have h2:=sT (x:=(y*m+x)%WB) (y:=jk (xs.take i) (ys.take i) m a) (c:=0) ab;obtain⟨s1,s2⟩:=rW (m:=m) (c:=a) nk pF;have oY:=nL (EY.take (i+1)) (hy.take (i+1)) Pq ha;rw[s2]at oY;obtain⟨e1,e2⟩:=aiz (x:=y*m+x) (c:=jk (xs.take i) (ys.take i) m a);clear h;(repeat first|refine' wc|(apply dR rfl rfl;focus(first|exact lU rfl rfl (AG rfl) rfl rfl hz rfl))|(refine' oX;(first|exact iV h1|exact iV h2|exact jA (q:=aI hg)|exact jV i (l:=iI)|exact jS (q:=aI hz));exact kq)|refine' xW [10000]);exact⟨i+1,iI,by omega,iE.le (aC ⟨.inl (aT PV.g (MG (by rw[s2,<-e2];omega) (by rw[s2];exact oY))),.inl rfl,.inl (aT aq (jD (by unfold maxLen at hm;omega))),trivial⟩),
   kW.of_eq (by rw[s1,<-e1,<-kx NA ab];exact aT (λl=>(⟨[],[],[MO.arr g WT l]⟩:PH)) jo)⟩
 ·have lk:i=n:=by have:=aX h;omega
  subst lk;rw[bR (fJ hn),bR (fJ Na)];(try refine' uD);refine' rB;all_goals rfl
def Qg{g:Nat}{m:Nat}(lI:(ws1.drop o1).take n=ys)(hw:okW ws)(hv:(ws.drop o).take n=xs)(hy:okW ys)(hn:ys.length=n)(hm:n<=maxLen)(Pq:m<WB)(ha:a<WB)(mK:o+n<=ws.length):
  al 132 [.vw 0 g o n cap,.vw 0 g o n cap',.vw 1 g1 o1 n c1,.g (wG m),.g (wG a)] ⟨[],[],[AR g ws,AR g1 ws1]⟩ (.g (wG (jk xs ys m a))) ⟨[],[],[AR g (iH ws o (jb xs ys m a)),AR g1 ws1]⟩:=by
 have Na:xs.length=n:=by rw[<-hv];simp;omega
 have EY:okW xs:=by rw[<-hv];exact(hw.drop o).take n
 refine' eN func132;(repeat' first|refine' wb|(refine' oX;exact jL;exact kq)|refine xU [3] rfl ?_|refine' sN<;>intro h|fail);all_goals(try(exfalso;revert h;simp;done))
 all_goals(try(exfalso;rename_i h1 h2;revert h1 h2;simp;done))
 all_goals try clear h
 (repeat first|refine' uD|(refine' oX;exact jL;exact kq));refine jf (S:=Nat) (λi=>iL [(0,.vw 0 g o n cap),(1,.vw 0 g o n cap'),(2,.vw 1 g1 o1 n c1),(3,.g (wG m)),(10,.g (wG (jk (xs.take i) (ys.take i) m a))),(31,aq n),(32,aq i)]) (λi=>⟨[],[],[AR g (iH ws o (jb (xs.take i) (ys.take i) m a)),AR g1 ws1]⟩) (λi=>i<=n) (λi=>n-i) 0 (bm _)
  (iE.le an) (kW.of_eq (by simp only[e8,jb,oh])) (λi hi=>?_)
 (try refine' uD);refine' sQ<;>intro h
 ·have iI:i<n:=by have:=aU h;omega
  have nk:xs[i]?=some (xs[i]'(by omega)):=aS ab;generalize xs[i]'(by omega)=x at nk;have pF:ys[i]?=some (ys[i]'(by omega)):=aS ab;generalize ys[i]'(by omega)=y at pF;have hg:(iG ws1)[o1+i]?=some (wG y):=iT (by rw[<-lI,bq,aW iI,bD]at pF;exact pF);have hC:=nL (EY.take i) (hy.take i) Pq ha;have NA:(jb (xs.take i) (ys.take i) m a).length=i:=by rw[kM (by rw[bW,bW];omega),bW];omega
  have hz:(iG (iH ws o (jb (xs.take i) (ys.take i) m a)))[o+i]?=some (wG x):=iT (by rw[oi ab];rw[<-hv,bq,aW iI,bD]at nk;exact nk);have h1:=Lk (hy.at pF) Pq (EY.at nk);have h2:=sT (x:=(y*m+x)%WB) (y:=jk (xs.take i) (ys.take i) m a) (c:=0) ab;obtain⟨s1,s2⟩:=rW (m:=m) (c:=a) nk pF;have oY:=nL (EY.take (i+1)) (hy.take (i+1)) Pq ha;rw[s2]at oY;obtain⟨e1,e2⟩:=aiz (x:=y*m+x) (c:=jk (xs.take i) (ys.take i) m a);clear h;(repeat first|refine' wc|(apply dR rfl rfl;focus(first|exact lU rfl rfl (AG rfl) rfl rfl hg rfl|exact lU rfl rfl (AG rfl) rfl rfl hz rfl))|(refine' oX;(first|exact iV h1|exact iV h2|exact jV i (l:=iI)|exact jS (q:=aI hz));exact kq)|refine' xW [10000,10001]);exact⟨i+1,iI,by omega,iE.le (aC ⟨.inl (aT PV.g (MG (by rw[s2,<-e2];omega) (by rw[s2];exact oY))),.inl rfl,.inl (aT aq (jD (by unfold maxLen at hm;omega))),trivial⟩),
   kW.of_eq (by rw[s1,<-e1,<-kx NA ab];exact aT (λl=>(⟨[],[],[MO.arr g WT l,AR g1 ws1]⟩:PH)) jo)⟩
 ·have lk:i=n:=by have:=aX h;omega
  subst lk;rw[bR (fJ hn),bR (fJ Na)];(try refine' uD);refine' rB;all_goals rfl
variable{l:List Nat}
def mH{g:Nat}(hv:(ws.drop o).take n=l)(mK:o+n<=ws.length)(hc:n<=cap)(hm:n<=maxLen):
  al 162 [.vw 0 g o n cap] ⟨[],[],[AR g ws]⟩ (.vw 0 g o (mL l) cap) ⟨[],[],[AR g ws]⟩:=by
 have hl:l.length=n:=by rw[<-hv];simp;omega
 refine' eN func162;(repeat first|refine' uN|refine oQ jL ?_);refine jf (S:=Nat) (λi=>iL [(0,.vw 0 g o n cap),(3,aq i)]) (λi=>⟨[],[],[AR g ws]⟩) (λi=>i<=n∧∀j,i<=j->∀x,l[j]?=some x->x=0) (λi=>i) n ⟨aZ _,λj hj x hx=>by rw[dp ab]at hx;cases hx⟩
  (iE.le ⟨.inl rfl,.inl rfl,trivial⟩) aJ (λi hi=>?_)
 obtain⟨hi,hz⟩:=hi;cases i with
 |zero=>
  have hk:mL l=0:=EG λx hx=>by obtain⟨j,hj⟩:=bt hx;exact hz j (bm _) x hj
  (repeat first|refine' uN|refine oQ (qi 0 rfl (EL rfl) (SZ rfl) rfl rfl rfl rfl rfl (bm _)) ?_);rw[hk];refine' rB;all_goals rfl
 |succ i=>
  have Ua:l[i]?=some (l[i]'(by omega)):=aS ab;generalize l[i]'(by omega)=x at Ua;have hg:(iG ws)[o+i]?=some (wG x):=iT (by rw[<-hv,bq,aW ab,bD]at Ua;exact Ua);have pI:i64.wrap (((i+1:Nat):Int)-1)=(i:Int):=by rw[jD (by unfold maxLen at hm;omega)];omega
  have jX:decide ((0:Int)<((i+1:Nat):Int))=true:=bU ab;(try refine' uN);refine' sQ<;>intro h
  ·clear h;(repeat first|refine' uN|refine oQ (kg (Kp i rfl (EL rfl) (SZ rfl) rfl rfl pI ab) rfl) ?_|refine oQ (jM (q:=aI hg)) ?_);refine' sQ<;>intro h;have sJ:x=0:=(by have:=aU h;omega);subst sJ;clear h;(try refine' uN);refine⟨i,⟨by omega,λj hj x hx=>?_⟩,by omega,iE.le ⟨.inl rfl,.inl (aT aq pI),trivial⟩,aJ⟩;by_cases hji:j=i;subst hji;rw[Ua]at hx;exact(cE hx).symm;exact hz j ab x hx
   ·have sJ:x≠0:=λe=>(by subst e;simp at h);have hk:mL l=i+1:=AN Ua (λj hj y hy=>hz j hj y hy) sJ;clear h;(repeat first|refine' uN|refine oQ (qi (i+1) rfl (EL rfl) (SZ rfl) rfl rfl rfl rfl rfl (b8 hi hc)) ?_);rw[hk];refine' rB;all_goals rfl
  have:=aX h;omega
def lN(n:Nat):Nat:=if n=1 then 1 else n+4
def vV(n:Nat):n<=lN n:=by unfold lN;split<;>omega
variable{k1 k2:IntKind}
def QV{o:Oper}{ρ:Operand->PV}{H:PH}{t:TypeId}{x y:Operand}{l:Nat}(ho:o.op=.makeSlice t x y)(kf:ρ x=.g (.int k1 l))(pD:ρ y=.g (.int k2 z))(hz:z=n)(he:Tryz.prog.underlying t=some (.slice WT))(hl:l<=n)(hn:n<=2000000):
  PO Tryz.prog o ρ H (.vw H.mu.length 0 0 l n) ⟨H.bx,H.tk,H.mu++[AR 0 (List.replicate n 0)]⟩:=by
 subst hz;have hr:iG (List.replicate n 0)=List.replicate n (mB (.int .u64 0)):=by unfold iG;rw[List.map_replicate];rfl
 rw[AR,hr];exact ON ho kf pD he (SZ rfl) (ZR rfl) rfl (BY rfl) hl ab ab
def qQ(h1:1<=n)(hm:n<=1000000):al 159 [.iM,aq n] ⟨[],[],[]⟩ (.vw 0 0 0 n (lN n)) ⟨[],[],[AR 0 (List.replicate (lN n) 0)]⟩:=by
 refine' eN func159;(repeat first|refine' uN|refine oQ (z7 rfl (EL rfl) rfl) ?_);refine' sQ<;>intro h;exfalso;have:=aU h;omega;clear h;(try refine' uN);refine' sQ<;>intro h
 ·have hn:n=1:=by have:=aU h;omega
  subst hn;rw[show lN 1=1 from rfl];(repeat first|refine' uN|refine oQ (QV (l:=1) (n:=1) rfl rfl rfl rfl (EL rfl) (aZ _) af) ?_);refine' rB;all_goals rfl
 ·have hn:n≠1:=by have:=aX h;omega
  have lC:i64.wrap ((n:Int)+4)=((n+4:Nat):Int):=by rw[jD ab];omega
  have hc:lN n=n+4:=by unfold lN;rw[aV hn]
  rw[hc];clear h;(repeat first|refine' uN|refine oQ (QV (l:=n) (n:=n+4) rfl rfl rfl lC (EL rfl) ab ab) ?_);refine' rB;all_goals rfl
variable{len:Nat}{m:MO}
def CM{g:Nat}(hnc:n<=cap):al 159 [.vw 0 g o len cap,aq n] ⟨[],[],[m]⟩ (.vw 0 g o n cap) ⟨[],[],[m]⟩:=by
 refine' eN func159;(repeat first|refine' uN|refine oQ (Mp rfl (EL rfl) rfl) ?_);refine' sQ<;>intro h
 ·(repeat first|refine' uN|refine oQ (qi n rfl (EL rfl) (SZ rfl) rfl rfl rfl rfl rfl hnc) ?_);refine' rB;all_goals rfl
 exfalso;have:=aX h;omega
def Dg{g:Nat}(h2:2<=n)(iI:cap<n)(hm:n<=1000000):al 159 [.vw 0 g o len cap,aq n] ⟨[],[],[m]⟩ (.vw 1 0 0 n (n+4)) ⟨[],[],[m,AR 0 (List.replicate (n+4) 0)]⟩:=by
 have lC:i64.wrap ((n:Int)+4)=((n+4:Nat):Int):=by rw[jD ab];omega
 refine' eN func159;(repeat first|refine' uN|refine oQ (Mp rfl (EL rfl) rfl) ?_);refine' sQ<;>intro h;exfalso;have:=aU h;omega;clear h;(try refine' uN);refine' sQ<;>intro h;exfalso;have:=aU h;omega;clear h;(repeat first|refine' uN|refine oQ (QV (l:=n) (n:=n+4) rfl rfl rfl lC (EL rfl) ab ab) ?_);refine' rB;all_goals rfl
def Iy{x:Nat}(h0:x≠0):al 196 [.iM,.g (wG x)] ⟨[],[],[]⟩ (.vw 0 0 0 1 1) ⟨[],[],[AR 0 [x]]⟩:=by have mq:=qQ (n:=1) ab ab;rw[show lN 1=1 from rfl]at mq;refine' eN func196;(try refine' uN);refine' sQ<;>intro h;exfalso;have:=aU h;omega;clear h;(repeat first|refine' uN|refine oQ (cD [true] mq) ?_|refine oQ (jV 0) ?_|refine oQ (jS (q:=aI rfl)) ?_);refine' rB;all_goals rfl
def Bn(h1:1<=xs.length)(hm:xs.length<=1000000):al 158 [.iM,av (iG xs)] ⟨[],[],[]⟩ (.vw 0 0 0 xs.length (lN xs.length)) ⟨[],[],[AR 0 (xs++List.replicate (lN xs.length-xs.length) 0)]⟩:=by
 rw[<-iK xs]at h1 hm⊢;have mq:=qQ h1 hm;have uJ:=vV (iG xs).length;have aee:xs.length<=lN xs.length:=vV _;have uo:putAt (iG (List.replicate (lN (iG xs).length) 0)) 0 ((iG xs).take (iG xs).length)=iG (xs++List.replicate (lN (iG xs).length-(iG xs).length) 0):=by rw[bR (aZ _)];unfold putAt iG;simp
 refine' eN func158;(repeat first|refine' uN|refine oQ (cD [true] mq) ?_|refine oQ (jI (zO (ys:=iG xs) rfl (EL rfl) (SZ rfl) (SZ rfl) rfl rfl rfl (λ_ _ _ _ _ e=>by cases e) nA (by simp[iK];exact aee)) (aT (λl=>(⟨[],[],[MO.arr 0 WT l]⟩:PH)) uo)) ?_);refine' rB;all_goals rfl
def rJ{p:PV}:ak 180 [.iM,p] (ax false):=by refine' eN func180;(repeat first|refine' uD|(refine' oX;exact z7 rfl (EL rfl) rfl;exact kq));refine' rT;rfl
def Iz{g:Nat}:al 180 [.iM,.vw 0 g o n c] ⟨[],[],[m]⟩ (ax false) ⟨[],[],[m]⟩:=by refine' eN func180;(repeat first|refine' uD|(refine' oX;exact z7 rfl (EL rfl) rfl;exact kq));refine' rB;all_goals rfl
def Lm{n1 g2 n2 c2:Nat}{ws2:List Nat}(h1:1<=c1)(h2:1<=c2)(sx:c1<=ws1.length)(Jj:c2<=ws2.length)(tN:c1<=1000000)(xJ:c2<=1000000):al 180 [.vw 0 g1 0 n1 c1,.vw 1 g2 0 n2 c2] ⟨[],[],[AR g1 ws1,AR g2 ws2]⟩ (ax false) ⟨[],[],[AR g1 ws1,AR g2 ws2]⟩:=by
 have s1:i64.wrap ((c1:Int)-1)=((c1-1:Nat):Int):=by rw[jD ab];omega
 have s2:i64.wrap ((c2:Int)-1)=((c2-1:Nat):Int):=by rw[jD ab];omega
 have e1:0<(iG ws1).length:=by rw[iK];omega
 have e2:0<(iG ws2).length:=by rw[iK];omega
 refine' eN func180;(repeat' first|refine' wc|(apply dR rfl rfl;focus(first|exact AL rfl rfl rfl underlying196 (SZ rfl) (.inl rfl) rfl rfl rfl rfl (SZ rfl) (SZ rfl) e1 e2|exact AL rfl rfl rfl underlying196 (SZ rfl) (.inl rfl) rfl rfl rfl rfl (SZ rfl) (SZ rfl) e1 e2))|(refine' oX;(first|exact Mp rfl (EL rfl) rfl|exact qi c1 rfl (EL rfl) (SZ rfl) rfl rfl rfl rfl rfl (aZ _)|exact qi c2 rfl (EL rfl) (SZ rfl) rfl rfl rfl rfl rfl (aZ _)|exact jV (c1-1) (z:=by exact s1)|exact jV (c2-1) (z:=by exact s2));exact kq)|refine' xW [10000,10001]|refine' sN<;>intro h|fail);all_goals(try(exfalso;have:=aX h;omega))
 all_goals(try(refine' rB;all_goals rfl))
def Ln(args:Array Value)(w:World):(callFunc 201 args).run Tryz.prog w=.ok (.enter 132 args) w:=
 run_callFunc_twin (twin:=f132.name) func201 aj aj aj aj func132 aj aj aj args w
def uS(args:Array Value)(w:World):(callFunc 207 args).run Tryz.prog w=.ok (.enter 131 args) w:=
 run_callFunc_twin (twin:=f131.name) func207 aj aj aj aj func131 aj aj aj args w
def jW(ws zs:List Nat):iH ws 0 zs=zs++ws.drop zs.length:=by simp[iH]
variable{zs:List Nat}
def Gx(h:i+us.length<=zs.length):iH (iH ws 0 zs) i us=iH ws 0 (iH zs i us):=by rw[jW,jW,iX h];unfold iH;rw[cV ab,gh h];simp
def Ub(h:i+n<=zs.length):((iH ws 0 zs).drop i).take n=(zs.drop i).take n:=by rw[jW,gh ab,cV ad]
def HD(h1:okW ws)(h2:okW zs):okW (iH ws 0 zs):=yk 0 h1 h2
def Qh{g:Nat}(hws:okW ws)(hx:okW xs)(hy:okW ys)(hn:(iG xs).length+(iG ys).length<=ws.length)(uJ:(iG xs).length+(iG ys).length<=cap)(hm:(iG xs).length+(iG ys).length<=100000)(kf:1<=(iG xs).length):
  al 181 [.vw 0 g 0 ((iG xs).length+(iG ys).length) cap,av (iG xs),av (iG ys)] ⟨[],[],[AR g ws]⟩ (.tuple []) ⟨[],[],[AR g (iH ws 0 (iQ ((iG xs).length+(iG ys).length) (val xs*val ys)))]⟩:=by
 have KY:(iG xs).length=xs.length:=iK xs;have hny:(iG ys).length=ys.length:=iK ys;have lC:i64.wrap (((iG xs).length:Int)+((iG ys).length:Int))=(((iG xs).length+(iG ys).length:Nat):Int):=by rw[jD ab];omega
 have Oc:putAt (iG ws) 0 (List.replicate ((iG xs).length+(iG ys).length) (mB (.int .u64 0)))=iG (iH ws 0 (List.replicate ((iG xs).length+(iG ys).length) 0)):=by unfold putAt iH iG;simp[wG,mB]
 refine' eN func181;(repeat first|refine' uD|(refine' oX;(first|exact jL|exact qi ((iG xs).length+(iG ys).length) rfl (EL rfl) (SZ rfl) rfl rfl rfl rfl lC uJ|exact jI (AJ rfl (EL rfl) (ZR rfl) rfl (SZ rfl) rfl rfl (by rw[iK ws];omega)) (aT (λl=>(⟨[],[],[MO.arr g WT l]⟩:PH)) Oc));exact kq));refine jf (S:=Nat×List Nat) (λs=>iL [(0,.vw 0 g 0 ((iG xs).length+(iG ys).length) cap),(1,av (iG xs)),(15,av (iG ys)),(16,aq ((iG ys).length:Nat)),(17,aq s.1)]) (λs=>⟨[],[],[AR g (iH ws 0 s.2)]⟩) (λs=>s.1<=(iG ys).length∧mY xs ys s.2 s.1) (λs=>(iG ys).length-s.1) (0,List.replicate ((iG xs).length+(iG ys).length) 0) ⟨bm _,by have h:=mY.start xs ys;rw[show xs.length+ys.length=(iG xs).length+(iG ys).length by omega]at h;exact h⟩
  (iE.le ?_) (kW.of_eq ?_) (λs hs=>?_)
 exact an;rfl;obtain⟨i,zs⟩:=s;obtain⟨hi,hI⟩:=hs;simp only at hi hI;have hzl:=hI.len;(try refine' uD);refine' sQ<;>intro h
 ·have iI:i<(iG ys).length:=by have:=aU h;omega
  have pF:ys[i]?=some (ys[i]'(by omega)):=aS ab;generalize ys[i]'(by omega)=d at pF;have hg:(iG ys)[(i:Int).toNat]?=some (wG d):=iT pF;have hd:d<WB:=hy.at pF;clear h;(repeat first|refine' uD|(refine' oX;exact jA (q:=aI hg);exact kq));refine' sQ<;>intro h
  ·have BR:d≠0:=λe=>by subst e;simp at h
   have tT:=hI.step hx pF hd;have p8:((zs.drop i).take xs.length).length=xs.length:=ad;have Bm:(jb ((zs.drop i).take xs.length) xs d 0).length=xs.length:=(by rw[kM p8,p8]);have zZ:=Su (g:=g) (o:=i) (n:=(iG xs).length) (cap:=cap-i) (cap':=cap-i) (ws:=iH ws 0 zs) (xs:=(zs.drop i).take xs.length) (ys:=xs) (m:=d) (a:=0) (HD hws hI.ok) (by rw[KY];exact Ub ab) hx KY.symm ai hd af (by rw[jW];simp;omega);have VM:i64.wrap ((i:Int)+((iG xs).length:Int))=((i+(iG xs).length:Nat):Int):=(by rw[jD ab];omega);have Xn:i64.wrap (((iG xs).length:Int)+(i:Int))=(((iG xs).length+i:Nat):Int):=(by rw[jD ab];omega);have lG:iH (iH ws 0 zs) i (jb ((zs.drop i).take xs.length) xs d 0++[jk ((zs.drop i).take xs.length) xs d 0])=iH ws 0 (yH zs xs i d):=Gx (by rw[bd,Bm];simp;omega);have hz:(iG (iH (iH ws 0 zs) i (jb ((zs.drop i).take xs.length) xs d 0)))[0+((iG xs).length+i)]?=some (wG ((iH (iH ws 0 zs) i (jb ((zs.drop i).take xs.length) xs d 0))[(iG xs).length+i]'(by rw[iX (by rw[Bm,jW];simp;omega),jW];simp;omega))):=iT (by rw[bc];exact aS _);generalize(iH (iH ws 0 zs) i (jb ((zs.drop i).take xs.length) xs d 0))[(iG xs).length+i]'(by rw[iX (by rw[Bm,jW];simp;omega),jW];simp;omega)=q at hz;clear h;(repeat first|refine' uD|(apply dR rfl rfl;focus(first|exact tP rfl (SZ rfl) rfl rfl rfl rfl af rfl hz (aZ _)))|(refine' oX;(first|exact jL|exact kg (N5 i (i+(iG xs).length) rfl (EL rfl) (SZ rfl) rfl rfl rfl rfl VM ab ab ab) (show _=PV.vw 0 g i ((iG xs).length) (cap-i) by rw[bc,ew])|exact ct [] rfl rfl Ln (zZ) rfl rfl rfl rfl rfl rfl rfl rfl rfl rfl rfl|exact jV ((iG xs).length+i) (z:=by exact Xn));exact kq));exact⟨(i+1,yH zs xs i d),⟨iI,tT⟩,by simp only;omega,iE.le (aC ⟨.inl (aT aq (jD (by simp only;omega))),trivial⟩),
    kW.of_eq (by rw[<-lG,<-kx Bm (by rw[jW];simp;omega),show i+xs.length=0+((iG xs).length+i) by omega];exact aT (λl=>(⟨[],[],[MO.arr g WT l]⟩:PH)) jo)⟩
  ·have BR:d=0:=by have:=h;simp at this;omega
   subst BR;clear h;(try refine' uD);exact⟨(i+1,zs),⟨iI,hI.skip pF⟩,by simp only;omega,iE.le (aC ⟨.inl (aT aq (jD (by simp only;omega))),trivial⟩),aJ⟩
 ·have lk:i=(iG ys).length:=by have:=aX h;omega
  have VN:=hI.pad;rw[lk,bR ab,show xs.length+ys.length=(iG xs).length+(iG ys).length by omega]at VN;rw[<-VN];(try refine' uD);refine' rB;all_goals rfl
variable{nx:Nat}
def yY{g:Nat}(lI:(ws1.drop 0).take nx=xs)(sx:nx<=ws1.length)(hws:okW ws)(hx:okW xs)(hn:nx+nx<=ws.length)(uJ:nx+nx<=cap)(hm:nx+nx<=100000)(kf:1<=nx):
  al 181 [.vw 0 g 0 (nx+nx) cap,.vw 1 g1 0 nx c1,.vw 1 g1 0 nx c1] ⟨[],[],[AR g ws,AR g1 ws1]⟩ (.tuple []) ⟨[],[],[AR g (iH ws 0 (iQ (nx+nx) (val xs*val xs))),AR g1 ws1]⟩:=by
 have KY:nx=xs.length:=by rw[<-lI];simp;omega
 have hny:nx=xs.length:=by rw[<-lI];simp;omega
 have lC:i64.wrap ((nx:Int)+(nx:Int))=((nx+nx:Nat):Int):=by rw[jD ab];omega
 have Oc:putAt (iG ws) 0 (List.replicate (nx+nx) (mB (.int .u64 0)))=iG (iH ws 0 (List.replicate (nx+nx) 0)):=by unfold putAt iH iG;simp[wG,mB]
 refine' eN func181;(repeat first|refine' uD|(refine' oX;(first|exact jL|exact qi (nx+nx) rfl (EL rfl) (SZ rfl) rfl rfl rfl rfl lC uJ|exact jI (AJ rfl (EL rfl) (ZR rfl) rfl (SZ rfl) rfl rfl (by rw[iK ws];omega)) (aT (λl=>(⟨[],[],[MO.arr g WT l,AR g1 ws1]⟩:PH)) Oc));exact kq));refine jf (S:=Nat×List Nat) (λs=>iL [(0,.vw 0 g 0 (nx+nx) cap),(1,.vw 1 g1 0 nx c1),(15,.vw 1 g1 0 nx c1),(16,aq (nx:Nat)),(17,aq s.1)]) (λs=>⟨[],[],[AR g (iH ws 0 s.2),AR g1 ws1]⟩) (λs=>s.1<=nx∧mY xs xs s.2 s.1) (λs=>nx-s.1) (0,List.replicate (nx+nx) 0) ⟨bm _,by have h:=mY.start xs xs;rw[show xs.length+xs.length=nx+nx by omega]at h;exact h⟩
  (iE.le ?_) (kW.of_eq ?_) (λs hs=>?_)
 exact an;rfl;obtain⟨i,zs⟩:=s;obtain⟨hi,hI⟩:=hs;simp only at hi hI;have hzl:=hI.len;(try refine' uD);refine' sQ<;>intro h
 ·have iI:i<nx:=by have:=aU h;omega
  have pF:xs[i]?=some (xs[i]'(by omega)):=aS ab;generalize xs[i]'(by omega)=d at pF;have hg:(iG ws1)[0+i]?=some (wG d):=iT (by rw[<-lI,bq,aW iI,bD]at pF;exact pF);have hd:d<WB:=hx.at pF;clear h;(repeat first|refine' uD|(refine' oX;(first|exact jV i (l:=iI)|exact jM (q:=aI hg));exact kq));refine' sQ<;>intro h
  ·have BR:d≠0:=λe=>by subst e;simp at h
   have tT:=hI.step hx pF hd;have p8:((zs.drop i).take xs.length).length=xs.length:=ad;have Bm:(jb ((zs.drop i).take xs.length) xs d 0).length=xs.length:=(by rw[kM p8,p8]);have zZ:=Qg (g:=g) (o:=i) (n:=nx) (cap:=cap-i) (cap':=cap-i) (g1:=g1) (o1:=0) (c1:=c1) (ws:=iH ws 0 zs) (xs:=(zs.drop i).take xs.length) (ys:=xs) (ws1:=ws1) (m:=d) (a:=0) lI (HD hws hI.ok) (by rw[KY];exact Ub ab) hx KY.symm ai hd af (by rw[jW];simp;omega);have VM:i64.wrap ((i:Int)+(nx:Int))=((i+nx:Nat):Int):=(by rw[jD ab];omega);have Xn:i64.wrap ((nx:Int)+(i:Int))=((nx+i:Nat):Int):=(by rw[jD ab];omega);have lG:iH (iH ws 0 zs) i (jb ((zs.drop i).take xs.length) xs d 0++[jk ((zs.drop i).take xs.length) xs d 0])=iH ws 0 (yH zs xs i d):=Gx (by rw[bd,Bm];simp;omega);have hz:(iG (iH (iH ws 0 zs) i (jb ((zs.drop i).take xs.length) xs d 0)))[0+(nx+i)]?=some (wG ((iH (iH ws 0 zs) i (jb ((zs.drop i).take xs.length) xs d 0))[nx+i]'(by rw[iX (by rw[Bm,jW];simp;omega),jW];simp;omega))):=iT (by rw[bc];exact aS _);generalize(iH (iH ws 0 zs) i (jb ((zs.drop i).take xs.length) xs d 0))[nx+i]'(by rw[iX (by rw[Bm,jW];simp;omega),jW];simp;omega)=q at hz;clear h;(repeat first|refine' uD|(apply dR rfl rfl;focus(first|exact tP rfl (SZ rfl) rfl rfl rfl rfl af rfl hz (aZ _)))|(refine' oX;(first|exact jL|exact kg (N5 i (i+nx) rfl (EL rfl) (SZ rfl) rfl rfl rfl rfl VM ab ab ab) (show _=PV.vw 0 g i (nx) (cap-i) by rw[bc,ew])|exact ct [] rfl rfl Ln (zZ) rfl rfl rfl rfl rfl rfl rfl rfl rfl rfl rfl|exact jV (nx+i) (z:=by exact Xn));exact kq));exact⟨(i+1,yH zs xs i d),⟨iI,tT⟩,by simp only;omega,iE.le (aC ⟨.inl (aT aq (jD (by simp only;omega))),trivial⟩),
    kW.of_eq (by rw[<-lG,<-kx Bm (by rw[jW];simp;omega),show i+xs.length=0+(nx+i) by omega];exact aT (λl=>(⟨[],[],[MO.arr g WT l,AR g1 ws1]⟩:PH)) jo)⟩
  ·have BR:d=0:=by have:=h;simp at this;omega
   subst BR;clear h;(try refine' uD);exact⟨(i+1,zs),⟨iI,hI.skip pF⟩,by simp only;omega,iE.le (aC ⟨.inl (aT aq (jD (by simp only;omega))),trivial⟩),aJ⟩
 ·have lk:i=nx:=by have:=aX h;omega
  have VN:=hI.pad;rw[lk,bR ab,show xs.length+xs.length=nx+nx by omega]at VN;rw[<-VN];(try refine' uD);refine' rB;all_goals rfl
def oD(hx:okW xs)(hy:okW ys):val xs*val ys<WB^(xs.length+ys.length):=by have h1:=lP hx;have h2:=lP hy;rw[fp];exact gQ h1 h2
def yL(hx:okW xs)(hy:y<WB):iO xs y 0++[iW xs y 0]=iQ (xs.length+1) (val xs*y):=by have nT:okW (iO xs y 0++[iW xs y 0]):=kz.2 ⟨rm _ _ _,iS.2 ⟨yG hx hy af,ke⟩⟩;have h:=sf nT;rw[bd,jh,jy,jh]at h;have hv:=rn xs y 0;simp only[val,dZ,b9,bu,bH]at h hv;rw[hv]at h;simpa using h.symm
def sK(h:us.length=k):((iH ws 0 us).drop 0).take k=us:=by rw[dz,jW,cV ab,bR ab]
def HE{d:Nat}(hd:d<WB):iQ 2 (d*d)=[d*d%WB,d*d/WB]:=by
 have:d*d/WB<WB:=by have:=EH hd hd (show 0<WB by decide);simpa using this
 simp[iQ,bn this]
def QW(h:2<=l.length):∃q0 q1 R,l=q0::q1::R:=by
 cases l with
 |nil=>simp at h
 |cons a r=>cases r with
  |nil=>simp at h|cons b r=>exact⟨a,b,r,rfl⟩
def EZ(hl:us.length<=k)(h:k<ws.length):(iH ws 0 us)[k]?=some (ws[k]'h):=by rw[oi ab];exact aS h
def zS{x:Nat}(hx:x<WB)(hy:y<WB):ak 179 [.g (wG x),.g (wG y)] (.tuple [.g (wG (x*y/WB)),.g (wG (x*y%WB))]):=by have h1:=Gz hx hy;refine' eN func179;(try refine' wk @h1);exact Bx (vC vT (vC vT vN)) rfl rfl rfl
def Sv(hx:okW xs)(hy:y<WB)(Dz:y≠0)(h1:1<=(iG xs).length)(hm:(iG xs).length<=100000):
  al 186 [.iM,av (iG xs),.g (wG y),.g (wG 0)] ⟨[],[],[]⟩ (.vw 0 0 0 (iF (val xs*y)).length ((iG xs).length+1+4)) ⟨[],[],[AR 0 (iH (List.replicate ((iG xs).length+1+4) 0) 0 (iQ ((iG xs).length+1) (val xs*y)))]⟩:=by
 have hl:(iG xs).length=xs.length:=iK xs;have lC:i64.wrap (((iG xs).length:Int)+1)=(((iG xs).length+1:Nat):Int):=by rw[jD ab];omega
 have mq:=qQ (n:=(iG xs).length+1) ab ab;rw[show lN ((iG xs).length+1)=(iG xs).length+1+4 from by unfold lN;rw[aV ab]]at mq;rw[<-lC]at mq;have nn:(iG xs).length+1<=((List.replicate ((iG xs).length+1+4) 0)).length:=by rw[cS];omega
 have hv:=St (g:=0) (o:=0) (n:=(iG xs).length) (cap:=(iG xs).length+1+4) (ws:=List.replicate ((iG xs).length+1+4) 0) (xs:=xs) (y:=y) (r:=0) hx hl.symm ai hy af ab;have p8:=iN ((iG xs).length+1) (val xs*y);have iI:val xs*y<WB^((iG xs).length+1):=by have:=oD hx (iS.2 ⟨hy,ke⟩);rw[hl];simpa[val]using this
 have hn:=mH (g:=0) (o:=0) (n:=(iG xs).length+1) (cap:=(iG xs).length+1+4) (ws:=iH (List.replicate ((iG xs).length+1+4) 0) 0 (iQ ((iG xs).length+1) (val xs*y))) (l:=iQ ((iG xs).length+1) (val xs*y)) (sK p8) (by rw[iX ab];omega) ab ai;rw[mf iI]at hn;have AY:(iH (List.replicate ((iG xs).length+1+4) 0) 0 (iO xs y 0)).set (0+(iG xs).length) (iW xs y 0)=iH (List.replicate ((iG xs).length+1+4) 0) 0 (iQ ((iG xs).length+1) (val xs*y)):=by have:=kx (ws:=(List.replicate ((iG xs).length+1+4) 0)) (us:=iO xs y 0) (off:=0) (n:=(iG xs).length) (w:=iW xs y 0) (by rw[jh xs y 0];omega) ab;rw[this,yL hx hy,<-hl]
 have hz:(iG (iH (List.replicate ((iG xs).length+1+4) 0) 0 (iO xs y 0)))[0+(iG xs).length]?=some (wG (((List.replicate ((iG xs).length+1+4) 0))[(iG xs).length]'(by omega))):=iT (by rw[bc];exact EZ (ws:=(List.replicate ((iG xs).length+1+4) 0)) (us:=iO xs y 0) (by rw[jh xs y 0];omega) _);generalize((List.replicate ((iG xs).length+1+4) 0))[(iG xs).length]'(by omega)=q at hz;refine' eN func186;(repeat' first|refine' wa|refine oQ jL ?_|refine xU [4] rfl ?_|refine' sN<;>intro h|fail);all_goals(try(exfalso;have:=aU h;omega))
 (repeat first|refine' uN|refine oQ (cD [true] mq) ?_|refine oQ (qi (iG xs).length rfl (EL rfl) (SZ rfl) rfl rfl rfl rfl rfl ab) ?_|refine oQ (ct [] rfl rfl uS (hv) rfl rfl rfl rfl rfl rfl rfl rfl rfl rfl rfl) ?_|refine oQ (jV (iG xs).length) ?_|refine oQ (cD [] hn) ?_|refine oQ (jI (iP rfl (SZ rfl) rfl rfl rfl rfl af rfl hz (aZ _)) (aT (λl=>(⟨[],[],[MO.arr 0 WT l]⟩:PH)) (jo.trans (aT iG AY)))) ?_);refine' rB;all_goals rfl
variable{gz cz:Nat}{wz:List Nat}
def Qi{lz g:Nat}(lI:(ws.drop 0).take nx=xs)(sx:nx<=ws.length)(ll:nx+1<=cz)(hcz:cz<=1000000)(hwz:cz<=wz.length)(hx:okW xs)(hy:y<WB)(Dz:y≠0)(h1:1<=nx)(hm:nx<=100000):
  al 186 [.vw 0 gz 0 lz cz,.vw 1 g 0 nx c,.g (wG y),.g (wG 0)] ⟨[],[],[AR gz wz,AR g ws]⟩ (.vw 0 gz 0 (iF (val xs*y)).length (cz)) ⟨[],[],[AR gz (iH wz 0 (iQ (nx+1) (val xs*y))),AR g ws]⟩:=by
 have hl:nx=xs.length:=by rw[<-lI];simp;omega
 have lC:i64.wrap ((nx:Int)+1)=((nx+1:Nat):Int):=by rw[jD ab];omega
 have mq:=CM (n:=nx+1) (g:=gz) (o:=0) (len:=lz) (cap:=cz) (m:=AR gz wz) ll;rw[<-lC]at mq;have nn:nx+1<=(wz).length:=ab
 have hv:=tQ (g:=gz) (o:=0) (n:=nx) (cap:=cz) (g1:=g) (o1:=0) (c1:=c) (ws:=wz) (xs:=xs) (ws1:=ws) (y:=y) (r:=0) lI hx hl.symm ai hy af ab;have p8:=iN (nx+1) (val xs*y);have iI:val xs*y<WB^(nx+1):=by have:=oD hx (iS.2 ⟨hy,ke⟩);rw[hl];simpa[val]using this
 have hn:=mH (g:=gz) (o:=0) (n:=nx+1) (cap:=cz) (ws:=iH wz 0 (iQ (nx+1) (val xs*y))) (l:=iQ (nx+1) (val xs*y)) (sK p8) (by rw[iX ab];omega) ab ai;rw[mf iI]at hn;have AY:(iH wz 0 (iO xs y 0)).set (0+nx) (iW xs y 0)=iH wz 0 (iQ (nx+1) (val xs*y)):=by have:=kx (ws:=wz) (us:=iO xs y 0) (off:=0) (n:=nx) (w:=iW xs y 0) (by rw[jh xs y 0];omega) ab;rw[this,yL hx hy,<-hl]
 have hz:(iG (iH wz 0 (iO xs y 0)))[0+nx]?=some (wG ((wz)[nx]'(by omega))):=iT (by rw[bc];exact EZ (ws:=wz) (us:=iO xs y 0) (by rw[jh xs y 0];omega) _);generalize(wz)[nx]'(by omega)=q at hz;refine' eN func186;(repeat' first|refine' wa|refine oQ jL ?_|refine xU [4] rfl ?_|refine' sN<;>intro h|fail);all_goals(try(exfalso;have:=aU h;omega))
 (repeat first|refine' uN|refine oQ (cD [true] mq) ?_|refine oQ (qi nx rfl (EL rfl) (SZ rfl) rfl rfl rfl rfl rfl ab) ?_|refine oQ (ct [] rfl rfl uS (hv) rfl rfl rfl rfl rfl rfl rfl rfl rfl rfl rfl) ?_|refine oQ (jV nx) ?_|refine oQ (cD [] hn) ?_|refine oQ (jI (iP rfl (SZ rfl) rfl rfl rfl rfl af rfl hz (aZ _)) (aT (λl=>(⟨[],[],[MO.arr gz WT l,AR g ws]⟩:PH)) (jo.trans (aT iG AY)))) ?_);refine' rB;all_goals rfl
def NB{lz g:Nat}(lI:(ws.drop 0).take nx=xs)(sx:nx<=ws.length)(ll:cz<nx+1)(hx:okW xs)(hy:y<WB)(Dz:y≠0)(h1:1<=nx)(hm:nx<=100000):
  al 186 [.vw 0 gz 0 lz cz,.vw 1 g 0 nx c,.g (wG y),.g (wG 0)] ⟨[],[],[AR gz wz,AR g ws]⟩ (.vw 2 0 0 (iF (val xs*y)).length (nx+1+4)) ⟨[],[],[AR gz wz,AR g ws,AR 0 (iH (List.replicate (nx+1+4) 0) 0 (iQ (nx+1) (val xs*y)))]⟩:=by
 have hl:nx=xs.length:=by rw[<-lI];simp;omega
 have lC:i64.wrap ((nx:Int)+1)=((nx+1:Nat):Int):=by rw[jD ab];omega
 have mq:=Dg (n:=nx+1) (g:=gz) (o:=0) (len:=lz) (cap:=cz) (m:=AR gz wz) ab ll ab;rw[<-lC]at mq;have nn:nx+1<=((List.replicate (nx+1+4) 0)).length:=by rw[cS];omega
 have hv:=tQ (g:=0) (o:=0) (n:=nx) (cap:=nx+1+4) (g1:=g) (o1:=0) (c1:=c) (ws:=List.replicate (nx+1+4) 0) (xs:=xs) (ws1:=ws) (y:=y) (r:=0) lI hx hl.symm ai hy af ab;have p8:=iN (nx+1) (val xs*y);have iI:val xs*y<WB^(nx+1):=by have:=oD hx (iS.2 ⟨hy,ke⟩);rw[hl];simpa[val]using this
 have hn:=mH (g:=0) (o:=0) (n:=nx+1) (cap:=nx+1+4) (ws:=iH (List.replicate (nx+1+4) 0) 0 (iQ (nx+1) (val xs*y))) (l:=iQ (nx+1) (val xs*y)) (sK p8) (by rw[iX ab];omega) ab ai;rw[mf iI]at hn;have AY:(iH (List.replicate (nx+1+4) 0) 0 (iO xs y 0)).set (0+nx) (iW xs y 0)=iH (List.replicate (nx+1+4) 0) 0 (iQ (nx+1) (val xs*y)):=by have:=kx (ws:=(List.replicate (nx+1+4) 0)) (us:=iO xs y 0) (off:=0) (n:=nx) (w:=iW xs y 0) (by rw[jh xs y 0];omega) ab;rw[this,yL hx hy,<-hl]
 have hz:(iG (iH (List.replicate (nx+1+4) 0) 0 (iO xs y 0)))[0+nx]?=some (wG (((List.replicate (nx+1+4) 0))[nx]'(by omega))):=iT (by rw[bc];exact EZ (ws:=(List.replicate (nx+1+4) 0)) (us:=iO xs y 0) (by rw[jh xs y 0];omega) _);generalize((List.replicate (nx+1+4) 0))[nx]'(by omega)=q at hz;refine' eN func186;(repeat' first|refine' wa|refine oQ jL ?_|refine xU [4] rfl ?_|refine' sN<;>intro h|fail);all_goals(try(exfalso;have:=aU h;omega))
 (repeat first|refine' uN|refine oQ (cD [true] mq) ?_|refine oQ (qi nx rfl (EL rfl) (SZ rfl) rfl rfl rfl rfl rfl ab) ?_|refine oQ (ct [] rfl rfl uS (hv) rfl rfl rfl rfl rfl rfl rfl rfl rfl rfl rfl) ?_|refine oQ (jV nx) ?_|refine oQ (cD [] hn) ?_|refine oQ (jI (iP rfl (SZ rfl) rfl rfl rfl rfl af rfl hz (aZ _)) (aT (λl=>(⟨[],[],[AR gz wz,AR g ws,MO.arr 0 WT l]⟩:PH)) (jo.trans (aT iG AY)))) ?_);refine' rB;all_goals rfl
def acv{g:Nat}{stk:PV}(lI:(ws.drop 0).take nx=xs)(sx:nx<=ws.length)(hcx:nx<=c)(aa2:c<=ws.length)(aa3:c<=1000000)(hx:okW xs)(h1:1<=nx)(hm:nx<12):
  al 167 [.iM,.any,.vw 0 g 0 nx c] ⟨[],[],[AR g ws]⟩ (.vw 1 0 0 (iF (val xs*val xs)).length (nx+nx+4)) ⟨[],[],[AR g ws,AR 0 (iH (List.replicate (nx+nx+4) 0) 0 (iQ (nx+nx) (val xs*val xs)))]⟩:=by
 have hl:nx=xs.length:=by rw[<-lI];simp;omega
 have hmul:i64.wrap ((2:Int)*(nx:Int))=((nx+nx:Nat):Int):=by rw[jD ab];omega
 have mq:=qQ (n:=nx+nx) ab ab;rw[show lN (nx+nx)=nx+nx+4 from by unfold lN;rw[aV ab]]at mq;have nn:nx+nx<=((List.replicate (nx+nx+4) 0)).length:=by rw[cS];omega
 have p8:=iN (nx+nx) (val xs*val xs);have iI:val xs*val xs<WB^(nx+nx):=by have:=oD hx hx;rwa[<-hl]at this
 have hn:=mH (g:=0) (o:=0) (n:=nx+nx) (cap:=nx+nx+4) (ws:=iH (List.replicate (nx+nx+4) 0) 0 (iQ (nx+nx) (val xs*val xs))) (l:=iQ (nx+nx) (val xs*val xs)) (sK p8) (by rw[iX ab];omega) ab ai;rw[mf iI]at hn;obtain⟨q0,q1,R,hR⟩:=QW (l:=(List.replicate (nx+nx+4) 0)) ab;by_cases jE:nx=1
 ·subst jE;obtain⟨d,hd⟩:∃d,xs=[d]:=by
   match xs,hl with
   |[d],_=>exact⟨d,rfl⟩
  subst hd;have yV:d<WB:=hx d aa;have hww:=zS yV yV;have hg:(iG ws)[0+0]?=some (wG d):=iT (by have:((ws.drop 0).take 1)[0]?=some d:=(by rw[lI];rfl);rw[bq,aW ab,bD]at this;exact this);rw[show val [d]=d by simp[val],HE yV]at hn⊢;have uo:iH (q0::q1::R) 0 [d*d%WB,d*d/WB]=d*d%WB::d*d/WB::R:=by simp[iH]
  rw[hR]at mq hn⊢;rw[uo]at hn⊢;refine' eN func167;(repeat first|refine' uN|refine oQ jL ?_|refine oQ (jV 0) ?_|refine oQ (jV 1) ?_|refine oQ (jM (q:=aI hg)) ?_|refine oQ (cD [true] mq) ?_|refine oQ (iV hww) ?_|refine oQ (jS (q:=aI rfl)) ?_|refine oQ (cD [] hn) ?_);refine' rB;all_goals rfl
 ·have oK:=Iz (m:=AR g ws) (g:=g) (o:=0) (n:=nx) (c:=c);have hb:=yY (g:=0) (cap:=nx+nx+4) (g1:=g) (nx:=nx) (c1:=c) (ws:=(List.replicate (nx+nx+4) 0)) (ws1:=ws) (xs:=xs) lI sx (oB _) hx nn ab ab h1;rw[<-hmul]at mq;refine' eN func167;(repeat' first|refine' wa|refine oQ jL ?_|refine xU [9] rfl ?_|refine' sN<;>intro h|fail);all_goals(try(exfalso;have:=aU h;omega))
  try clear h
  (repeat' first|refine' wa|refine oQ jL ?_|refine oQ (cD [true] oK) ?_|refine oQ (cD [true] mq) ?_|refine oQ (xa rfl (AG rfl) rfl rfl) ?_|refine oQ (cD [] hb) ?_|refine oQ (cD [] hn) ?_|refine xU [15] rfl ?_|refine' sN<;>intro h|fail);all_goals(try(exfalso;have:=aX h;omega))
  refine' rB;all_goals rfl
def agT{lz g:Nat}{stk:PV}(ll:nx+nx<=cz)(hcz:cz<=1000000)(hwz:cz<=wz.length)(hwo:okW wz)(lI:(ws.drop 0).take nx=xs)(sx:nx<=ws.length)(hcx:nx<=c)(aa2:c<=ws.length)(aa3:c<=1000000)(hx:okW xs)(h1:1<=nx)(hm:nx<12):
  al 167 [.vw 0 gz 0 lz cz,.any,.vw 1 g 0 nx c] ⟨[],[],[AR gz wz,AR g ws]⟩ (.vw 0 gz 0 (iF (val xs*val xs)).length (cz)) ⟨[],[],[AR gz (iH wz 0 (iQ (nx+nx) (val xs*val xs))),AR g ws]⟩:=by
 have hl:nx=xs.length:=by rw[<-lI];simp;omega
 have hmul:i64.wrap ((2:Int)*(nx:Int))=((nx+nx:Nat):Int):=by rw[jD ab];omega
 have mq:=CM (n:=nx+nx) (g:=gz) (o:=0) (len:=lz) (cap:=cz) (m:=AR gz wz) ll;skip;have nn:nx+nx<=(wz).length:=ab
 have p8:=iN (nx+nx) (val xs*val xs);have iI:val xs*val xs<WB^(nx+nx):=by have:=oD hx hx;rwa[<-hl]at this
 have hn:=mH (g:=gz) (o:=0) (n:=nx+nx) (cap:=cz) (ws:=iH wz 0 (iQ (nx+nx) (val xs*val xs))) (l:=iQ (nx+nx) (val xs*val xs)) (sK p8) (by rw[iX ab];omega) ab ai;rw[mf iI]at hn;obtain⟨q0,q1,R,hR⟩:=QW (l:=wz) ab;by_cases jE:nx=1
 ·subst jE;obtain⟨d,hd⟩:∃d,xs=[d]:=by
   match xs,hl with
   |[d],_=>exact⟨d,rfl⟩
  subst hd;have yV:d<WB:=hx d aa;have hww:=zS yV yV;have hg:(iG ws)[0+0]?=some (wG d):=iT (by have:((ws.drop 0).take 1)[0]?=some d:=(by rw[lI];rfl);rw[bq,aW ab,bD]at this;exact this);rw[show val [d]=d by simp[val],HE yV]at hn⊢;have uo:iH (q0::q1::R) 0 [d*d%WB,d*d/WB]=d*d%WB::d*d/WB::R:=by simp[iH]
  rw[hR]at mq hn⊢;rw[uo]at hn⊢;refine' eN func167;(repeat first|refine' uN|refine oQ jL ?_|refine oQ (jV 0) ?_|refine oQ (jV 1) ?_|refine oQ (jM (q:=aI hg)) ?_|refine oQ (cD [true] mq) ?_|refine oQ (iV hww) ?_|refine oQ (jS (q:=aI rfl)) ?_|refine oQ (cD [] hn) ?_);refine' rB;all_goals rfl
 ·have oK:=Lm (g1:=gz) (n1:=lz) (c1:=cz) (g2:=g) (n2:=nx) (c2:=c) (ws1:=wz) (ws2:=ws) ab ab hwz aa2 hcz aa3;have hb:=yY (g:=gz) (cap:=cz) (g1:=g) (nx:=nx) (c1:=c) (ws:=wz) (ws1:=ws) (xs:=xs) lI sx hwo hx nn ab ab h1;rw[<-hmul]at mq;refine' eN func167;(repeat' first|refine' wa|refine oQ jL ?_|refine xU [9] rfl ?_|refine' sN<;>intro h|fail);all_goals(try(exfalso;have:=aU h;omega))
  try clear h
  (repeat' first|refine' wa|refine oQ jL ?_|refine oQ (cD [] oK) ?_|refine oQ (cD [true] mq) ?_|refine oQ (xa rfl (AG rfl) rfl rfl) ?_|refine oQ (cD [] hb) ?_|refine oQ (cD [] hn) ?_|refine xU [15] rfl ?_|refine' sN<;>intro h|fail);all_goals(try(exfalso;have:=aX h;omega))
  refine' rB;all_goals rfl
def acw{lz g:Nat}{stk:PV}(ll:cz<nx+nx)(al6:1<=cz)(hcz:cz<=1000000)(hwz:cz<=wz.length)(lI:(ws.drop 0).take nx=xs)(sx:nx<=ws.length)(hcx:nx<=c)(aa2:c<=ws.length)(aa3:c<=1000000)(hx:okW xs)(h1:1<=nx)(hm:nx<12):
  al 167 [.vw 0 gz 0 lz cz,.any,.vw 1 g 0 nx c] ⟨[],[],[AR gz wz,AR g ws]⟩ (.vw 2 0 0 (iF (val xs*val xs)).length (nx+nx+4)) ⟨[],[],[AR gz wz,AR g ws,AR 0 (iH (List.replicate (nx+nx+4) 0) 0 (iQ (nx+nx) (val xs*val xs)))]⟩:=by
 have hl:nx=xs.length:=by rw[<-lI];simp;omega
 have hmul:i64.wrap ((2:Int)*(nx:Int))=((nx+nx:Nat):Int):=by rw[jD ab];omega
 have mq:=Dg (n:=nx+nx) (g:=gz) (o:=0) (len:=lz) (cap:=cz) (m:=AR gz wz) ab ll ab;skip;have nn:nx+nx<=((List.replicate (nx+nx+4) 0)).length:=by rw[cS];omega
 have p8:=iN (nx+nx) (val xs*val xs);have iI:val xs*val xs<WB^(nx+nx):=by have:=oD hx hx;rwa[<-hl]at this
 have hn:=mH (g:=0) (o:=0) (n:=nx+nx) (cap:=nx+nx+4) (ws:=iH (List.replicate (nx+nx+4) 0) 0 (iQ (nx+nx) (val xs*val xs))) (l:=iQ (nx+nx) (val xs*val xs)) (sK p8) (by rw[iX ab];omega) ab ai;rw[mf iI]at hn;obtain⟨q0,q1,R,hR⟩:=QW (l:=(List.replicate (nx+nx+4) 0)) ab;by_cases jE:nx=1
 ·subst jE;obtain⟨d,hd⟩:∃d,xs=[d]:=by
   match xs,hl with
   |[d],_=>exact⟨d,rfl⟩
  subst hd;have yV:d<WB:=hx d aa;have hww:=zS yV yV;have hg:(iG ws)[0+0]?=some (wG d):=iT (by have:((ws.drop 0).take 1)[0]?=some d:=(by rw[lI];rfl);rw[bq,aW ab,bD]at this;exact this);rw[show val [d]=d by simp[val],HE yV]at hn⊢;have uo:iH (q0::q1::R) 0 [d*d%WB,d*d/WB]=d*d%WB::d*d/WB::R:=by simp[iH]
  rw[hR]at mq hn⊢;rw[uo]at hn⊢;refine' eN func167;(repeat first|refine' uN|refine oQ jL ?_|refine oQ (jV 0) ?_|refine oQ (jV 1) ?_|refine oQ (jM (q:=aI hg)) ?_|refine oQ (cD [true] mq) ?_|refine oQ (iV hww) ?_|refine oQ (jS (q:=aI rfl)) ?_|refine oQ (cD [] hn) ?_);refine' rB;all_goals rfl
 ·have oK:=Lm (g1:=gz) (n1:=lz) (c1:=cz) (g2:=g) (n2:=nx) (c2:=c) (ws1:=wz) (ws2:=ws) al6 ab hwz aa2 hcz aa3;have hb:=yY (g:=0) (cap:=nx+nx+4) (g1:=g) (nx:=nx) (c1:=c) (ws:=(List.replicate (nx+nx+4) 0)) (ws1:=ws) (xs:=xs) lI sx (oB _) hx nn ab ab h1;rw[<-hmul]at mq;refine' eN func167;(repeat' first|refine' wa|refine oQ jL ?_|refine xU [9] rfl ?_|refine' sN<;>intro h|fail);all_goals(try(exfalso;have:=aU h;omega))
  try clear h
  (repeat' first|refine' wa|refine oQ jL ?_|refine oQ (cD [] oK) ?_|refine oQ (cD [true] mq) ?_|refine oQ (xa rfl (AG rfl) rfl rfl) ?_|refine oQ (cD [] hb) ?_|refine oQ (cD [] hn) ?_|refine xU [15] rfl ?_|refine' sN<;>intro h|fail);all_goals(try(exfalso;have:=aX h;omega))
  refine' rB;all_goals rfl
def agU{lz g:Nat}(lI:(ws.drop 0).take nx=xs)(sx:nx<=ws.length)(ll:nx+1<=cz)(hcz:cz<=1000000)(hwz:cz<=wz.length)(hx:okW xs)(hy:y<WB)(Dz:y≠0)(h1:1<=nx)(hm:nx<=100000):
  al 168 [.vw 0 gz 0 lz cz,.any,.vw 1 g 0 nx c,av (iG [y])] ⟨[],[],[AR gz wz,AR g ws]⟩ (.vw 0 gz 0 (iF (val xs*y)).length cz) ⟨[],[],[AR gz (iH wz 0 (iQ (nx+1) (val xs*y))),AR g ws]⟩:=by
 have hc:=Qi (gz:=gz) (lz:=lz) (cz:=cz) (g:=g) (nx:=nx) (c:=c) (wz:=wz) (ws:=ws) (xs:=xs) (y:=y) lI sx ll hcz hwz hx hy Dz h1 hm;refine' eN func168;(repeat' first|refine' wb|(refine' oX;(first|exact jL|exact jB (g:=wG y)|exact cD [] hc);exact kq)|refine xU [9] rfl ?_|refine' sN<;>intro h|fail);all_goals(try(exfalso;have hh:=aU h;first|omega|(simp only[iK,bu,bH]at hh;omega)))
 all_goals(try(exfalso;have hh:=aX h;first|omega|(simp only[iK,bu,bH]at hh;omega)))
 refine' rB;all_goals rfl
def acx{lz g:Nat}(lI:(ws.drop 0).take nx=xs)(sx:nx<=ws.length)(ll:cz<nx+1)(hx:okW xs)(hy:y<WB)(Dz:y≠0)(h1:1<=nx)(hm:nx<=100000):
  al 168 [.vw 0 gz 0 lz cz,.any,.vw 1 g 0 nx c,av (iG [y])] ⟨[],[],[AR gz wz,AR g ws]⟩ (.vw 2 0 0 (iF (val xs*y)).length (nx+1+4)) ⟨[],[],[AR gz wz,AR g ws,AR 0 (iH (List.replicate (nx+1+4) 0) 0 (iQ (nx+1) (val xs*y)))]⟩:=by
 have hc:=NB (gz:=gz) (lz:=lz) (cz:=cz) (g:=g) (nx:=nx) (c:=c) (wz:=wz) (ws:=ws) (xs:=xs) (y:=y) lI sx ll hx hy Dz h1 hm;refine' eN func168;(repeat' first|refine' wb|(refine' oX;(first|exact jL|exact jB (g:=wG y)|exact cD [] hc);exact kq)|refine xU [9] rfl ?_|refine' sN<;>intro h|fail);all_goals(try(exfalso;have hh:=aU h;first|omega|(simp only[iK,bu,bH]at hh;omega)))
 all_goals(try(exfalso;have hh:=aX h;first|omega|(simp only[iK,bu,bH]at hh;omega)))
 refine' rB;all_goals rfl
def kL(X:Nat):(iG (iF X)).length=(iF X).length:=iK _
variable{X:Nat}
def jl(h:X≠0):1<=(iG (iF X)).length:=by
 rw[kL];cases hd:iF X with
 |nil=>exact absurd (Mu hd) h|cons a l=>simp
def Sw(h:(iG (iF X)).length=1):X<WB∧iF X=[X]:=by
 rw[kL]at h;obtain⟨d,hd⟩:∃d,iF X=[d]:=by
  match hx:iF X,h with
  |[d],_=>exact⟨d,rfl⟩
 have:=jm X;rw[hd]at this;simp[val]at this;subst this;exact⟨by have:=ji d;rw[hd]at this;exact this d aa,hd⟩
variable{Y:Nat}
def Yk(hX:X≠0)(hY:Y≠0)(sC:(iG (iF Y)).length<=(iG (iF X)).length)(hm:(iG (iF X)).length<=30):
  al 168 [.iM,.any,av (iG (iF X)),av (iG (iF Y))] ⟨[],[],[]⟩ (.vw 0 0 0 (iF (X*Y)).length ((iG (iF X)).length+(iG (iF Y)).length+4)) ⟨[],[],[AR 0 (iH (List.replicate ((iG (iF X)).length+(iG (iF Y)).length+4) 0) 0 (iQ ((iG (iF X)).length+(iG (iF Y)).length) (X*Y)))]⟩:=by
 have hX1:=jl hX;have IA:=jl hY;by_cases jE:(iG (iF Y)).length=1
 ·obtain⟨IB,hyd⟩:=Sw jE;have hc:=Sv (xs:=iF X) (y:=Y) (ji X) IB hY hX1 ab;rw[jm]at hc;rw[jE,hyd];rw[hyd]at sC IA jE;generalize iF X=xs at *
  generalize iF (X*Y)=zs at *
  refine' eN func168;(repeat' first|refine' wb|(refine' oX;(first|exact jB (g:=wG Y)|exact cD [true] hc);exact kq)|refine xU [9] rfl ?_|refine' sN<;>intro h|fail);all_goals(try(exfalso;have hh:=aU h;first|omega|(simp only[iK,bu,bH]at hh;omega)))
  all_goals(try(exfalso;have hh:=aX h;first|omega|(simp only[iK,bu,bH]at hh;omega)))
  refine' rB;all_goals rfl
 ·have hXo:=ji X;have hYo:=ji Y;have hXl:=kL X;have hYl:=kL Y;have hvX:=jm X;have hvY:=jm Y;have aej:=oD hXo hYo;rw[hvX,hvY,<-hXl,<-hYl]at aej;have hb:=Qh (g:=0) (cap:=(iG (iF X)).length+(iG (iF Y)).length+4) (ws:=List.replicate ((iG (iF X)).length+(iG (iF Y)).length+4) 0) (xs:=iF X) (ys:=iF Y) (oB _) hXo hYo (by rw[cS];omega) ab ab hX1;rw[hvX,hvY]at hb;have p8:=iN ((iG (iF X)).length+(iG (iF Y)).length) (X*Y);have hn:=mH (g:=0) (o:=0) (n:=(iG (iF X)).length+(iG (iF Y)).length) (cap:=(iG (iF X)).length+(iG (iF Y)).length+4) (ws:=iH (List.replicate ((iG (iF X)).length+(iG (iF Y)).length+4) 0) 0 (iQ ((iG (iF X)).length+(iG (iF Y)).length) (X*Y))) (l:=iQ ((iG (iF X)).length+(iG (iF Y)).length) (X*Y)) (sK p8) (by rw[iX (by rw[cS];omega),cS];omega) ab ai;rw[mf aej]at hn;have mq:=qQ (n:=(iG (iF X)).length+(iG (iF Y)).length) ab ab;rw[show lN ((iG (iF X)).length+(iG (iF Y)).length)=(iG (iF X)).length+(iG (iF Y)).length+4 from by unfold lN;rw[aV ab]]at mq;have lC:i64.wrap (((iG (iF X)).length:Int)+((iG (iF Y)).length:Int))=(((iG (iF X)).length+(iG (iF Y)).length:Nat):Int):=by rw[jD ab];omega
  rw[<-lC]at mq;have Lo:=rJ (p:= av (iG (iF X)));have Lp:=rJ (p:= av (iG (iF Y)));generalize iF X=xs at *
  generalize iF Y=ys,iF (X*Y)=zs at *
  refine' eN func168;(repeat' first|refine' wb|refine xU [9] rfl ?_|refine' sN<;>intro h|fail);all_goals(try(exfalso;have hh:=aU h;first|omega|(simp only[iK,bu,bH]at hh;omega)))
  try clear h
  (repeat' first|refine' wb|(refine' oX;(first|exact cB [true] Lo|exact cB [true] Lp|exact cD [true] mq|exact xa rfl (AG rfl) rfl rfl|exact cD [] hb|exact cD [] hn);exact kq)|refine xU [15] rfl ?_|refine' sN<;>intro h|fail);all_goals(try(exfalso;have hh:=aX h;first|omega|(simp only[iK,bu,bH]at hh;omega)))
  refine' rB;all_goals rfl
def Ah(X Y:Nat):List Nat:=iH (List.replicate ((iG (iF X)).length+(iG (iF Y)).length+4) 0) 0 (iQ ((iG (iF X)).length+(iG (iF Y)).length) (X*Y))
def Sx(X Y:Nat):Ah X Y=Ah Y X:=by unfold Ah;rw[eK (iG (iF X)).length,bG X]
def Sy(X Y:Nat):(Ah X Y).take (iF (X*Y)).length=iF (X*Y):=by unfold Ah;have hp:=oD (ji X) (ji Y);rw[jm,jm,<-kL X,<-kL Y]at hp;have p8:=iN ((iG (iF X)).length+(iG (iF Y)).length) (X*Y);have hl:=iU hp;rw[jW,cV ab];exact AO hp
def ajU(hX:X≠0)(hY:Y≠0)(hm:(iG (iF X)).length<=30)(xJ:(iG (iF Y)).length<=30):
  al 168 [.iM,.any,av (iG (iF X)),av (iG (iF Y))] ⟨[],[],[]⟩ (.vw 0 0 0 (iF (X*Y)).length ((iG (iF X)).length+(iG (iF Y)).length+4)) ⟨[],[],[AR 0 (Ah X Y)]⟩:=by
 by_cases sC:(iG (iF Y)).length<=(iG (iF X)).length;exact Yk hX hY sC hm
 ·have hc:=Yk hY hX ab xJ;rw[show iH (List.replicate ((iG (iF Y)).length+(iG (iF X)).length+4) 0) 0 (iQ ((iG (iF Y)).length+(iG (iF X)).length) (Y*X))=Ah X Y from Sx Y X,bG Y X,eK (iG (iF Y)).length]at hc;generalize Ah X Y=pw at *
  generalize iF X=xs,iF Y=ys,iF (X*Y)=zs at *
  refine' eN func168;(try refine' uD);refine' sQ<;>intro h
  ·(repeat first|refine' uD|(refine' oX;exact cD [true] hc;exact kq));refine' rB;all_goals rfl
  exfalso;have hh:=aX h;omega
def ajV(h0:X=0∨Y=0):ak 168 [.iM,.any,av (iG (iF X)),av (iG (iF Y))] .iM:=by
 have key:∀ys xs:List Nat,(iG xs).length=0∨(iG ys).length=0->(iG ys).length<=(iG xs).length->ak 168 [.iM,.any,av (iG xs),av (iG ys)] .iM:=by
  intro ys xs h0 hle;refine' eN func168;(repeat' first|refine' wb|(refine' oX;exact qh rfl (EL rfl) (SZ rfl) rfl rfl rfl rfl rfl;exact kq)|refine xU [7] rfl ?_|refine' sN<;>intro h|fail);all_goals(try(exfalso;have hh:=aU h;omega))
  all_goals(first|(refine' rB;all_goals rfl)|(exfalso;simp only[bk,fV,cP]at *;omega))
 have hx:(iG (iF X)).length=0∨(iG (iF Y)).length=0:=by
  rcases h0 with h0|h0<;>subst h0
  left;rw[jg];rfl;right;rw[jg];rfl
 by_cases sC:(iG (iF Y)).length<=(iG (iF X)).length;exact key (iF Y) (iF X) hx sC
 ·have hc:=key (iF X) (iF Y) ab ab;generalize iF X=xs at *
  generalize iF Y=ys at *
  refine' eN func168;(try refine' uD);refine' sQ<;>intro h
  ·(repeat first|refine' uD|(refine' oX;exact cB [true,true] hc;exact kq));refine' rB;all_goals rfl
  exfalso;have hh:=aX h;omega
def lD(z:Int):List PV:=[ax (decide (z<0)),av (iG (iF z.natAbs))]
def acy(h1:z<0)(h2: -9223372036854775808<=z):u64.wrap (0-u64.wrap z)=(z.natAbs:Int):=by
 have h3:u64.wrap z=18446744073709551616+z:=by simp only[IntKind.wrap,IntKind.signed,IntKind.bits,dN,dB,en];omega
 rw[h3];simp only[IntKind.wrap,IntKind.signed,IntKind.bits,dN,dB,en];omega
def acz(h1:0<z)(h2:z<9223372036854775808):u64.wrap z=(z.natAbs:Int):=by simp only[IntKind.wrap,IntKind.signed,IntKind.bits,dN,dB,en];omega
def s9(h1: -9223372036854775808<=z)(h2:z<9223372036854775808):al 93 [aq z] ⟨[],[],[]⟩ (.ptr 0 0) ⟨[lD z],[],[]⟩:=by
 rcases eZ z 0 with hz|hz|hz
 ·have hd:iG (iF z.natAbs)=[.int .u64 (z.natAbs:Int)]:=by rw[jC ab aL];rfl
  have hw:=acy hz h1;have hb:decide (z<0)=true:=bU hz;unfold lD;rw[hd,<-hw];refine' eN func93;(repeat' first|refine' uN|refine' sN<;>intro h|fail);all_goals(try(rename_i hf;exact absurd (hb.symm.trans hf) af))
  all_goals(try(exfalso;have hh:=aX h;omega))
  all_goals(try(exfalso;have hh:=bQ.1 h;omega))
  all_goals(try refine' rP)
  all_goals(try rfl)
 ·subst hz;have BR:iF (0:Int).natAbs=[]:=jg;refine PC.post (H1:=⟨[[ax false,.iM]],[],[]⟩) ?_ (show kW _ _ ⟨[lD 0],[],[]⟩from by unfold lD;rw[BR];exact kW.DR);refine' eN func93;(repeat' first|refine' uN|refine' sN<;>intro h|fail);all_goals(try refine' rP)
  all_goals(try rfl)
 ·have hd:iG (iF z.natAbs)=[.int .u64 (z.natAbs:Int)]:=by rw[jC ab aL];rfl
  have hw:=acz hz h2;have hb:decide (z<0)=false:=bA ab;unfold lD;rw[hd,<-hw];refine' eN func93;(repeat' first|refine' uN|refine' sN<;>intro h|fail);all_goals(try(rename_i hf;exact absurd (hb.symm.trans hf) af))
  all_goals(try(exfalso;have hh:=aU h;omega))
  all_goals(try(exfalso;have hh:=bQ.1 h;omega))
  all_goals(try refine' rP)
  all_goals(try rfl)
def mi(a b:Int):Int:=if a<b then -1 else if b<a then 1 else 0
def s8:∀{xs ys:List Nat} {i a b:Nat},okW xs->okW ys->xs.length=ys.length->xs[i]?=some a->ys[i]?=some b->xs.drop (i+1)=ys.drop (i+1)->a<b->val xs<val ys
 |[],_,_,_,_,_,_,_,h,_,_,_=>by simp at h|_::_,[],_,_,_,_,_,_,_,h,_,_=>by simp at h|x::xs,y::ys,0,a,b,hx,hy,hl,ha,hb,hd,h=>by simp only[gi,cg]at ha hb;subst ha hb;simp only[List.drop_succ_cons,dz]at hd;subst hd;simp only[kK];omega
 |x::xs,y::ys,i+1,a,b,hx,hy,hl,ha,hb,hd,h=>by obtain⟨kf,BL⟩:=iS.1 hx;obtain⟨pD,OC⟩:=iS.1 hy;have ih:=s8 (i:=i) (a:=a) (b:=b) BL OC (by simpa using hl) (by simpa using ha) (by simpa using hb) (by simpa using hd) h;simp only[kK];have:=ch WB (Nat.succ_le_of_lt ih);rw[Nat.mul_succ]at this;omega
def vp{X Y:Nat}(h:(iF X).length<(iF Y).length):X<Y:=by have h1:=lP (ji X);rw[jm]at h1;by_cases hc:Y<WB^(iF X).length;have:=iU hc;omega;omega
def rK(hX:(iF X).length<=100000)(hY:(iF Y).length<=100000):ak 134 [av (iG (iF X)),av (iG (iF Y))] (aq (mi X Y)):=by
  have hvX:=jm X;have hvY:=jm Y;have hoX:=ji X;have hoY:=ji Y;have ahR:= @vp X Y;have qC:= @vp Y X;have BG:= @aca X Y;have hlX:(iG (iF X)).length=(iF X).length:=iK _;have hlY:(iG (iF Y)).length=(iF Y).length:=iK _;generalize iF X=xs at *
  generalize iF Y=ys at *
  by_cases hlen:xs.length=ys.length
  · by_cases h0:xs.length=0
    · have sJ:xs=[]:=df h0
      have Dz:ys=[]:=df ab
      subst sJ Dz
      have:X=Y:=BG rfl
      subst this
      refine' eN func134
      (repeat' first|refine' uD|refine' sN<;>intro h|fail)
      all_goals(refine' rT)
      all_goals(simp[mi])
    · have pI:i64.wrap (((iG xs).length:Int)-1)=((xs.length-1:Nat):Int):=by rw[jD ab];omega
      have js:((iG xs).length:Int)=((iG ys).length:Int):=ab
      have kill:((((iG xs).length:Int) !=((iG ys).length:Int))=true)->False:=λh=>by simp[js]at h
      have ajW:((((iG xs).length:Int)==0)=true)->False:=λh=>by have hh:=bQ.1 h;omega
      refine' eN func134
      (repeat' first|refine' wb|refine xU [8] rfl ?_|refine' sN<;>intro h|fail)
      all_goals(try(exact(kill (by assumption)).elim))
      all_goals(try(exact(ajW (by assumption)).elim))
      clear h
      (try refine' uD)
      refine jf (S:=Nat) (λi=>iL [(0,av (iG xs)),(1,av (iG ys)),(4,aq 0),(7,aq i)]) (λi=>⟨[],[],[]⟩) (λi=>i<xs.length∧xs.drop (i+1)=ys.drop (i+1)) (λi=>i) (xs.length-1) ⟨by omega,by rw[dH ab,dH ab]⟩
        (iE.le ?_) (kW.of_eq ?_) (λi hi=>?_)
      · exact(aB ⟨.inl (aT aq pI),trivial⟩)
      · rfl
      obtain⟨hi,hz⟩:=hi
      have nk:xs[i]?=some (xs[i]'(by omega)):=aS ab
      have pF:ys[i]?=some (ys[i]'(by omega)):=aS ab
      generalize xs[i]'(by omega)=a at nk
      generalize ys[i]'(by omega)=b at pF
      have hga:(iG xs)[i]?=some (wG a):=iT nk
      have Lq:(iG ys)[i]?=some (wG b):=iT pF
      have AY:∀r:Int,(a<b->r= -1)->(b<a->r=1)->(a=b->i=0->r=0)->(a=b->i=0)->r=mi X Y:=by
        intro r e1 e2 e3 e4;unfold mi;rcases fF a b with lr|lr|lr
        · have:=s8 hoX hoY hlen nk pF hz lr
          rw[hvX,hvY]at this
          rw[e1 lr,aW ab]
        · have BF:=e4 lr
          subst BF
          subst lr
          have:xs=ys:=by
            cases xs with
            |nil=>simp at h0
            |cons u us=>cases ys with
              |nil=>simp at hlen
              |cons v vs=>
                simp only[gi,cg]at nk pF;simp only[bc,List.drop_succ_cons,dz]at hz;rw[nk,pF,hz]
          have:=BG this
          rw[e3 rfl rfl,aV ab,aV ab]
        · have:=s8 hoY hoX hlen.symm pF nk hz.symm lr
          rw[hvX,hvY]at this
          rw[e2 lr,aV ab,aW ab]
      cases i with
      |zero=>
        (repeat' first|refine' uD|(refine' oX;(first|exact jA (g:=wG a) (q:=aI hga)|exact jA (g:=wG b) (q:=aI Lq));exact kq)|refine' sN<;>intro h|fail);all_goals(refine' rT)
        all_goals(refine AY _ (λe=>?_) (λe=>?_) (λe _=>?_) (λ_=>rfl))
        all_goals(first|rfl|(exfalso;have hh:=aU h;omega)|(exfalso;have hh:=aX h;omega)|(exfalso;rename_i h1;have hh:=aU h;have hh1:=aX h1;omega)|(exfalso;rename_i h1;have hh:=aX h;have hh1:=aX h1;omega))
      |succ i=>
        (repeat' first|refine' wb|(refine' oX;(first|exact jA (g:=wG a) (q:=aI hga)|exact jA (g:=wG b) (q:=aI Lq));exact kq)|refine xU [10] rfl ?_|refine' sN<;>intro h|fail)
        · have lr:a=b:=by have hh:=bQ.1 h;omega
          have hs:i64.wrap (((i+1:Nat):Int)-1)=(i:Int):=by rw[jD ab];omega
          have e1:xs.drop (i+1)=a::xs.drop (i+1+1):=by rw[<-List.getElem_cons_drop ab];rw[aS ab]at nk;rw[cE nk]
          have e2:ys.drop (i+1)=b::ys.drop (i+1+1):=by rw[<-List.getElem_cons_drop ab];rw[aS ab]at pF;rw[cE pF]
          clear h
          (try refine' uD)
          refine⟨i,⟨by omega,by rw[e1,e2,lr,hz]⟩,by omega,iE.le ?_,kW.of_eq ?_⟩
          · exact(aB ⟨.inl (aT aq hs),trivial⟩)
          · rfl
        all_goals(try(exfalso;have hh:=aX (by assumption:decide (((i+1:Nat):Int)>0)=false);omega))
        all_goals have lr:a≠b:=λe=>by(have hf:((a:Int)==(b:Int))=false:=(by assumption));subst e;simp at hf
        all_goals(refine' rT)
        all_goals(refine AY _ (λe=>?_) (λe=>?_) (λe _=>absurd e lr) (λe=>absurd e lr))
        all_goals(first|rfl|(exfalso;have hh:=aU h;omega)|(exfalso;have hh:=aX h;omega)|(exfalso;rename_i h1;have hh:=aU h;have hh1:=aX h1;omega)|(exfalso;rename_i h1;have hh:=aX h;have hh1:=aX h1;omega))
  · have js:((iG xs).length:Int)≠((iG ys).length:Int):=ab
    have kill:((((iG xs).length:Int) !=((iG ys).length:Int))=false)->False:=λh=>by simp at h;omega
    refine' eN func134
    (repeat' first|refine' wb|refine xU [8] rfl ?_|refine' sN<;>intro h|fail)
    all_goals(try(exact(kill (by assumption)).elim))
    all_goals(refine' rT)
    · have hh:=aU h
      have:=ahR ab
      unfold mi
      rw[aW ab]
    · have hh:=aU h
      have:=qC ab
      unfold mi
      rw[aV ab,aW ab]
    · exfalso
      have hh:=aX h
      rename_i h1
      have hh1:=aX h1
      omega
def FV:al 182 [] ⟨[],[],[]⟩ (.ptr 0 0) ⟨[[.jx]],[],[]⟩:=by refine' eN func182;(try refine' uN);refine' rB;all_goals rfl
def ZA{k g:Nat}{ws:List Nat}:PCd Tryz.prog 183 [.ptr 0 0] ⟨[[.jx]],[],[.gone k,AR g ws]⟩ ⟨[[.jx]],[],[.gone k,AR g ws]⟩:=by refine AK func183 rfl rfl (rs:=_) (v:=.tuple []) rfl (bz aj) ?_;(repeat' first|refine' uN|refine oQ (Hs rfl underlying219 rfl rfl) ?_|refine' sN<;>intro h|fail);all_goals(refine' rB;all_goals rfl)
def ZB{x y:Int}(hx:0<=x)(hy:0<=y):mi x.natAbs y.natAbs=mi x y:=by rw[Int.natAbs_of_nonneg hx,Int.natAbs_of_nonneg hy]
def ZC{x y:Int}(hx:x<0)(hy:y<0):i64.wrap (0-mi x.natAbs y.natAbs)=mi x y:=by
 have h1:(x.natAbs:Int)= -x:=ab
 have h2:(y.natAbs:Int)= -y:=ab
 rw[h1,h2];unfold mi;rcases eZ x y with h|h|h
 rw[aV ab,aW ab,aW h];decide;rw[aV ab,aV ab,aV ab,aV ab];decide;rw[aW ab,aV ab,aW h];decide
def acA{x y:Int}(hx:x<0)(hy:0<=y):mi x y= -1:=by unfold mi;rw[aW ab]
def acB{x y:Int}(hx:0<=x)(hy:y<0):mi x y=1:=by unfold mi;rw[aV ab,aW ab]
def Lr{x y:Int}(hX:(iF x.natAbs).length<=100000)(hY:(iF y.natAbs).length<=100000):al 120 [.ptr 0 0,.ptr 1 0] ⟨[lD x,lD y],[],[]⟩ (aq (mi x y)) ⟨[lD x,lD y],[],[]⟩:=by
 have hc:=rK hX hY;unfold lD;generalize iF x.natAbs=xs at *
 generalize iF y.natAbs=ys at *
 refine' eN func120;(repeat' first|refine' uD|(refine' oX;(first|exact iV hc|exact Aa rfl underlying120 (SZ rfl) (.inl rfl) rfl rfl rfl rfl);exact kq)|refine' sN<;>intro h|fail);all_goals(refine' rB)
 all_goals(try rfl)
 all_goals(rename_i h1)
 ·have hx:=aU h;have hy:y<0:=by rw[h]at h1;simpa using h1
  exact aT aq (ZC hx hy)
 ·have hx:=aX h;have hy:0<=y:=by rw[h]at h1;simpa using h1
  exact aT aq (ZB ab hy)
 ·have hx:=aU h;have hy:0<=y:=by rw[h]at h1;simpa using h1
  exact aT aq (acA hx hy).symm
 ·have hx:=aX h;have hy:y<0:=by rw[h]at h1;simpa using h1
  exact aT aq (acB ab hy).symm
structure pH(ws:List Nat)(c X:Nat):Prop where
 ok:okW ws
 tk:ws.take (iF X).length=iF X
 le:(iF X).length<=c
 cw:c<=ws.length
 cm:c<=1000
 c1:1<=c
def pH.part(h:pH ws c X):(ws.drop 0).take (iF X).length=iF X:=by rw[dz,h.tk]
structure QX(ws:List Nat)(c:Nat):Prop where
 ok:okW ws
 cw:c<=ws.length
 cm:c<=1000
 c1:1<=c
def pH.room(h:pH ws c X):QX ws c:=⟨h.ok,h.cw,h.cm,h.c1⟩
def pH.zm(h:QX ws c)(hX:X<WB^k)(hk:k<=c):pH (iH ws 0 (iQ k X)) c X:=by have hl:=iN k X;have hd:=iU hX;have EC:=h.cw;exact{ok:=yk 0 h.ok (lJ k X),tk:=by rw[jW,cV ab];exact AO hX,le:=ab,cw:=by rw[iX ab];omega,cm:=h.cm,c1:=h.c1}
def QX.rep(h:1<=k)(hm:k<=1000):QX (List.replicate k 0) k:=⟨oB k,by simp,hm,h⟩
def acC{lz g:Nat}(hz:QX wz cz)(hx:pH ws c X)(hX:X≠0)(hm:(iF X).length<12):
  ∃g' Yl Ym,pH Yl Ym (X*X)∧al 167 [.vw 0 gz 0 lz cz,.any,.vw 1 g 0 (iF X).length c] ⟨[],[],[AR gz wz,AR g ws]⟩ (.vw 0 g' 0 (iF (X*X)).length Ym) ⟨[],[],[AR g' Yl,AR g ws]⟩:=by
 have h1:1<=(iF X).length:=by have:=jl hX;rwa[kL]at this
 have iI:X*X<WB^((iF X).length+(iF X).length):=by have:=oD (ji X) (ji X);rwa[jm]at this
 have EC:=hz.cw;have ud:=hz.cm;have hle:=hx.le;have rL:=hx.cw;have Uc:=hx.cm;by_cases hr:(iF X).length+(iF X).length<=cz;have hc:=agT (stk:=.any) (gz:=gz) (lz:=lz) (g:=g) hr ab EC hz.ok hx.part ab hle rL ab (ji X) h1 hm;rw[jm]at hc;exact⟨_,_,_,pH.zm hz iI hr,hc⟩;have hc:=acw (stk:=.any) (gz:=gz) (lz:=lz) (g:=g) (wz:=wz) ab hz.c1 ab EC hx.part ab hle rL ab (ji X) h1 hm;rw[jm]at hc;exact⟨_,_,_,pH.zm (QX.rep ab ab) iI ab,PC.adY (SZ rfl) (SZ rfl) hc⟩
def acD{g:Nat}(hx:pH ws c X)(hX:X≠0)(hm:(iF X).length<12):
  ∃Yl Ym,pH Yl Ym (X*X)∧al 167 [.iM,.any,.vw 0 g 0 (iF X).length c] ⟨[],[],[AR g ws]⟩ (.vw 1 0 0 (iF (X*X)).length Ym) ⟨[],[],[AR g ws,AR 0 Yl]⟩:=by
 have h1:1<=(iF X).length:=by have:=jl hX;rwa[kL]at this
 have iI:X*X<WB^((iF X).length+(iF X).length):=by have:=oD (ji X) (ji X);rwa[jm]at this
 have hle:=hx.le;have rL:=hx.cw;have Uc:=hx.cm;have hc:=acv (stk:=.any) (g:=g) hx.part ab hle rL ab (ji X) h1 hm;rw[jm]at hc;exact⟨_,_,pH.zm (QX.rep ab ab) iI ab,hc⟩
def Ud{lz g:Nat}(hz:QX wz cz)(hx:pH ws c X)(hX:X≠0)(hm:(iF X).length<=100)(hy:y<WB)(Dz:y≠0):
  ∃g' Yl Ym,pH Yl Ym (X*y)∧al 168 [.vw 0 gz 0 lz cz,.any,.vw 1 g 0 (iF X).length c,av (iG [y])] ⟨[],[],[AR gz wz,AR g ws]⟩ (.vw 0 g' 0 (iF (X*y)).length Ym) ⟨[],[],[AR g' Yl,AR g ws]⟩:=by
 have h1:1<=(iF X).length:=by have:=jl hX;rwa[kL]at this
 have iI:X*y<WB^((iF X).length+1):=by have:=oD (ji X) (iS.2 ⟨hy,ke⟩);rw[jm]at this;simpa[val]using this
 have EC:=hz.cw;have ud:=hz.cm;have hle:=hx.le;have rL:=hx.cw;have Uc:=hx.cm;by_cases hr:(iF X).length+1<=cz;have hc:=agU (gz:=gz) (lz:=lz) (g:=g) (c:=c) (wz:=wz) (ws:=ws) (cz:=cz) (y:=y) hx.part ab hr ab EC (ji X) hy Dz h1 ab;rw[jm]at hc;exact⟨_,_,_,pH.zm hz iI hr,hc⟩;have hc:=acx (gz:=gz) (lz:=lz) (g:=g) (c:=c) (wz:=wz) (ws:=ws) (cz:=cz) (y:=y) hx.part ab ab (ji X) hy Dz h1 ab;rw[jm]at hc;exact⟨_,_,_,pH.zm (QX.rep ab ab) iI ab,PC.adY (SZ rfl) (SZ rfl) hc⟩
end Go.Proofs.YtckjndkmmfmjjaaGreatDoor