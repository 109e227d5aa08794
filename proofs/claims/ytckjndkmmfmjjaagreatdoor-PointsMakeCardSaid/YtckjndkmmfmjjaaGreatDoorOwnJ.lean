/- Steps to pointsMake_card. -/
import Derived.Test.YtckjndkmmfmjjaaGreatDoorOwnH
set_option linter.all false
open Go.IntKind (i64 u64)
open Go.Proofs.Tryz
set_option maxRecDepth 100000
set_option maxHeartbeats 32000000
namespace Go.Proofs.YtckjndkmmfmjjaaGreatDoor
open Go Go.Pure
attribute [local irreducible] PW jQ ju PO PC lS
def Yt:nI Tryz.prog 190=true:=aj
variable{ws:List Nat}{j n:Nat}
def vt{zs:List Nat}(h:j+n<=zs.length):((iH ws 0 zs).drop j).take n=(zs.drop j).take n:=by rw[jW,gh ab,cV (by rw[eY];omega)]
variable{l w:List Nat}{i a:Nat}
def vX(h:(l.drop j).take n=w)(hi:i<n)(ha:w[i]?=some a):l[j+i]?=some a:=by rw[<-h,bq,aW hi,bD]at ha;exact ha
def afd{g:Nat}(h:1<=g)(hg:g<WB):u64.wrap ((g:Int)-1)=((g-1:Nat):Int):=by rw[show((g:Int)-1)=((g-1:Nat):Int) by omega];exact jz rfl ab
variable{v:Nat}
def VT{p:Nat}(hv:v<WB)(h:v<=p):(p-v)/WB=(if p%WB<v then p/WB-1 else p/WB)∧((p-v)%WB:Nat)=(p%WB+WB-v)%WB∧(p%WB<v->1<=p/WB):=by
 have e:=cT p WB;have hl:=bL p (show 0<WB by decide);generalize p%WB=a at *
 generalize p/WB=b at *
 subst e;unfold WB at *
 refine⟨?_,?_,?_⟩;split<;>omega;omega;intro _;omega
def ZO(ha:a<WB)(hv:v<WB):u64.wrap ((a:Int)-(v:Int))=((a+WB-v)%WB:Nat):=by
 simp only[IntKind.wrap,IntKind.signed,IntKind.bits,dN,dB,en];unfold WB at *
 omega
def Px:u64.wrap ((a:Int)+(v:Int))=((a+v)%WB:Nat):=by rw[<-gV,GB]
variable{y:Nat}
def Ly{x:Nat}(hx:x<WB)(hy:y<WB):sM [x,y] [0,0] 0=[x,y]∧sn [x,y] [0,0] 0=0:=by simp only[sM,sn,Nat.not_lt_zero,en,b9,gD,ie,bn hx,bn hy,and_self]
def Lz(h:(l.drop j).take n=w)(hn:w.length=n):iH l j w=l:=by unfold iH;rw[hn,<-h,<-gr,bV,cA,cA]
def E4{a b:List Nat}(h:a.length=b.length)(hj:j+a.length<=l.length):iH (iH l j a) j b=iH l j b:=by
 have h1:=iX hj;have h2:(iH l j a).take j=l.take j:=by unfold iH;rw[bV,cV (by rw[bW];omega),List.take_take,Nat.min_self]
 have h3:(iH l j a).drop (j+b.length)=l.drop (j+b.length):=by refine eE λi=>?_;rw[bD,bD,oi ab]
 show(iH l j a).take j++b++(iH l j a).drop (j+b.length)=l.take j++b++l.drop (j+b.length);rw[h2,h3]
variable{D V:Nat}
def step_mod{x:Nat}:(x+WB*D)%V=(x+WB*(D%V))%V:=by rw[Nat.add_mod x (WB*D),Nat.mul_mod WB D,Nat.add_mod x (WB*(D%V)),Nat.mul_mod WB (D%V),Nat.mod_mod]
variable{k:Nat}
def acS(hk:k<=n)(hn:n<=ws.length)(hi:i<n):∃z,(Jp D ws l n k)[i]?=some z:=by have:=Sl (D:=D) (l:=l) hk hn;exact⟨_,aS ab⟩
def NF{gq cq gu cu gv cv m v0 v1 tp:Nat}{wq wu wv U:List Nat}(hU:wu.take (m+2)=U)(hwu:m+2<=wu.length)(hwo:okW wu)(hcu:m+2<=cu)(hv:wv.take 2=[v0,v1])(hwv:2<=wv.length)(ox:v0<WB)(lI:v1<WB)(aa5:WB<=2*v1)(ht:U[m+1]?=some tp)(htv:tp<v1)(hq:m<=wq.length)(hm:m<=1000):
  al 223 [.vw 0 gq 0 m cq,.ptr 0 0,.vw 1 gu 0 (m+2) cu,.vw 2 gv 0 2 cv] ⟨[[.jx]],[],[AR gq wq,AR gu wu,AR gv wv]⟩ (.tuple []) ⟨[[.jx]],[],[AR gq (iH wq 0 (iQ m (val U/(v0+WB*v1)))),AR gu (iH wu 0 (iQ (m+2) (val U%(v0+WB*v1)))),AR gv wv]⟩:=by
 have Od:1<=v1:=by unfold WB at aa5;omega
 have afe:v1≠0:=ab
 obtain⟨V,Nw⟩:∃V,V=v0+WB*v1:=⟨_,rfl⟩;have EV:0<V:=by rw[Nw];exact bX (fD af Od) (Nat.le_add_left _ _)
 have hVW:V<WB*WB:=by have:WB*(v1+1)<=WB*WB:=ch _ lI;rw[cn,cU]at this;omega
 have hV2:v1*WB+v0=V:=by rw[Nw,bG,eK]
 rw[<-Nw];have QZ:U.length=m+2:=by rw[<-hU,bW];omega
 have Py:okW U:=by rw[<-hU];exact hwo.take _
 have hvo:okW [v0,v1]:=iS.2 ⟨ox,iS.2 ⟨lI,ke⟩⟩;have MY:(wv.drop 0).take 2=[v0,v1]:=by rw[dz];exact hv
 have aiM:(iG wv)[0+0]?=some (wG v0):=iT (vX MY af rfl);have amc:(iG wv)[0+1]?=some (wG v1):=iT (vX (i:=1) MY af rfl);have aaY:=Pv afe lI;have Br:uB V U m=U:=by have:=Zt (D:=V) Py ab (by rw[QZ,gC];have Yu:U[m]?=some (U[m]'(by omega)):=aS ab;rw[qk Yu,qk ht,dH ab,mQ,dZ,b9];have h1:=Py.at Yu;have h2:WB*(tp+1)<=WB*v1:=ch _ htv;rw[cn,cU]at h2;omega);rwa[QZ,gC]at this
 have uo:iH wu 0 U=wu:=by refine Lz (n:=m+2) ?_ QZ;rw[dz];exact hU
 have Uf:=Uh;have vO:= @D6 3 af af;have xJ:i64.wrap (((m+2:Nat):Int)-2)=((m:Nat):Int):=by rw[jD ab];omega
 refine qO func223 rfl rfl (rs:=_) rfl (bz aj) ?_;repeat((repeat refine tz ?_);first|refine ot rfl ?_|refine pb rfl ?_|refine sR ?_|(refine qt ?_;(repeat first|refine' uD|(refine' oX;exact jL;exact kq));refine Or.inl (And.intro rfl ?_)))
 refine tz ?_;refine C5 (l:=[_,_,_]) rfl rfl rfl (by intro t h;cases h) ?_;(try refine' wh @Uf);refine⟨_,rfl,?_⟩;refine qt ?_;refine ja (env':=iL [(0,.vw 0 gq 0 m cq),(1,.ptr 0 0),(2,.vw 1 gu 0 (m+2) cu),(3,.vw 2 gv 0 2 cv),(8,aq 2),(9,aq m)]) (H':=⟨[[.jx]],[],[AR gq wq,AR gu wu,AR gv wv]⟩) (iE.le (aD ⟨.inl (aT aq xJ),trivial⟩)) aJ ?_;refine uw ?_;refine pY (l1:=[_,_,_]) (l2:=[_]) rfl (λt h=>by cases h;decide) ?_;(try refine' uD);refine⟨_,xi [] rfl rfl Yt rfl (K2 vO [0] [] [] rfl rfl rfl rfl rfl),?_⟩;rintro v H' ⟨v0',H0,⟨C,c1,c2,rfl,rfl⟩,rfl,rfl⟩;(repeat first|refine' uD|(refine' oX;(first|exact jV 1 (z:=by exact show i64.wrap (2-1)=((1:Nat):Int) by decide)|exact jM (q:=aI amc)|exact iV aaY);exact kq));clear aaY Uf vO;refine jf (S:=Nat×List Nat) (λq=>iL [(0,.vw 0 gq 0 m cq),(2,.vw 1 gu 0 (m+2) cu),(3,.vw 2 gv 0 2 cv),(8,aq 2),(9,aq m),(10,.vw 3 0 0 3 C),(11,.g (wG v1)),(12,.g (wG (yK v1))),(13,.g (wG (if q.1=m+1 then 0 else val (U.drop q.1)%V/WB))),(14,aq ((q.1:Int)-1))]) (λq=>⟨[[.jx]],[],[AR gq (Jp V wq U m (min q.1 m)),AR gu (iH wu 0 (uB V U (min q.1 m))),AR gv wv,AR 0 q.2]⟩) (λq=>q.1<=m+1∧q.2.length=C) (λq=>q.1) (m+1,Ys C) ⟨aZ _,IC C⟩
  (iE.le (aH ⟨.inl (aT PV.g (by rw[aW rfl];rfl)),.inl (aT aq (by show(m:Int)=((m+1:Nat):Int)-1;omega)),trivial⟩)) (kW.of_eq (by rw[Nat.min_eq_right (fc m),EU,Br,uo];rfl)) (λq hq=>?_)
 obtain⟨k,T⟩:=q;obtain⟨hk,hT⟩:=hq;dsimp only at hk hT;have zd:val [v0,v1]=V:=by rw[val_two,Nw]
 have AY:∀g,g<WB->(iH T 0 (iO [v0,v1] g 0)).set (0+2) (iW [v0,v1] g 0)=iH T 0 (iQ 3 (g*V)):=by intro g hg;have h1:=kx (ws:=T) (us:=iO [v0,v1] g 0) (off:=0) (n:=2) (w:=iW [v0,v1] g 0) (by rw[jh];rfl) ab;rw[h1,yL hvo hg,zd,bG];rfl
 have hz:∀g,∃z,(iG (iH T 0 (iO [v0,v1] g 0)))[0+2]?=some (wG z):=by intro g;have hl:(iH T 0 (iO [v0,v1] g 0)).length=T.length:=iX (by rw[jh];show 0+2<=_;omega);exact⟨_,iT (aS ab)⟩
 cases k with
 |zero=>
  refine ja (env':=iL [(14,aq (-1))]) (H':=⟨[[.jx]],[],[AR gq (iH wq 0 (iQ m (val U/V))),AR gu (iH wu 0 (iQ (m+2) (val U%V))),AR gv wv,AR 0 T]⟩) (iE.le ⟨.inl rfl,trivial⟩) (kW.of_eq (by dsimp only;rw[Nat.zero_min,Zr,ack EV hVW ab,QZ])) ?_;have hr:= @ND gq gu gv 0 (iH wq 0 (iQ m (val U/V))) (iH wu 0 (iQ (m+2) (val U%V))) wv T;clear AY hz Br uo;generalize iH wq 0 (iQ m (val U/V))=Q at *
  generalize iH wu 0 (iQ (m+2) (val U%V))=W at *
  (try refine' uD);refine Or.inl (And.intro rfl ⟨_,EN rfl,hr,?_⟩);refine' rB;all_goals rfl
 |succ j=>
  by_cases hjm:j=m
  ·subst hjm;have Yu:U[j]?=some (U[j]'(by omega)):=aS ab;obtain⟨x,kf⟩:∃x,x=U[j]'(by omega):=⟨_,rfl⟩;rw[<-kf]at Yu;have rL:=Py.at Yu;have htw:=Py.at ht;have hwU:∀i a,i<j+2->U[i]?=some a->wu[i]?=some a:=λi a hi h=>(by rw[<-hU,bq,aW hi]at h;exact h);have x8:(iG wu)[0+j]?=some (wG x):=iT (by rw[bc];exact hwU j x ab Yu);have BN:(iG wu)[0+(j+1)]?=some (wG tp):=iT (by rw[bc];exact hwU (j+1) tp ab ht);have VU:(wu.drop j).take 2=[x,tp]:=by
    refine eE λi=>?_;rw[bq];match i with
    |0=>rw[aW af,bD,b9,hwU j x ab Yu];rfl|1=>rw[aW af,bD,hwU (j+1) tp ab ht];rfl|i+2=>rw[aV ab];rfl
   have hdiv:=HF (x1:=0) (x0:=tp) afe lI Od htw;rw[gO,bc,cZ htv,bn htv]at hdiv;have Pq:=zS (x:=0) (y:=v0) af ox;rw[gO,Nat.zero_div,Nat.zero_mod]at Pq;have oJ:=ID (a:=0) (b:=0) (c:=tp) (d:=x) af rL;rw[show decide (tp*WB+x<0*WB+0)=false by simp]at oJ;have hmul:=tQ (g:=0) (o:=0) (n:=2) (cap:=C) (g1:=gv) (o1:=0) (c1:=cv) (ws:=T) (y:=0) (r:=0) MY hvo rfl af af af ab;obtain⟨z,tR⟩:=hz 0;have nP:=AY 0 af;rw[gO]at nP;obtain⟨c0,xG⟩:∃c,c=iW [v0,v1] 0 0:=⟨_,rfl⟩;rw[<-xG]at hmul nP;have hT3:((iH T 0 (iQ 3 0)).drop 0).take 3=[0,0,0]:=(by rw[vt af];rfl);have Yv:((iH T 0 (iQ 3 0)).drop 0).take 2=[0,0]:=(by rw[vt af];rfl);have hTl:(iH T 0 (iQ 3 0)).length=C:=(by rw[iX (by rw[iN];omega),hT]);have amd:(iG (iH T 0 (iQ 3 0)))[0+2]?=some (wG 0):=iT (vX hT3 af rfl);have pI:=HG (g:=gu) (o:=j) (n:=2) (cap:=cu-j) (cap':=cu-j) (g1:=0) (o1:=0) (c1:=C) (ws:=wu) (xs:=[x,tp]) (ys:=[0,0]) (ws1:=iH T 0 (iQ 3 0)) Yv hwo VU (iS.2 ⟨by decide,iS.2 ⟨by decide,ke⟩⟩) rfl ai ab;rw[(Ly rL htw).1,(Ly rL htw).2,Lz VU rfl]at pI;have htp:val (U.drop j)%V/WB=tp:=(by have h1:val (U.drop j)=x+WB*tp:=(by rw[qk Yu,qk ht,dH ab,mQ,dZ,b9]);have h2:x+WB*tp<V:=(by have h2:WB*(tp+1)<=WB*v1:=ch _ htv;rw[cn,cU]at h2;omega);rw[h1,bn h2,cL _ _ af,cZ rL,bc]);have Oy:i64.wrap ((j:Int)+i64.wrap (((3:Nat):Int)-1))=((j+2:Nat):Int):=(by rw[show i64.wrap (((3:Nat):Int)-1)=2 by decide,jD ab];omega);have pS:i64.wrap (i64.wrap ((j:Int)+2)-1)=((j+1:Nat):Int):=(by rw[jD (n:=(j:Int)+2) ab,jD ab];omega);have QJ:i64.wrap (i64.wrap ((j:Int)+2)-2)=((j:Nat):Int):=(by rw[jD (n:=(j:Int)+2) ab,jD ab];omega);have Ez:((((0:Nat):Int)) !=(v1:Int))=true:=dO.2 ab;refine ja (env':=iL [(0,.vw 0 gq 0 j cq),(2,.vw 1 gu 0 (j+2) cu),(3,.vw 2 gv 0 2 cv),(8,aq 2),(9,aq j),(10,.vw 3 0 0 3 C),(11,.g (wG v1)),(12,.g (wG (yK v1))),(13,.g (wG 0)),(14,aq j)]) (H':=⟨[[.jx]],[],[AR gq wq,AR gu wu,AR gv wv,AR 0 T]⟩) (iE.le (aH ⟨.inl (aT PV.g (by dsimp only;rw[aW rfl])),.inl (aT aq ah),trivial⟩)) (kW.of_eq (by dsimp only;rw[Nat.min_eq_right (fc j),EU,Br,uo])) ?_;clear AY hz Py VU hT3 Yv hwU;generalize iH T 0 (iQ 3 0)=T2 at *
   (try refine' uD);refine' sQ<;>intro h
   ·clear h;(repeat first|refine' uD|(refine' oX;(first|exact jV (j+1) (z:=by exact pS)|exact jM (q:=aI BN)|exact iV hdiv|exact jV 0 (z:=by exact show i64.wrap (2-2)=((0:Nat):Int) by decide)|exact jM (q:=aI aiM)|exact iV Pq|exact jV j (z:=by exact QJ)|exact jM (q:=aI x8));exact kq));refine DJ ?_;(repeat first|refine' uD|(refine' oX;(first|exact iV oJ|exact qi 2 rfl (EL rfl) (SZ rfl) rfl rfl rfl rfl rfl (by omega)|exact ct [] rfl rfl uS (hmul) rfl rfl rfl rfl rfl rfl rfl rfl rfl rfl rfl|exact jV 2|exact jI (iP rfl (SZ rfl) rfl rfl rfl rfl af rfl tR (aZ _)) (aT (λl=>(⟨[[.jx]],[],[AR gq wq,AR gu wu,AR gv wv,MO.arr 0 WT l]⟩:PH)) (jo.trans (aT iG nP)))|exact jL);exact kq));refine' sQ<;>intro h;clear h;(repeat first|refine' uD|(refine' oX;(first|exact jV 2|exact jM (q:=aI amd)|exact kg (N5 j (j+2) rfl (EL rfl) (SZ rfl) rfl rfl rfl rfl Oy ab ab ab) (show _=PV.vw 1 gu j 2 (cu-j) by rw[bc,ew])|exact qi 2 rfl (EL rfl) (SZ rfl) rfl rfl rfl rfl rfl (by omega)|exact ct [] rfl rfl Lv (pI) rfl rfl rfl rfl rfl rfl rfl rfl rfl rfl rfl|exact jV (j+1) (z:=by exact pS)|exact jM (q:=aI BN)|exact jL);exact kq));have hjj:((j:Int)==(j:Int))=true:=beq_self_eq_true _;refine' sQ<;>intro h;clear h;(repeat first|refine' uD|(refine' oX;exact jL;exact kq));refine' sQ<;>intro h;clear h;(try refine' uD);exact⟨(j,T2),⟨by omega,hTl⟩,by dsimp only;omega,iE.le (aH ⟨.inl (aT PV.g (by dsimp only;rw[aV ab,htp])),.inl (aT aq (jD ab)),trivial⟩),kW.of_eq (by dsimp only;rw[Nat.min_self,EU,Br,uo])⟩;exfalso;rw[hjj]at h;cases h;exfalso;rw[hjj]at h;cases h;exfalso;have h1:=aX h;rw[jD ab]at h1;omega
   exfalso;rw[Ez]at h;cases h
  ·have iI:j<m:=ab
   have hUj:U[j]?=some (U[j]'(by omega)):=aS ab;obtain⟨x,kf⟩:∃x,x=U[j]'(by omega):=⟨_,rfl⟩;rw[<-kf]at hUj;have rL:=Py.at hUj;obtain⟨R,Nv⟩:∃R,R=val (U.drop (j+1))%V:=⟨_,rfl⟩;have hR:R<V:=(by rw[Nv];exact bL _ EV);have hRW:R<WB*WB:=dU hR hVW;have hBl:=K9 (D:=V) (k:=j+1) (l:=U) ab;have F6:((iH wu 0 (uB V U (j+1))).drop j).take 3=[x,R%WB,R/WB]:=(by rw[vt ab,acj hUj ab,<-Nv,Qf hRW]);have hRn:val (U.drop j)%V=(x+WB*R)%V:=(by rw[qk hUj,Nv];exact step_mod);have ame:(x+WB*R)%V<V:=bL _ EV;obtain⟨G,Nx⟩:∃G,G=(x+WB*R)/V:=⟨_,rfl⟩;have Yh:G<WB:=(by rw[Nx];exact x7 rL hR);have VW:=Zs (n:=m) (ws:=wq) EV rL hUj iI hq;rw[<-Nv,<-Nx]at VW;obtain⟨zq,hzq⟩:=acS (D:=V) (ws:=wq) (l:=U) (n:=m) (k:=j+1) ab hq (i:=j) iI;have hgq:(iG (Jp V wq U m (j+1)))[0+j]?=some (wG zq):=iT (by rw[bc];exact hzq);have aa6:=aci EV hVW hUj ab;rw[<-Nv]at aa6;have RB:iH (iH wu 0 (uB V U (j+1))) j (iQ 3 ((x+WB*R)%V))=iH wu 0 (uB V U j):=(by rw[Gx (by rw[iN];omega),aa6]);have hgN:(iG (iH wu 0 (uB V U j)))[0+(j+1)]?=some (wG ((x+WB*R)%V/WB)):=(by have h1:((iH wu 0 (uB V U j)).drop j).take 3=iQ 3 ((x+WB*R)%V):=(by rw[<-RB];have h2:=EI (ws:=iH wu 0 (uB V U (j+1))) (us:=iQ 3 ((x+WB*R)%V)) (off:=j) (by rw[iN,iX ab];omega);rwa[iN]at h2);have h3:=vX (i:=1) (a:=(x+WB*R)%V/WB%WB) h1 af rfl;rw[bc];rw[bn ((bK af).2 (dU ame hVW))]at h3;exact iT h3);have hWo:okW (iH wu 0 (uB V U (j+1))):=HD hwo (ajM Py);have Ui:(iH wu 0 (uB V U (j+1))).length=wu.length:=iX ab;have hR0:R%WB<WB:=bL _ af;have hR1:R/WB<WB:=(bK af).2 hRW;have amf:R/WB<=v1:=(by refine gJ ((bK af).2 ?_);rw[Nat.succ_mul,bG v1];omega);have mK:=VC rL hR hVW Nx;have hov:=λh=>Sm Nw ox lI rL hR h Nx;have zD:=λh=>VB Nw ox aa5 hR rL h;have hRe:=cT R WB;have amg:R/WB*WB+R%WB=R:=(by rw[bG,eK];exact hRe);have Yw:∀H:R/WB≠v1,R/WB<v1:=λH=>ab;have Uj:R/WB<v1->De R x v1 v0 (R/v1) (R%v1):=λH=>De.start (by have h2:WB*(R/WB+1)<=WB*v1:=ch _ H;rw[cn,cU]at h2;rw[bG v1];omega) Od rL;have hdiv:=λH:R/WB<v1=>HF (x1:=R/WB) (x0:=R%WB) afe lI H hR0;rw[amg]at hdiv;rw[<-Nx]at zD;refine ja (env':=iL [(0,.vw 0 gq 0 m cq),(2,.vw 1 gu 0 (m+2) cu),(3,.vw 2 gv 0 2 cv),(8,aq 2),(9,aq m),(10,.vw 3 0 0 3 C),(11,.g (wG v1)),(12,.g (wG (yK v1))),(13,.g (wG (R/WB))),(14,aq j)]) (H':=⟨[[.jx]],[],[AR gq (Jp V wq U m (j+1)),AR gu (iH wu 0 (uB V U (j+1))),AR gv wv,AR 0 T]⟩) (iE.le (aH ⟨.inl (aT PV.g (by dsimp only;rw[aV ab,<-Nv])),.inl (aT aq ah),trivial⟩)) (kW.of_eq (by dsimp only;rw[ec ab])) ?_;obtain⟨u0,hu0⟩:∃u,u=R%WB:=⟨_,rfl⟩;obtain⟨u1,CA⟩:∃u,u=R/WB:=⟨_,rfl⟩;rw[<-hu0]at F6 mK hov hdiv hR0;rw[<-CA]at F6 mK hov hdiv hR1 amf Yw Uj zD;rw[<-CA];have Oy:i64.wrap ((j:Int)+3)=((j+3:Nat):Int):=(by rw[jD ab];omega);have sO:i64.wrap ((j:Int)+2)=((j+2:Nat):Int):=(by rw[jD ab];omega);have pS:i64.wrap (i64.wrap ((j:Int)+2)-1)=((j+1:Nat):Int):=(by rw[jD (n:=(j:Int)+2) ab,jD ab];omega);have QJ:i64.wrap (i64.wrap ((j:Int)+2)-2)=((j:Nat):Int):=(by rw[jD (n:=(j:Int)+2) ab,jD ab];omega);have aiO:(iG (iH wu 0 (uB V U (j+1))))[0+j]?=some (wG x):=iT (by rw[bc];exact vX (i:=0) F6 af rfl);have aiP:(iG (iH wu 0 (uB V U (j+1))))[0+(j+1)]?=some (wG u0):=iT (by rw[bc];exact vX (i:=1) F6 af rfl);clear kf;clear Py hU QZ Br uo ht;obtain⟨W,hW⟩:∃W,W=iH wu 0 (uB V U (j+1)):=⟨_,rfl⟩;obtain⟨Q,hQ⟩:∃Q,Q=Jp V wq U m (j+1):=⟨_,rfl⟩;rw[<-hW]at F6 RB hWo Ui aiO aiP;rw[<-hQ]at VW hgq;rw[<-hW,<-hQ];(repeat first|refine' wb|refine xU [11] rfl ?_);refine AA (S:=Nat) (λg=>iL [(0,.vw 0 gq 0 m cq),(2,.vw 1 gu 0 (m+2) cu),(3,.vw 2 gv 0 2 cv),(8,aq 2),(9,aq m),(10,.vw 3 0 0 3 C),(11,.g (wG v1)),(12,.g (wG (yK v1))),(14,aq j),(15,.g (wG g))]) (λ_=>⟨[[.jx]],[],[AR gq Q,AR gu W,AR gv wv,AR 0 T]⟩) (λg=>g=G∨(g=G+1∧G+1<WB)) ?_ ?_
   ·skip;(try refine' uD);refine' sQ<;>intro h
    ·have js:u1≠v1:=λe=>(by rw[e]at h;simp at h);clear h;have hl:=Yw js;have hd:=hdiv hl;have hI0:=Uj hl;have Pq:=zS (x:=R/v1) (y:=v0) hI0.b ox;have zP:R%v1<WB:=dU (bL _ Od) lI;have aiQ:(R*WB+x)/(v1*WB+v0)=G:=(by rw[hV2,bG R,eK,<-Nx]);(repeat first|refine' uD|(refine' oX;(first|exact jV (j+1) (z:=by exact pS)|exact jM (q:=aI aiP)|exact iV hd|exact jV 0 (z:=by exact show i64.wrap (2-2)=((0:Nat):Int) by decide)|exact jM (q:=aI aiM)|exact iV Pq|exact jV j (z:=by exact QJ)|exact jM (q:=aI aiO));exact kq));refine jf (S:=Nat×Nat) (λq=>iL [(0,.vw 0 gq 0 m cq),(2,.vw 1 gu 0 (m+2) cu),(3,.vw 2 gv 0 2 cv),(8,aq 2),(9,aq m),(10,.vw 3 0 0 3 C),(11,.g (wG v1)),(12,.g (wG (yK v1))),(14,aq j),(15,.g (wG q.1)),(16,.g (wG q.2)),(17,.g (wG v0)),(18,.g (wG (q.1*v0/WB))),(19,.g (wG (q.1*v0%WB))),(20,.g (wG x))]) (λ_=>⟨[[.jx]],[],[AR gq Q,AR gu W,AR gv wv,AR 0 T]⟩) (λq=>De R x v1 v0 q.1 q.2∧q.2<WB) (λq=>q.1) (R/v1,R%v1) ⟨hI0,zP⟩
      (iE.le an) aJ (λq hq=>?_)
     obtain⟨g,r⟩:=q;obtain⟨hI,Yq⟩:=hq;dsimp only at hI Yq;have oJ:=ID (a:=g*v0/WB) (b:=g*v0%WB) (c:=r) (d:=x) (bL _ af) rL;rw[Nat.div_add_mod' (g*v0) WB]at oJ;(try refine' wn @oJ);refine' sQ<;>intro h
     ·have qC:=aU h;clear h;obtain⟨BN,uA⟩:=hI.over Od qC;obtain⟨p1,p2,p3⟩:=VT (p:=g*v0) ox (Nat.le_mul_of_pos_left _ BN);rw[<-Nat.sub_one_mul]at p1 p2;have e1:=afd BN hI.b;have e2:=Px (a:=r) (v:=v1);have hpw:g*v0/WB<WB:=(bK af).2 (bO (dy (iB hI.b) (aZ v0)) (Nat.mul_lt_mul_of_pos_left ox af));have hpm:g*v0%WB<WB:=bL _ af;have e3:=ZO hpm ox;rw[<-p2]at e3;(try refine' uD);refine' sQ<;>intro h
      ·have nh:WB<=r+v1:=by
        rw[e2]at h;have h1:=aU h;rcases dG (r+v1) WB with h2|h2
        rw[bn h2]at h1;omega;exact h2
       have Bp:=uA.ajN Od ox nh;rw[aiQ]at Bp;clear h;(try refine' uD);exact⟨g-1,.inl Bp.symm,iE.le (aH ⟨.inl rfl,.inl (aT ar e1),trivial⟩),aJ⟩
      ·have nh:r+v1<WB:=by
        rw[e2]at h;have h1:=aX h;rcases dG (r+v1) WB with h2|h2
        exact h2;exfalso;have h3:(r+v1)%WB=r+v1-WB:=(by rw[Nat.mod_eq_sub_mod h2,bn ab]);omega
       rw[bn nh]at e2;clear h;(try refine' uD);refine' sQ<;>intro h;have hw:g*v0%WB<v0:=(by have h1:=aU h;dsimp only at h1;omega);rw[aW hw]at p1;have e4:=afd (p3 hw) hpw;rw[<-p1]at e4;clear h;(try refine' uD);exact⟨(g-1,r+v1),⟨uA,nh⟩,by dsimp only;omega,iE.le (aH ⟨.inl rfl,.inl (aT ar e1),.inl (aT ar e2),.inl rfl,.inl (aT ar e4),.inl (aT ar e3),an⟩),aJ⟩;have hw:¬g*v0%WB<v0:=(by have h1:=aX h;dsimp only at h1;omega);rw[aV hw]at p1;clear h;(try refine' uD);exact⟨(g-1,r+v1),⟨uA,nh⟩,by dsimp only;omega,iE.le (aH ⟨.inl rfl,.inl (aT ar e1),.inl (aT ar e2),.inl rfl,.inl (aT (λk:Nat=>ar k) p1.symm),.inl (aT ar e3),an⟩),aJ⟩
     ·have Bp:=hI.done Od (by have:=aX h;omega);rw[aiQ]at Bp;clear h;(try refine' uD);exact⟨g,.inl Bp.symm,iE.le an,aJ⟩
    ·have he:u1=v1:=by
      rcases dG u1 v1 with h2|h2
      exfalso;rw[show((u1:Int) !=(v1:Int))=true from dO.2 ab]at h;cases h;omega
     clear h;(try refine' uD);rcases zD he with e|e
     exact⟨G,.inl rfl,iE.le (aH ⟨.inl rfl,.inl (by rw[e];rfl),trivial⟩),aJ⟩;exact⟨G+1,.inr ⟨rfl,by rw[e];decide⟩,iE.le (aH ⟨.inl rfl,.inl (by rw[e];rfl),trivial⟩),aJ⟩
   ·intro gg hgg;have aep:Q.set (0+j) G=Jp V wq U m j:=(by rw[bc];exact VW);rcases hgg with e|⟨e,hG1⟩
    ·rw[e];clear e gg;have hmul:=tQ (g:=0) (o:=0) (n:=2) (cap:=C) (g1:=gv) (o1:=0) (c1:=cv) (ws:=T) (y:=G) (r:=0) MY hvo rfl af Yh af ab;obtain⟨z,tR⟩:=hz G;have nP:=AY G Yh;obtain⟨c0,xG⟩:∃c,c=iW [v0,v1] G 0:=⟨_,rfl⟩;rw[<-xG]at hmul nP;have hT3:((iH T 0 (iQ 3 (G*V))).drop 0).take 3=iQ 3 (G*V):=by
      rw[vt (by rw[iN];exact aZ _),dz,bR (by rw[iN];exact aZ _)]
     have hTl:(iH T 0 (iQ 3 (G*V))).length=C:=(by rw[iX (by rw[iN];omega),hT]);have pI:=HG (g:=gu) (o:=j) (n:=3) (cap:=cu-j) (cap':=cu-j) (g1:=0) (o1:=0) (c1:=C) (ws:=W) (xs:=[x,u0,u1]) (ys:=iQ 3 (G*V)) (ws1:=iH T 0 (iQ 3 (G*V))) hT3 hWo F6 (lJ _ _) (iN _ _) ai ab;rw[mK.1,mK.2,RB]at pI;generalize iH T 0 (iQ 3 (G*V))=T2 at *
     (repeat first|refine' uD|(refine' oX;(first|exact qi 2 rfl (EL rfl) (SZ rfl) rfl rfl rfl rfl rfl (by omega)|exact ct [] rfl rfl uS (hmul) rfl rfl rfl rfl rfl rfl rfl rfl rfl rfl rfl|exact jV 2|exact jI (iP rfl (SZ rfl) rfl rfl rfl rfl af rfl tR (aZ _)) (aT (λl=>(⟨[[.jx]],[],[AR gq Q,AR gu W,AR gv wv,MO.arr 0 WT l]⟩:PH)) (jo.trans (aT iG nP)))|exact jL);exact kq));refine' sQ<;>intro h;exfalso;have h1:=aU h;rw[jD ab]at h1;omega;clear h;(repeat first|refine' uD|(refine' oX;(first|exact kg (N5 j (j+3) rfl (EL rfl) (SZ rfl) rfl rfl rfl rfl Oy ab ab ab) (show _=PV.vw 1 gu j 3 (cu-j) by rw[bc,ew])|exact qi 3 rfl (EL rfl) (SZ rfl) rfl rfl rfl rfl rfl (by omega)|exact ct [] rfl rfl Lv (pI) rfl rfl rfl rfl rfl rfl rfl rfl rfl rfl rfl|exact jV (j+1) (z:=by exact pS)|exact jM (q:=aI hgN)|exact jL);exact kq));refine' sQ<;>intro h;exfalso;have:=bQ.1 h;omega;clear h;(repeat first|refine' uD|(refine' oX;(first|exact jL|exact jV j|exact jI (iP rfl (SZ rfl) rfl rfl rfl rfl af rfl hgq (aZ _)) (aT (λl=>(⟨[[.jx]],[],[MO.arr gq WT l,AR gu (iH wu 0 (uB V U j)),AR gv wv,AR 0 T2]⟩:PH)) (jo.trans (aT iG aep))));exact kq));exact⟨(j,T2),⟨by omega,hTl⟩,by dsimp only;omega,iE.le (aH ⟨.inl (aT PV.g (by dsimp only;rw[aV ab,hRn])),.inl (aT aq (jD ab)),trivial⟩),kW.of_eq (by dsimp only;rw[ec ab])⟩
    ·rw[e];clear e gg;have hmul:=tQ (g:=0) (o:=0) (n:=2) (cap:=C) (g1:=gv) (o1:=0) (c1:=cv) (ws:=T) (y:=G+1) (r:=0) MY hvo rfl af hG1 af ab;obtain⟨z,tR⟩:=hz (G+1);have nP:=AY (G+1) hG1;obtain⟨c0,xG⟩:∃c,c=iW [v0,v1] (G+1) 0:=⟨_,rfl⟩;rw[<-xG]at hmul nP;have hT3:((iH T 0 (iQ 3 ((G+1)*V))).drop 0).take 3=iQ 3 ((G+1)*V):=by
      rw[vt (by rw[iN];exact aZ _),dz,bR (by rw[iN];exact aZ _)]
     have hTl:(iH T 0 (iQ 3 ((G+1)*V))).length=C:=(by rw[iX (by rw[iN];omega),hT]);have pI:=HG (g:=gu) (o:=j) (n:=3) (cap:=cu-j) (cap':=cu-j) (g1:=0) (o1:=0) (c1:=C) (ws:=W) (xs:=[x,u0,u1]) (ys:=iQ 3 ((G+1)*V)) (ws1:=iH T 0 (iQ 3 ((G+1)*V))) hT3 hWo F6 (lJ _ _) (iN _ _) ai ab;obtain⟨s0,s1,s2,q1,q2,q3,q4,q5⟩:=hov hG1;rw[q1,q2]at pI;have hso:okW [s0,s1,s2]:=(by rw[<-q1];exact CK _ _ _);have hp3:((iH W j [s0,s1,s2]).drop j).take 3=[s0,s1,s2]:=EI (ws:=W) (us:=[s0,s1,s2]) (off:=j) (by show j+3<=_;omega);have UM:((iH W j [s0,s1,s2]).drop j).take 2=[s0,s1]:=(by have:=aT (List.take 2) hp3;rw[List.take_take]at this;exact this);have aq3:(iH W j [s0,s1,s2]).length=wu.length:=(by rw[iX (by show j+3<=_;omega),Ui]);have lC:=ZN (g:=gu) (o:=j) (n:=2) (cap:=cu-j) (cap':=cu-j) (g1:=gv) (o1:=0) (c1:=cv) (ws:=iH W j [s0,s1,s2]) (xs:=[s0,s1]) (ys:=[v0,v1]) (ws1:=wv) MY (yk j hWo hso) UM hvo rfl ai ab;have oK:(sq [s0,s1] [v0,v1] 0).length=2:=wO (x:=[s0,s1]) (y:=[v0,v1]) (c:=0) rfl;have MV:(iG (iH (iH W j [s0,s1,s2]) j (sq [s0,s1] [v0,v1] 0)))[0+(j+2)]?=some (wG s2):=iT (by rw[bc,oi ab];exact vX (i:=2) hp3 af rfl);have lG:(iH (iH W j [s0,s1,s2]) j (sq [s0,s1] [v0,v1] 0)).set (0+(j+2)) ((s2+um [s0,s1] [v0,v1] 0)%WB)=iH wu 0 (uB V U j):=(by rw[bc,kx oK ab,q5,E4 (by rw[iN];rfl) (by show j+3<=_;omega),RB]);generalize iH T 0 (iQ 3 ((G+1)*V))=T2 at *
     generalize sq [s0,s1] [v0,v1] 0=aw,um [s0,s1] [v0,v1] 0=ac,iH W j [s0,s1,s2]=Wa at *
     generalize iH Wa j aw=Wb at *
     have Yn:wG ((s2+ac)%WB)=GV.int .u64 (u64.wrap ((s2:Int)+(ac:Int))):=aT (GV.int .u64) Px.symm;have amh:=afd (g:=G+1) ab hG1;(repeat first|refine' uD|(refine' oX;(first|exact qi 2 rfl (EL rfl) (SZ rfl) rfl rfl rfl rfl rfl (by omega)|exact ct [] rfl rfl uS (hmul) rfl rfl rfl rfl rfl rfl rfl rfl rfl rfl rfl|exact jV 2|exact jI (iP rfl (SZ rfl) rfl rfl rfl rfl af rfl tR (aZ _)) (aT (λl=>(⟨[[.jx]],[],[AR gq Q,AR gu W,AR gv wv,MO.arr 0 WT l]⟩:PH)) (jo.trans (aT iG nP)))|exact jL);exact kq));refine' sQ<;>intro h;exfalso;have h1:=aU h;rw[jD ab]at h1;omega;clear h;(repeat first|refine' wb|(refine' oX;(first|exact kg (N5 j (j+3) rfl (EL rfl) (SZ rfl) rfl rfl rfl rfl Oy ab ab ab) (show _=PV.vw 1 gu j 3 (cu-j) by rw[bc,ew])|exact qi 3 rfl (EL rfl) (SZ rfl) rfl rfl rfl rfl rfl (by omega)|exact ct [] rfl rfl Lv (pI) rfl rfl rfl rfl rfl rfl rfl rfl rfl rfl rfl|exact kg (N5 j (j+2) rfl (EL rfl) (SZ rfl) rfl rfl rfl rfl sO ab ab ab) (show _=PV.vw 1 gu j 2 (cu-j) by rw[bc,ew])|exact ct [] rfl rfl Lw (lC) rfl rfl rfl rfl rfl rfl rfl rfl rfl rfl rfl|exact jV (j+2) (z:=by exact sO)|exact jM (q:=aI MV)|exact jI (iP rfl (SZ rfl) rfl rfl rfl rfl af rfl MV (aZ _)) (aT (λl=>(⟨[[.jx]],[],[AR gq Q,MO.arr gu WT l,AR gv wv,AR 0 T2]⟩:PH)) ((aT ((iG Wb).set (0+(j+2))) Yn.symm).trans (jo.trans (aT iG lG))))|exact jV (j+1) (z:=by exact pS)|exact jM (q:=aI hgN)|exact jL);exact kq)|refine xU [34] rfl ?_);refine ja (env':=iL [(0,.vw 0 gq 0 m cq),(2,.vw 1 gu 0 (m+2) cu),(3,.vw 2 gv 0 2 cv),(8,aq 2),(9,aq m),(10,.vw 3 0 0 3 C),(11,.g (wG v1)),(12,.g (wG (yK v1))),(14,aq j),(15,.g (wG G))]) (H':=⟨[[.jx]],[],[AR gq Q,AR gu (iH wu 0 (uB V U j)),AR gv wv,AR 0 T2]⟩) (iE.le (aH ⟨.inl rfl,.inl (aT ar amh),trivial⟩)) aJ ?_;(repeat first|refine' uD|(refine' oX;(first|exact jV (j+1) (z:=by exact pS)|exact jM (q:=aI hgN)|exact jL);exact kq));refine' sQ<;>intro h;exfalso;have:=bQ.1 h;omega;clear h;(repeat first|refine' uD|(refine' oX;(first|exact jL|exact jV j|exact jI (iP rfl (SZ rfl) rfl rfl rfl rfl af rfl hgq (aZ _)) (aT (λl=>(⟨[[.jx]],[],[MO.arr gq WT l,AR gu (iH wu 0 (uB V U j)),AR gv wv,AR 0 T2]⟩:PH)) (jo.trans (aT iG aep))));exact kq));exact⟨(j,T2),⟨by omega,hTl⟩,by dsimp only;omega,iE.le (aH ⟨.inl (aT PV.g (by dsimp only;rw[aV ab,hRn])),.inl (aT aq (jD ab)),trivial⟩),kW.of_eq (by dsimp only;rw[ec ab])⟩
def Pz(h1:WB<=V)(h2:V<WB*WB):iF V=[V%WB,V/WB]:=by
 have h0:V/WB≠0:=by have:=fY h1 (show 0<WB by decide);omega
 rw[ml aK,jC h0 ((bK af).2 h2)]
variable{Y:Nat}
def acT(h1:WB<=Y)(h2:Y<WB*WB):lz (Y/WB)<=63∧WB<=2*(Y*2^lz (Y/WB)/WB)∧Y*2^lz (Y/WB)<WB*WB:=by
 have h0:Y/WB≠0:=by have:=fY h1 (show 0<WB by decide);omega
 have hb:Y/WB<WB:=(bK af).2 h2;obtain⟨u1,u2,u3,u4⟩:=D4 h0 hb;unfold nB at u1 u2;have hy:=cT Y WB;have hyl:=bL Y (show 0<WB by decide);obtain⟨b,hbd⟩:∃b,b=Y/WB:=⟨_,rfl⟩;rw[<-hbd]at u1 u2 u3 u4 hy⊢;obtain⟨a,had⟩:∃a,a=Y%WB:=⟨_,rfl⟩;rw[<-had]at hy hyl;obtain⟨s,hs⟩:∃s,s=lz b:=⟨_,rfl⟩;rw[<-hs]at u1 u2 u3 u4⊢;clear hbd had hs;have e:Y*2^s=a*2^s+WB*(b*2^s):=by rw[<-hy,bB,cN]
 refine⟨u3,?_,?_⟩;rw[e,cL _ _ af];generalize a*2^s/WB=q;omega
 ·have h3:b<2^(64-s):=by
   refine fL (a:=2^s) ?_;rw[bG (2^(64-s)),u4];exact u2
  have h4:(b+1)*2^s<=WB:=by have:=bg (2^s) h3;rwa[bG (2^(64-s)),u4]at this
  have h5:Y<(b+1)*WB:=by rw[bB,c8,bG b];omega
  have hp:0<2^s:=dt af;have h6:Y*2^s<(b+1)*WB*2^s:=gE h5 hp;have h7:(b+1)*WB*2^s<=WB*WB:=by rw[gU];exact bg _ h4
  omega
def NG{g0 g1 g2:Nat}{w0 w1 w2:List Nat}:PCd Tryz.prog 188 [.ptr 0 0,aq 0] ⟨[[.jx]],[],[AR g0 w0,AR g1 w1,AR g2 w2]⟩ ⟨[[.jx]],[],[AR g0 w0,AR g1 w1,AR g2 w2]⟩:=by refine AK func188 rfl rfl (rs:=_) (v:=.tuple []) rfl (bz aj) ?_;(repeat' first|refine' uN|refine oQ (z8 rfl underlying219 rfl rfl) ?_|refine' sN<;>intro h|fail);all_goals(refine' rB;all_goals rfl)
variable{X:Nat}
def NH(IA:WB<=Y)(Q2:Y<WB*WB)(hXY:Y<=X)(hm:(iF X).length<=800):
  ∃WQ cQ WR cR,pH WQ cQ (X/Y)∧pH WR cR (X%Y)∧((iF (X/Y)).length<=1∨(iF (X/Y)).length+1<=cQ)∧al 197 [.iM,.ptr 0 0,.iM,av (iG (iF X)),av (iG (iF Y))] ⟨[[.jx]],[],[]⟩ (.tuple [.vw 0 1 0 (iF (X/Y)).length cQ,.vw 1 0 0 (iF (X%Y)).length cR]) ⟨[[.jx]],[],[AR 1 WQ,AR 0 WR]⟩:=by
 obtain⟨ks,kb,kV⟩:=acT IA Q2;have Q3:Y/WB≠0:=by have:=fY IA (show 0<WB by decide);omega
 have ri:Y/WB<WB:=(bK af).2 Q2;have ha1:Y%WB<WB:=bL _ af;have Q4:=Pz IA Q2;obtain⟨lb1,lb2,_,_⟩:=xZ Q3 ri;have rG:=Ll (x:=Y/WB) ri lb2;rw[show 64-Lib.bitLen (Y/WB)=lz (Y/WB)from rfl]at rG;obtain⟨s,hs⟩:∃s,s=lz (Y/WB):=⟨_,rfl⟩;rw[<-hs]at ks kb kV rG;have IX:0<2^s:=dt af;obtain⟨L,hL⟩:∃L,L=(iF X).length:=⟨_,rfl⟩;have LA:L=(iG (iF X)).length:=by rw[iK,hL]
 have Q5:X<WB^L:=by have:=lP (ji X);rwa[jm,<-hL]at this
 have D5:2<=L:=by refine cj λhc=>?_;have h2:WB^L<=WB^1:=cf af ab;rw[dT]at h2;omega
 obtain⟨m,hmL⟩:∃m,L=m+1:=⟨L-1,by omega⟩;have hYp:0<Y:=bX af IA;obtain⟨V,hV⟩:∃V,V=Y*2^s:=⟨_,rfl⟩;obtain⟨Z,hZ⟩:∃Z,Z=X*2^s:=⟨_,rfl⟩;rw[<-hV]at kb kV;have EV:0<V:=by rw[hV];exact fD hYp IX
 have f1:Z/V=X/Y:=by rw[hZ,hV];exact Nat.mul_div_mul_right X Y IX
 have f2:Z%V=X%Y*2^s:=by rw[hZ,hV,Nat.mul_mod_mul_right]
 have hV0:V%WB<WB:=bL _ af;have hV1:V/WB<WB:=(bK af).2 kV;have hZL:Z<WB^L*2^s:=by rw[hZ];exact gE Q5 IX
 have Yx:2^s<=2^63:=cf af ks;have hZ1:Z<WB^(L+1):=bX hZL (by rw[cW];exact ch _ (b8 Yx af));have hQL:X/Y<WB^m:=by refine(bK hYp).2 (bX Q5 ?_);rw[hmL,cW];exact ch _ IA
 have hRL:X%Y<WB^(L+1):=by have h1:=bL X hYp;have h2:WB^2<=WB^(L+1):=cf af ab;rw[show WB^2=WB*WB by decide]at h2;omega
 have aiU:Z%V<WB^(L+1):=bO (Nat.mod_le _ _) hZ1;have uJ:=vV (L+1);have Xo:=vV m;have hro:=CO (L+1) ab ab;have aff:=CO m ab ab;have ll:(iF (X/Y)).length<=1∨(iF (X/Y)).length+1<=lN m:=by have h1:=iU hQL;unfold lN;split<;>omega
 refine⟨_,_,_,_,pH.zm aff hQL Xo,pH.zm hro hRL uJ,ll,?_⟩;clear ll;obtain⟨Z0,Yy⟩:∃z,z=List.replicate (lN (L+1)) 0:=⟨_,rfl⟩;obtain⟨Q0,hQ0⟩:∃z,z=List.replicate (lN m) 0:=⟨_,rfl⟩;have aa7:Z0.length=lN (L+1):=by rw[Yy,cS]
 have aiW:Q0.length=lN m:=by rw[hQ0,cS]
 have mq:=qQ (n:=L+1) ab ab;have aa8:=qQ (n:=m) ab ab;rw[<-Yy]at mq hro⊢;rw[<-hQ0]at aa8 aff⊢;have hpZ:=iN (L+1) Z;have hpR:=iN (L+1) (Z%V);have hpX:=iN (L+1) (X%Y);have hpQ:=iN m (Z/V);obtain⟨tp,htp⟩:∃t,t=(iQ (L+1) Z)[m+1]'(by omega):=⟨_,rfl⟩;have htg:(iQ (L+1) Z)[m+1]?=some tp:=by rw[htp];exact aS _
 have htv:tp<V/WB:=by
  have h1:val (iQ (L+1) Z)=Z:=lH hZ1;have h2:=jy ((iQ (L+1) Z).take (m+1)) ((iQ (L+1) Z).drop (m+1));rw[cA,h1,bW,ec ab,qk htg,dH ab,mQ,dZ]at h2;simp only[b9]at h2;have h3:WB^(m+1)*tp<WB^(m+1)*2^s:=by rw[<-hmL]at h2⊢;omega
  have h4:=Nat.lt_of_mul_lt_mul_left h3;have:(2:Nat)^63*2=WB:=af
  omega
 clear htp;have LB:=fun(C:Nat) (T:List Nat) (hT:T.length=C) (hC:2<=C)=>NF (gq:=0) (cq:=lN m) (gu:=0) (cu:=lN (L+1)) (gv:=0) (cv:=C) (m:=m) (v0:=V%WB) (v1:=V/WB) (tp:=tp) (wq:=Q0) (wu:=iH Z0 0 (iQ (L+1) Z)) (wv:=iH T 0 [V%WB,V/WB]) (U:=iQ (L+1) Z)
  (by rw[show m+2=L+1 by omega];have:=sK (ws:=Z0) hpZ;rwa[dz]at this) (by rw[iX ab,aa7];omega) (yk 0 hro.ok (lJ _ _)) (by rw[show m+2=L+1 by omega];exact uJ) (by have:=sK (ws:=T) (us:=[V%WB,V/WB]) (k:=2) rfl;rwa[dz]at this) (by rw[iX (by show 0+2<=_;omega)];omega) hV0 hV1 kb htg htv ab ab
 have VX:V%WB+WB*(V/WB)=V:=cT V WB;rw[VX]at LB;have hpp:iH (iH Z0 0 (iQ (L+1) Z)) 0 (iQ (L+1) (Z%V))=iH Z0 0 (iQ (L+1) (Z%V)):=E4 ab ab;have hvZ:val (iQ (L+1) Z)=Z:=lH hZ1;rw[hvZ,show m+2=L+1 by omega,hpp,f1]at LB;have hnq:=mH (g:=0) (o:=0) (n:=m) (cap:=lN m) (ws:=iH Q0 0 (iQ m (X/Y))) (l:=iQ m (X/Y)) (sK (iN _ _)) (by rw[iX (by rw[iN];omega),aiW];omega) Xo ai;rw[mf hQL]at hnq;have y8:=mH (g:=0) (o:=0) (n:=L+1) (cap:=lN (L+1)) (ws:=iH Z0 0 (iQ (L+1) (X%Y))) (l:=iQ (L+1) (X%Y)) (sK hpX) (by rw[iX (by rw[hpX];omega),aa7];omega) uJ ai;rw[mf hRL]at y8;have Uf:=Uh;have vO:= @D6 2 af af;have EY:=ji X;have hxv:=jm X;have hYv:=jm Y;have hYo:=ji Y;rw[Q4]at hYv hYo⊢;obtain⟨b0,RC⟩:∃b,b=Y%WB:=⟨_,rfl⟩;obtain⟨b1,Oe⟩:∃b,b=Y/WB:=⟨_,rfl⟩;obtain⟨v0,afg⟩:∃b,b=V%WB:=⟨_,rfl⟩;obtain⟨v1,afh⟩:∃b,b=V/WB:=⟨_,rfl⟩;have ami:V<WB*WB:=kV;have RD:s=0->[b0,b1]=[v0,v1]∧iF X++[0]=iQ (L+1) Z:=λh=>by
  have hVY:V=Y:=by rw[hV,h,eM,cU]
  have hZX:Z=X:=by rw[hZ,h,eM,cU]
  refine⟨by rw[RC,Oe,afg,afh,hVY],?_⟩;refine val_inj (kz.2 ⟨ji X,iS.2 ⟨by decide,ke⟩⟩) (lJ _ _) (by rw[bd,iN,<-hL];rfl) ?_;rw[lH hZ1,jy,jm,kK,mQ,hZX];simp
 have RE:s<64->qK [b0,b1] s=[v0,v1]∧qK (iF X) s++[BU (iF X) s]=iQ (L+1) Z:=λh=>by constructor;have h1:=QU (l:=[b0,b1]) (s:=s) (by rw[RC,Oe];exact hYo) h;have h2:val [b0,b1]*2^s=V:=(by rw[hV,RC,Oe,hYv]);rw[h2]at h1;have h3:=aT (List.take 2) h1;rw[cV (by rw[oP];exact aZ _),bR (by rw[oP];exact aZ _)]at h3;rw[h3,afg,afh];show [V%WB,V/WB%WB]=_;rw[bn hV1];have h1:=QU (l:=iF X) (s:=s) (ji X) h;rwa[hxv,<-hZ,<-hL]at h1
 have hdn:s<64->oe (iQ (L+1) (Z%V)) s=iQ (L+1) (X%Y):=λh=>by rw[Zo (lJ _ _) (iB h),hpR,lH aiU,f2,Nat.mul_div_cancel _ IX]
 have aiY:s=0->Z%V=X%Y:=λh=>by rw[f2,h,eM,cU]
 have amj:b0<WB:=by rw[RC];exact ha1
 have amk:b1<WB:=by rw[Oe];exact ri
 rw[<-RC,<-Oe];rw[<-Oe]at rG;rw[<-afg,<-afh]at LB;clear hYv hYo Q4 RC Oe;obtain⟨NQ,hNQ⟩:∃n,n=(iF (X/Y)).length:=⟨_,rfl⟩;obtain⟨NR,hNR⟩:∃n,n=(iF (X%Y)).length:=⟨_,rfl⟩;rw[<-hNQ]at hnq⊢;rw[<-hNR]at y8⊢;obtain⟨PQ,hPQ⟩:∃n,n=iQ m (X/Y):=⟨_,rfl⟩;obtain⟨PR,hPR⟩:∃n,n=iQ (L+1) (X%Y):=⟨_,rfl⟩;obtain⟨PS,hPS⟩:∃n,n=iQ (L+1) (Z%V):=⟨_,rfl⟩;obtain⟨PZ,hPZ⟩:∃n,n=iQ (L+1) Z:=⟨_,rfl⟩;rw[<-hPZ]at RD RE hpp LB;rw[<-hPS]at hdn hpp LB;rw[<-hPR]at hdn y8⊢;rw[<-hPQ]at LB hnq⊢;have aml:okW PS:=by rw[hPS];exact lJ _ _
 have amm:PS.length=L+1:=by rw[hPS];exact hpR
 have aq4:PR.length=L+1:=by rw[hPR];exact hpX
 have amn:s=0->PS=PR:=λh=>by rw[hPS,hPR,aiY h]
 have oK:=Iz (m:=AR 0 (iH Z0 0 PZ)) (g:=0) (o:=0) (n:=L+1) (c:=lN (L+1));obtain⟨cu,hcu⟩:∃c,c=lN (L+1):=⟨_,rfl⟩;obtain⟨cq,hcq⟩:∃c,c=lN m:=⟨_,rfl⟩;rw[<-hcu]at mq LB y8 oK uJ aa7⊢;rw[<-hcq]at aa8 LB hnq⊢;have sx:i64.wrap ((L:Int)+1)=((L+1:Nat):Int):=by rw[jD ab];omega
 have tN:i64.wrap (i64.wrap ((L:Int)-2)+1)=((m:Nat):Int):=by rw[jD (n:=(L:Int)-2) ab,jD ab];omega
 rw[<-sx]at mq;rw[<-tN]at aa8;clear hpX hpR hpZ hpQ htg htv aff hro Xo aiW VX hvZ aiU hRL hQL hZ1 Yx hZL f1 f2 Yy hQ0 hNQ hNR hPQ hPR hPS hPZ aiY hcu hcq hV hZ kV kb ami hV0 hV1 EV hYp Q5 Q3 ri ha1 lb1 lb2 hXY hxv hs;obtain⟨xs,vJ⟩:∃l,l=iF X:=⟨_,rfl⟩;rw[<-vJ]at RD RE hL LA EY hm⊢;clear vJ;subst LA;refine qO func197 rfl rfl (rs:=_) rfl (bz aj) ?_;repeat((repeat refine tz ?_);first|refine ot rfl ?_|refine pb rfl ?_|refine sR ?_|(refine qt ?_;(try refine' uN);refine Or.inl (And.intro rfl ?_)))
 refine tz ?_;refine C5 (l:=[_,_,_]) rfl rfl rfl (by intro t h;cases h) ?_;(try refine' we @Uf);refine⟨_,rfl,?_⟩;refine qt ?_;(repeat first|refine' wa|refine oQ (jB (g:=wG b1) (z:=show(0:Int)<=i64.wrap (2-1) by decide)) ?_|refine oQ (iV rG) ?_|refine xU [5] rfl ?_);refine uw ?_;refine pY (l1:=[_,_]) (l2:=[_]) rfl (λt h=>by cases h;decide) ?_;(try refine' uN);refine⟨_,xi [] rfl rfl Yt rfl (K2 vO [0] [] [] rfl rfl rfl rfl rfl),?_⟩;rintro v H' ⟨v0',H0,⟨C,c1,c2,rfl,rfl⟩,rfl,rfl⟩;have hT:=IC C;have LB:=LB C (Ys C) hT c1;generalize Ys C=T at *
 clear Uf vO;(repeat first|refine' wa|refine oQ (cD [true] mq) ?_|refine xU [7] rfl ?_);refine nK (iL [(0,.iM),(1,.ptr 0 0),(2,.vw 1 0 0 ((iG xs).length+1) cu),(3,av (iG xs)),(12,aq 2),(13,aq (i64.wrap (((iG xs).length:Int)-2))),(14,.g (wG s)),(15,.vw 0 0 0 2 C)]) ⟨[[.jx]],[],[AR 0 (iH T 0 [v0,v1]),AR 0 (iH Z0 0 PZ)]⟩ ?_ ?_
 ·by_cases FG:s=0
  ·obtain⟨r1,r2⟩:=RD FG;have aj2:putAt (iG T) 0 ((iG [b0,b1]).take 2)=iG (iH T 0 [v0,v1]):=by
    rw[r1];unfold putAt iH iG;simp
   have aj3:putAt (iG Z0) 0 ((iG xs).take (iG xs).length)=iG (iH Z0 0 xs):=(by rw[du];unfold putAt iH iG;simp);have tR:(iG (iH Z0 0 xs))[0+(iG xs).length]?=some (wG ((iH Z0 0 xs)[(iG xs).length]'(by rw[iX ab];omega))):=iT (by rw[bc];exact aS _);have nP:(iH Z0 0 xs).set (0+(iG xs).length) 0=iH Z0 0 PZ:=(by rw[kx hL.symm ab,r2]);generalize(iH Z0 0 xs)[(iG xs).length]'_=z at tR;subst FG;(repeat first|refine' uN|refine oQ (jI (zO (ys:=iG [b0,b1]) rfl (EL rfl) (SZ rfl) (SZ rfl) rfl rfl rfl (λ_ _ _ _ _ e=>by cases e) nA (by rw[iK];omega)) (aT (λl=>(⟨[[.jx]],[],[MO.arr 0 WT l,AR 0 Z0]⟩:PH)) aj2)) ?_|refine oQ (qi (iG xs).length rfl (EL rfl) (SZ rfl) rfl rfl rfl rfl rfl ab) ?_|refine oQ (jI (zO (ys:=iG xs) rfl (EL rfl) (SZ rfl) (SZ rfl) rfl rfl rfl (λ_ _ _ _ _ e=>by cases e) nA (by rw[iK Z0];omega)) (aT (λl=>(⟨[[.jx]],[],[AR 0 (iH T 0 [v0,v1]),MO.arr 0 WT l]⟩:PH)) aj3)) ?_|refine oQ (jV (iG xs).length) ?_|refine oQ (jI (iP rfl (SZ rfl) rfl rfl rfl rfl af rfl tR (aZ _)) (aT (λl=>(⟨[[.jx]],[],[AR 0 (iH T 0 [v0,v1]),MO.arr 0 WT l]⟩:PH)) (jo.trans (aT iG nP)))) ?_);exact⟨iE.le an,aJ⟩
  ·obtain⟨r1,r2⟩:=RE ab;have MS:=QY (g:=0) (cap:=C) (s:=s) (ws:=T) (xs:=[b0,b1]) (iS.2 ⟨amj,iS.2 ⟨amk,ke⟩⟩) (by show 1<=2;decide) (by rw[hT];exact c1) (by show 2<=100000;decide) ab ab;have BX:=QY (g:=0) (cap:=cu) (s:=s) (ws:=Z0) (xs:=xs) EY ab ab ab ab ab;rw[r1]at MS;have Bm:=oP xs s;have tR:(iG (iH Z0 0 (qK xs s)))[0+(iG xs).length]?=some (wG ((iH Z0 0 (qK xs s))[(iG xs).length]'(by rw[iX ab];omega))):=iT (by rw[bc];exact aS _);have nP:(iH Z0 0 (qK xs s)).set (0+(iG xs).length) (BU xs s)=iH Z0 0 PZ:=by
    rw[kx ab ab,r2]
   generalize(iH Z0 0 (qK xs s))[(iG xs).length]'_=z at tR;generalize BU [b0,b1] s=cc at MS;generalize BU xs s=cx at BX nP;generalize qK xs s=ux at *
   have kl:((s:Int)==0)=false:=bk.2 ab;(try refine' uN);refine' sQ<;>intro h;exfalso;rw[kl]at h;cases h;clear h;(repeat first|refine' uN|refine oQ (ct [] rfl rfl Lx (MS) rfl rfl rfl rfl rfl rfl rfl rfl rfl rfl rfl) ?_|refine oQ (qi (iG xs).length rfl (EL rfl) (SZ rfl) rfl rfl rfl rfl rfl ab) ?_|refine oQ (ct [] rfl rfl Lx (BX) rfl rfl rfl rfl rfl rfl rfl rfl rfl rfl rfl) ?_|refine oQ (jV (iG xs).length) ?_|refine oQ (jI (iP rfl (SZ rfl) rfl rfl rfl rfl af rfl tR (aZ _)) (aT (λl=>(⟨[[.jx]],[],[AR 0 (iH T 0 [v0,v1]),MO.arr 0 WT l]⟩:PH)) (jo.trans (aT iG nP)))) ?_);exact⟨iE.le an,aJ⟩
 clear RD RE mq rG;have hT1:(iH T 0 [v0,v1]).length=T.length:=iX (by show 0+2<=_;omega);generalize iH T 0 [v0,v1]=T1 at *
 obtain⟨A1,hA1⟩:∃l,l=iH Z0 0 PZ:=⟨_,rfl⟩;obtain⟨A2,Uk⟩:∃l,l=iH Z0 0 PS:=⟨_,rfl⟩;obtain⟨A3,hA3⟩:∃l,l=iH Z0 0 PR:=⟨_,rfl⟩;obtain⟨A4,hA4⟩:∃l,l=iH Q0 0 PQ:=⟨_,rfl⟩;rw[<-hA1]at oK LB⊢;rw[<-Uk]at LB;rw[<-hA3]at y8⊢;rw[<-hA4]at LB hnq⊢;(repeat first|refine' wa|refine oQ (cB [true] oK) ?_|refine oQ (cD [true] aa8) ?_|refine oQ (xa rfl (AG rfl) rfl rfl) ?_|refine oQ (cD [] LB) ?_|refine oQ (cD [] hnq) ?_|refine xU [20] rfl ?_);refine nK (iL [(2,.vw 1 0 0 ((iG xs).length+1) cu),(10,.vw 2 0 0 NQ cq)]) ⟨[[.jx]],[],[AR 0 T1,AR 0 A3,AR 0 A4]⟩ ?_ ?_
 ·by_cases FG:s=0
  ·have e:A2=A3:=by rw[Uk,hA3,amn FG]
   subst FG;rw[e];(try refine' uN);exact⟨iE.le ⟨.inl rfl,.inl rfl,trivial⟩,aJ⟩
  ·have kl:((s:Int) !=0)=true:=dO.2 ab;have sJ:PS[0]?=some (PS[0]'(by omega)):=aS ab;have aq5:A2.length=cu:=(by rw[Uk,iX ab,aa7]);have vF:=ag3 (g:=0) (n:=(iG xs).length+1) (cap:=cu) (s:=s) (ws:=A2) (xs:=PS) aml (by have:=sK (ws:=Z0) amm;rw[dz]at this;rw[Uk];exact this) ab ab ab ab ab sJ;generalize PS[0]'_=x0 at vF;have e:iH A2 0 (oe PS s)=A3:=by
    rw[hdn ab,Uk,hA3,E4 ab ab]
   rw[e]at vF;generalize x0*2^(64-s)%WB=cc at vF;(try refine' uN);refine' sQ<;>intro h;clear h;(repeat first|refine' uN|refine oQ (ct [] rfl rfl ag4 (vF) rfl rfl rfl rfl rfl rfl rfl rfl rfl rfl rfl) ?_);exact⟨iE.le ⟨.inl rfl,.inl rfl,trivial⟩,aJ⟩;exfalso;rw[kl]at h;cases h
 have hr:= @NG 1 0 1 A4 A3 T1;refine Cz 0 2 rfl rfl rfl (SZ rfl) (SZ rfl) ?_;refine ja (env':=iL [(2,.vw 1 0 0 ((iG xs).length+1) cu),(10,.vw 0 1 0 NQ cq)]) (H':=⟨[[.jx]],[],[AR 1 A4,AR 0 A3,AR 1 T1]⟩) (iE.le ⟨.inl rfl,.inl rfl,trivial⟩) aJ ?_;(try refine' we @y8);refine Or.inr (And.intro rfl ⟨_,EN rfl,hr,?_⟩);refine' rB;all_goals rfl
def VY{g0 g1:Nat}{w0 w1:List Nat}:PCd Tryz.prog 183 [.ptr 0 0] ⟨[[.jx]],[],[AR g0 w0,AR g1 w1]⟩ ⟨[[.jx]],[],[AR g0 w0,AR g1 w1]⟩:=by refine AK func183 rfl rfl (rs:=_) (v:=.tuple []) rfl (bz aj) ?_;(repeat' first|refine' uN|refine oQ (Hs rfl underlying219 rfl rfl) ?_|refine' sN<;>intro h|fail);all_goals(refine' rB;all_goals rfl)
def ahc:ak 159 [.iM,aq 0] .iM:=by refine' eN func159;(repeat first|refine' uN|refine oQ (z7 rfl (EL rfl) rfl) ?_|refine oQ (qh rfl (EL rfl) (SZ rfl) rfl rfl rfl rfl rfl) ?_);refine' rB;all_goals rfl
def aes:ak 158 [.iM,av []] .iM:=by have hm:=ahc;refine' eN func158;(repeat first|refine' uN|refine oQ (cB [true] hm) ?_|refine oQ (Zu (ys:=[]) rfl (EL rfl) (SZ rfl) rfl rfl (λ_ _ _ _ _ e=>by cases e) aa) ?_);refine' rB;all_goals rfl
def ahd(h0:y≠0):ak 195 [.iM,av [],.g (wG y)] (.tuple [.iM,.g (wG 0)]):=by
 have hs:=aes;have k0:(((y:Nat):Int)==0)=false:=bk.2 ab;refine' eN func195;(try refine' uN);refine' sQ<;>intro h;exfalso;rw[k0]at h;cases h;clear h;(try refine' uN);refine' sQ<;>intro h
 ·clear h;(repeat first|refine' uN|refine oQ (cB [true] hs) ?_);refine' rB;all_goals rfl
 ·clear h;(repeat first|refine' uN|refine oQ (qh rfl (EL rfl) (SZ rfl) rfl rfl rfl rfl rfl) ?_);refine' rB;all_goals rfl
def LD(hX:X≠0)(h0:y≠0)(hy:y<WB)(hm:(iG (iF X)).length<=900):∃W cap,pH W cap (X/y)∧((iF (X/y)).length<=1∨(iF (X/y)).length+1<=cap)∧al 195 [.iM,av (iG (iF X)),.g (wG y)] ⟨[],[],[]⟩ (.tuple [.vw 0 0 0 (iF (X/y)).length cap,.g (wG (X%y))]) ⟨[],[],[AR 0 W]⟩:=by
 have h1:=jl hX;have hl:=iK (iF X);have hXl:X<WB^(iG (iF X)).length:=by have:=lP (ji X);rwa[jm,<-hl]at this
 have ll:(iF (X/y)).length<=1∨(iF (X/y)).length+1<=lN (iG (iF X)).length:=by have h2:=iU (bO (dY X y) hXl);unfold lN;split<;>omega
 by_cases pD:y=1;subst pD;rw[fe]at ll;rw[fe,Nat.mod_one];have hr:=CO (iG (iF X)).length h1 hm;have hc:=vV (iF X).length;rw[hl]at hr ll;exact⟨_,_,⟨kz.2 ⟨ji X,oB _⟩,by rw[cV (aZ _),bR (aZ _)],hc,by rw[bd,cS];omega,hr.cm,hr.c1⟩,ll,ZK ab ab⟩;exact⟨_,_,pH.zm (CO _ h1 hm) (bO (dY _ _) hXl) (vV _),ll,ZL hX h0 pD hy hm⟩
inductive LF(X Y:Nat):PV->PV->List MO->Prop
 |zero:X/Y=0->X%Y=0->LF X Y .iM .iM []
 |low {g c:Nat} {W:List Nat}:X/Y=0->X%Y≠0->pH W c (X%Y)->LF X Y .iM (.vw 0 g 0 (iF (X%Y)).length c) [AR g W]
 |exact{g c:Nat} {W:List Nat}:X%Y=0->pH W c (X/Y)->LF X Y (.vw 0 g 0 (iF (X/Y)).length c) .iM [AR g W]
 |both {g1 g2 c1 c2:Nat} {W1 W2:List Nat}:X≠0->pH W1 c1 (X/Y)->pH W2 c2 (X%Y)->((iF (X/Y)).length<=1∨(iF (X/Y)).length+1<=c1)->LF X Y (.vw 0 g1 0 (iF (X/Y)).length c1) (.vw 1 g2 0 (iF (X%Y)).length c2) [AR g1 W1,AR g2 W2]
def pH.set(h:X≠0)(hm:(iF X).length<=900):pH (iF X++List.replicate (lN (iF X).length-(iF X).length) 0) (lN (iF X).length) X:=by have h1:=jl h;rw[iK]at h1;have hc:=vV (iF X).length;have hr:=CO (iF X).length h1 hm;exact⟨kz.2 ⟨ji X,oB _⟩,by rw[cV (aZ _),bR (aZ _)],hc,by rw[bd,cS];omega,hr.cm,hr.c1⟩
def pH.word{x:Nat}(h:x≠0)(hx:x<WB):pH [x] 1 x:=by have e:=jC h hx;exact⟨iS.2 ⟨hx,ke⟩,by rw[e];rfl,by rw[e];exact aZ _,aZ _,by decide,aZ _⟩
def SB(h0:y≠0)(hy:y<WB)(hm:(iF X).length<=800):∃vq vr M,LF X y vq vr M∧al 171 [.iM,.jx,.iM,av (iG (iF X)),av (iG (iF y))] ⟨[],[],[]⟩ (.tuple [vq,vr]) ⟨[],[],M⟩:=by
 rw[jC h0 hy];by_cases hX:X=0
 ·subst hX;rw[jg];refine⟨_,_,_,.zero (Nat.zero_div y) (Nat.zero_mod y),?_⟩;have hd:=ahd h0;have hw:=E3;refine qO func171 rfl rfl (rs:=_) rfl (bz aj) ?_;repeat((repeat refine tz ?_);first|refine ot rfl ?_|refine sR ?_|(refine qt ?_;(try refine' uN);refine Or.inl (And.intro rfl ?_)))
  refine pb rfl ?_;refine qt ?_;(repeat first|refine' uN|refine oQ (jB (g:=wG y)) ?_|refine oQ (cB [true] hd) ?_|refine oQ (cB [true] hw) ?_);refine Or.inr (And.intro rfl ?_);refine' rB;all_goals rfl
 ·obtain⟨W,cap,hz,ll,hd⟩:=LD hX h0 hy (by rw[iK];omega);have Jt:X%y<WB:=dU (bL _ (Nat.pos_of_ne_zero h0)) hy;by_cases hr:X%y=0
  ·refine⟨_,_,_,.exact (g:=0) hr hz,?_⟩;rw[hr]at hd;have hw:=E3;clear ll;generalize(iF (X/y)).length=N at *
   clear hz hr Jt;generalize iF X=xs at *
   refine qO func171 rfl rfl (rs:=_) rfl (bz aj) ?_;repeat((repeat refine tz ?_);first|refine ot rfl ?_|refine sR ?_|(refine qt ?_;(try refine' uN);refine Or.inl (And.intro rfl ?_)))
   refine pb rfl ?_;refine qt ?_;(repeat first|refine' uN|refine oQ (jB (g:=wG y)) ?_|refine oQ (cD [true] hd) ?_|refine oQ (cB [true] hw) ?_);refine Or.inr (And.intro rfl ?_);refine' rB;all_goals rfl
  ·refine⟨_,_,_,.both (g1:=0) (g2:=0) hX hz (by have:=pH.word hr Jt;exact this) ll,?_⟩;rw[jC hr Jt];have hw:=Iy hr;obtain⟨R,hR⟩:∃R,R=X%y:=⟨_,rfl⟩;rw[<-hR]at hd hw⊢;clear ll;generalize(iF (X/y)).length=N at *
   clear hz hr Jt hR;generalize iF X=xs at *
   refine qO func171 rfl rfl (rs:=_) rfl (bz aj) ?_;repeat((repeat refine tz ?_);first|refine ot rfl ?_|refine sR ?_|(refine qt ?_;(try refine' uN);refine Or.inl (And.intro rfl ?_)))
   refine pb rfl ?_;refine qt ?_;(repeat first|refine' uN|refine oQ (jB (g:=wG y)) ?_|refine oQ (cD [true] hd) ?_|refine oQ (cD [true] hw) ?_);refine Or.inr (And.intro rfl ?_);refine' rB;all_goals rfl
def SC(IA:WB<=Y)(Q2:Y<WB*WB)(hm:(iF X).length<=800):∃vq vr M,LF X Y vq vr M∧al 171 [.iM,.jx,.iM,av (iG (iF X)),av (iG (iF Y))] ⟨[],[],[]⟩ (.tuple [vq,vr]) ⟨[],[],M⟩:=by
 have Q4:=Pz IA Q2;have hYl:(iF Y).length=2:=by rw[Q4];rfl
 have hc:=rK (X:=X) (Y:=Y) ab ab;rcases dG X Y with iI|sC
 ·rw[show mi X Y= -1 from by unfold mi;rw[aW ab]]at hc;have e1:X/Y=0:=cZ iI;have e2:X%Y=X:=bn iI;by_cases hX:X=0
  ·subst hX;refine⟨_,_,_,.zero e1 e2,?_⟩;rw[jg]at hc⊢;rw[Q4]at hc⊢;generalize Y%WB=b0 at *
   generalize Y/WB=b1 at *
   have hs:=aes;refine qO func171 rfl rfl (rs:=_) rfl (bz aj) ?_;repeat((repeat refine tz ?_);first|refine ot rfl ?_|refine sR ?_|(refine qt ?_;(try refine' wk @hc);refine Or.inl (And.intro rfl ?_)))
   refine pb rfl ?_;refine qt ?_;(repeat first|refine' uN|refine oQ (qh rfl (EL rfl) (SZ rfl) rfl rfl rfl rfl rfl) ?_|refine oQ (cB [true] hs) ?_);refine Or.inr (And.intro rfl ?_);refine' rB;all_goals rfl
  ·have hz:=pH.set hX ab;have Js:=hz;rw[<-e2]at Js;have h1:=jl hX;rw[iK]at h1;have hs:=Bn h1 ab;refine⟨_,_,_,.low (g:=0) e1 (by rw[e2];exact hX) Js,?_⟩;rw[e2];rw[Q4]at hc⊢;clear hz Js e1 e2 hYl h1 hm hX;generalize Y%WB=b0 at *
   generalize Y/WB=b1,iF X=xs at *
   generalize xs++List.replicate (lN xs.length-xs.length) 0=W at *
   generalize lN xs.length=cp at *
   generalize xs.length=N at *
   refine qO func171 rfl rfl (rs:=_) rfl (bz aj) ?_;repeat((repeat refine tz ?_);first|refine ot rfl ?_|refine sR ?_|(refine qt ?_;(try refine' wk @hc);refine Or.inl (And.intro rfl ?_)))
   refine pb rfl ?_;refine qt ?_;(repeat first|refine' uN|refine oQ (qh rfl (EL rfl) (SZ rfl) rfl rfl rfl rfl rfl) ?_|refine oQ (cD [true] hs) ?_);refine Or.inr (And.intro rfl ?_);refine' rB;all_goals rfl
 ·obtain⟨r,hr,zP⟩:∃r:Int,r=mi X Y∧0<=r:=⟨_,rfl,by unfold mi;rw[aV ab];split<;>decide⟩;rw[<-hr]at hc;have nV:decide (r<0)=false:=bA ab;obtain⟨WQ,cQ,WR,cR,z1,z2,ll,hd⟩:=NH IA Q2 sC hm;refine⟨_,_,_,.both (g1:=1) (g2:=0) (ik (bX (bX af IA) sC)) z1 z2 ll,?_⟩;clear ll;rw[Q4]at hc hd⊢;have MV:=FV;clear z1 z2 hYl hm sC hr;generalize Y%WB=b0 at *
  generalize (iF (X%Y)).length=NR,(iF (X/Y)).length=NQ,Y/WB=b1,iF X=xs at *
  refine qO func171 rfl rfl (rs:=_) rfl (bz aj) ?_;repeat((repeat refine tz ?_);first|refine ot rfl ?_|refine pb rfl ?_|refine ot (aT (λb=>PV.g (GV.bool b)) nV) ?_|refine sR ?_|(refine qt ?_;(repeat first|refine' uN|refine oQ (iV hc) ?_|refine oQ (cB [] MV) ?_|refine oQ (z8 rfl underlying185 rfl rfl) ?_);refine Or.inl (And.intro rfl ?_)))
  refine C5 (l:=[_]) rfl rfl rfl (by intro t h;cases h) ?_;(try refine' uN);refine⟨_,rfl,?_⟩;refine qt ?_;(repeat first|refine' uN|refine oQ (cD [true,false,true] hd) ?_);refine Or.inr (And.intro rfl ⟨_,EN rfl,VY,?_⟩);refine' rB;all_goals rfl
def VZ(h0:0<Y)(hY:Y<WB*WB)(hm:(iF X).length<=800):∃vq vr M,LF X Y vq vr M∧al 171 [.iM,.jx,.iM,av (iG (iF X)),av (iG (iF Y))] ⟨[],[],[]⟩ (.tuple [vq,vr]) ⟨[],[],M⟩:=by
 rcases dG Y WB with h|h
 exact SB ab h hm;exact SC h hY hm
def V0(h0:0<Y)(hY:Y<WB*WB)(hm:(iF X).length<=800):∃vq vr M,LF X Y vq vr M∧al 152 [.ptr 0 0,.ptr 1 0,.ptr 2 0,.ptr 3 0] ⟨[[ax false,.iM],[ax false,av (iG (iF X))],[ax false,av (iG (iF Y))],[ax false,.iM]],[],[]⟩ (.tuple [.ptr 0 0,.ptr 3 0]) ⟨[[ax false,vq],[ax false,av (iG (iF X))],[ax false,av (iG (iF Y))],[ax false,vr]],[],M⟩:=by
 obtain⟨vq,vr,M,hD,hd⟩:=VZ h0 hY hm;refine⟨vq,vr,M,hD,?_⟩;cases hD
 ·generalize iF X=xs at *
  generalize iF Y=ys at *
  refine' eN func152;(repeat' first|refine' wc|(refine' oX;(first|exact cD [true,true,true] hd|exact jL);exact kq)|refine' xW [0,1,2,3]|refine' sN<;>intro h|fail);all_goals(refine' rB)
  all_goals rfl
 ·generalize iF X=xs at *
  generalize iF Y=ys,(iF (X%Y)).length=NR at *
  refine' eN func152;(repeat' first|refine' wc|(refine' oX;(first|exact cD [true,true,true] hd|exact jL);exact kq)|refine' xW [0,1,2,3]|refine' sN<;>intro h|fail);all_goals(refine' rB)
  all_goals rfl
 ·generalize iF X=xs at *
  generalize iF Y=ys,(iF (X/Y)).length=NQ at *
  refine' eN func152;(repeat' first|refine' wc|(refine' oX;(first|exact cD [true,true,true] hd|exact jL);exact kq)|refine' xW [0,1,2,3]|refine' sN<;>intro h|fail);all_goals(refine' rB)
  all_goals rfl
 ·generalize iF X=xs at *
  generalize iF Y=ys,(iF (X%Y)).length=NR,(iF (X/Y)).length=NQ at *
  refine' eN func152;(repeat' first|refine' wc|(refine' oX;(first|exact cD [true,true,true] hd|exact jL);exact kq)|refine' xW [0,1,2,3]|refine' sN<;>intro h|fail);all_goals(refine' rB)
  all_goals rfl
def Ul{T:List Nat}(h:j<k)(hk:k<=ws.length):(BV ws T k)[j]?=ws[j]? :=by unfold BV;rw[a8 (by rw[bW];omega),bq,aW h]
variable{cap:Nat}{xs:List Nat}
def ZP{g s:Nat}(hx:okW xs)(hv:ws.take n=xs)(h1:1<=n)(hn:n<=ws.length)(hm:n<=100000)(AI:1<=s)(hs:s<64):
  al 129 [.vw 0 g 0 n cap,.vw 0 g 0 n cap,ar s] ⟨[],[],[AR g ws]⟩ (.g (wG (BU xs s))) ⟨[],[],[AR g (iH ws 0 (qK xs s))]⟩:=by
 have hl:xs.length=n:=by rw[<-hv];simp;omega
 have hT:=oP xs s;obtain⟨m,tN⟩:∃m,n=m+1:=⟨n-1,by omega⟩;have Uc:xs[m]?=some (xs[m]'(by omega)):=aS ab;obtain⟨xm,afc⟩:∃x,x=xs[m]'(by omega):=⟨_,rfl⟩;rw[<-afc]at Uc;have hc:=Hz (s:=s) ab hx Uc;rw[<-tN,<-hl,du]at hc;have js:((n:Int) !=(n:Int))=false:=aa
 have FG:((s:Int)==0)=false:=bk.2 ab;have Bq:((n:Int)==0)=false:=bk.2 ab;have ha:=Ja hs;have hb:u64.wrap (64-(s:Int))=((64-s:Nat):Int):=by rw[show(64:Int)-(s:Int)=((64-s:Nat):Int) by omega];exact jz rfl aL
 have hd:=Ja (n:=64-s) ab;have D7:i64.wrap ((n:Int)-1)=((m:Nat):Int):=by rw[jD ab];omega
 have ny:∀k x,k<n->xs[k]?=some x->ws[k]?=some x:=λk x hk h=>by rw[<-hv,bq,aW hk]at h;exact h
 have hgm:(iG ws)[0+m]?=some (wG xm):=iT (by rw[bc];exact ny m xm ab Uc);refine' eN func129;(repeat first|refine' uD|(refine' oX;exact jL;exact kq));refine' sQ<;>intro h;exfalso;rw[js]at h;cases h;clear h;(try refine' uD);refine' sQ<;>intro h;exfalso;rw[FG]at h;cases h;clear h;(repeat first|refine' uD|(refine' oX;exact jL;exact kq));refine' sQ<;>intro h;exfalso;rw[Bq]at h;cases h;clear h;(repeat first|refine' wb|refine xU [7] rfl ?_);refine ja (env':=iL [(0,.vw 0 g 0 n cap),(1,.vw 0 g 0 n cap),(2,ar s)]) (H':=⟨[],[],[AR g ws]⟩) (iE.le (aA ⟨.inl (aT ar ha),trivial⟩)) aJ ?_;(repeat first|refine' wb|refine xU [8] rfl ?_);refine ja (env':=iL [(0,.vw 0 g 0 n cap),(1,.vw 0 g 0 n cap),(2,ar s),(7,ar ((64-s:Nat):Int))]) (H':=⟨[],[],[AR g ws]⟩) (iE.le (aB ⟨.inl (aT ar hb),trivial⟩)) aJ ?_;(repeat first|refine' wb|refine xU [9] rfl ?_);refine ja (env':=iL [(0,.vw 0 g 0 n cap),(1,.vw 0 g 0 n cap),(2,ar s),(7,ar ((64-s:Nat):Int))]) (H':=⟨[],[],[AR g ws]⟩) (iE.le (aB ⟨.inl (aT ar hd),trivial⟩)) aJ ?_;(repeat first|refine' uD|(refine' oX;(first|exact jL|exact jV m (z:=by exact D7)|exact jM (q:=aI hgm)|exact pP rfl rfl rfl (br _));exact kq));refine jf (S:=Nat) (λk=>iL [(0,.vw 0 g 0 n cap),(1,.vw 0 g 0 n cap),(2,ar s),(6,.g (wG (BU xs s))),(7,ar ((64-s:Nat):Int)),(8,aq (k:Int))]) (λk=>⟨[],[],[AR g (BV ws (qK xs s) (k+1))]⟩) (λk=>k<=m) (λk=>k) m (aZ _)
  (iE.le (aB ⟨.inl (aT ar (by rw[hc];exact xk ab)),.inl rfl,.inl (aT aq D7),trivial⟩)) (kW.of_eq (by rw[show m+1=(qK xs s).length by omega,K4])) (λk hk=>?_)
 have zo:xs[k]?=some (xs[k]'(by omega)):=aS ab;obtain⟨x,kf⟩:∃x,x=xs[k]'(by omega):=⟨_,rfl⟩;rw[<-kf]at zo;have y7:(iG (BV ws (qK xs s) (k+1)))[0+k]?=some (wG x):=iT (by rw[bc,Ul ab ab];exact ny k x ab zo);have Pw:=uq (n:=x) (s:=s) ab;cases k with
 |zero=>
  have lT:=Dd (ws:=ws) (Pl (s:=s) zo) ab;rw[Pm]at lT;(repeat first|refine' uD|(refine' oX;(first|exact jV 0|exact jM (q:=aI y7)|exact kg (nW rfl rfl rfl (br _)) (aT ar Pw)|exact jS (q:=aI y7));exact kq));have e:(iG (BV ws (qK xs s) (0+1))).set (0+0) (wG (x*2^s%WB))=iG (iH ws 0 (qK xs s)):=by rw[<-lT];exact jo
  rw[show AR g (iH ws 0 (qK xs s))=.arr g WT ((iG (BV ws (qK xs s) (0+1))).set (0+0) (wG (x*2^s%WB)))from aT (MO.arr g WT) e.symm];refine' rB;all_goals rfl
 |succ k=>
  have NC:xs[k]?=some (xs[k]'(by omega)):=aS ab;obtain⟨y,pD⟩:∃y,y=xs[k]'(by omega):=⟨_,rfl⟩;rw[<-pD]at NC;have Iq:i64.wrap (((k+1:Nat):Int)-1)=((k:Nat):Int):=by rw[jD ab];omega
  have D8:(iG (BV ws (qK xs s) (k+1+1)))[0+k]?=some (wG y):=iT (by rw[bc,Ul ab ab];exact ny k y ab NC);have lT:=Dd (ws:=ws) (TY (s:=s) ab hx zo NC) ab;have Pu:=xk (n:=y) (s:=64-s) ab;have OC:y/2^(64-s)<WB:=bO (dY _ _) (hx.at NC);have Bo:=MI (a:=x*2^s%WB) (b:=y/2^(64-s)) (bL _ af) OC;obtain⟨A,hA⟩:∃A,A=x*2^s%WB:=⟨_,rfl⟩;obtain⟨B,hB⟩:∃B,B=y/2^(64-s):=⟨_,rfl⟩;rw[<-hA]at Pw Bo lT;rw[<-hB]at Pu Bo lT;(try refine' uD);refine' sQ<;>intro h
  ·clear h;(repeat first|refine' wc|(apply dR rfl rfl;focus(first|exact lU rfl rfl (AG rfl) rfl rfl y7 rfl|exact lU rfl rfl (AG rfl) rfl rfl D8 rfl|exact tP rfl (SZ rfl) rfl rfl rfl rfl af rfl y7 (aZ _)))|(refine' oX;(first|exact jV k (z:=by exact Iq)|exact jV (k+1)|exact nW rfl rfl rfl (br _)|exact pP rfl rfl rfl (br _));exact kq)|refine' xW [10000]);exact⟨k,by omega,by omega,iE.le (aD ⟨.inl (aT aq Iq),trivial⟩),
    kW.of_eq (aT (λl=>(⟨[],[],[MO.arr g WT l]⟩:PH)) (by rw[<-lT,Pw,Pu,show GV.int .u64 (u64.wrap (((BitVec.ofInt u64.bits (A:Int) ||| BitVec.ofInt u64.bits (B:Int)).toNat:Nat):Int))=wG (A ||| B)from aT (GV.int .u64) Bo,bc];exact jo))⟩
  exfalso;have:=aX h;omega
def HH:al 154 [.ptr 0 0,.ptr 0 0] ⟨[[ax false,.iM]],[],[]⟩ (.ptr 0 0) ⟨[[ax false,.iM]],[],[]⟩:=by
 have hs:al 173 [.ptr 0 0,.ptr 0 0] ⟨[[ax false,.iM]],[],[]⟩ (.ptr 0 0) ⟨[[ax false,.iM]],[],[]⟩:=by refine' eN func173;(repeat first|refine' uD|(refine' oX;exact Aa rfl underlying120 (SZ rfl) (.inr rfl) rfl rfl rfl rfl;exact kq));refine' rB;all_goals rfl
 refine' eN func154;(try refine' we @hs);refine' rB;all_goals rfl
def Um{g n c:Nat}{W:List Nat}:al 154 [.ptr 0 0,.ptr 0 0] ⟨[[ax false,.vw 0 g 0 n c]],[],[AR g W]⟩ (.ptr 0 0) ⟨[[ax false,.vw 0 g 0 n c]],[],[AR g W]⟩:=by
 have hs:al 173 [.ptr 0 0,.ptr 0 0] ⟨[[ax false,.vw 0 g 0 n c]],[],[AR g W]⟩ (.ptr 0 0) ⟨[[ax false,.vw 0 g 0 n c]],[],[AR g W]⟩:=by refine' eN func173;(repeat first|refine' uD|(refine' oX;exact Aa rfl underlying120 (SZ rfl) (.inr rfl) rfl rfl rfl rfl;exact kq));refine' rB;all_goals rfl
 refine' eN func154;(try refine' we @hs);refine' rB;all_goals rfl
def CP(h0:Y≠0)(hm:(iF Y).length<=800):al 154 [.ptr 0 0,.ptr 1 0] ⟨[[ax false,.iM],[ax false,av (iG (iF Y))]],[],[]⟩ (.ptr 0 0) ⟨[[ax false,av (iG (iF Y))],[ax false,av (iG (iF Y))]],[],[]⟩:=by
 have h1:=jl h0;rw[iK]at h1;have hs:=Bn h1 ab;have hz:=pH.set h0 ab;have lR:=qS hz.tk;clear hz hm h0;generalize iF Y=ys at *
 generalize ys++List.replicate (lN ys.length-ys.length) 0=W at *
 generalize lN ys.length=cp at *
 generalize ys.length=N at *
 have lT:al 173 [.ptr 0 0,.ptr 1 0] ⟨[[ax false,.iM],[ax false,av (iG ys)]],[],[]⟩ (.ptr 0 0) ⟨[[ax false,.vw 0 0 0 N cp],[ax false,av (iG ys)]],[],[AR 0 W]⟩:=by refine' eN func173;(repeat first|refine' wc|(refine' oX;(first|exact Aa rfl underlying120 (SZ rfl) (.inr rfl) rfl rfl rfl rfl|exact cD [true] hs);exact kq)|refine' xW [0,1]);refine' rB;all_goals rfl
 refine' eN func154;(repeat first|refine' wa|refine oQ (cD [] lT) ?_|refine xU [3] rfl ?_);refine jP 0 rfl (ja (env':=iL [(0,.ptr 0 0)]) (H':=⟨[[ax false,av (iG ys)],[ax false,av (iG ys)]],[],[.gone (0+1)]⟩) (iE.le ⟨.inl rfl,trivial⟩) (kW.of_eq ?_) ?_);rw[<-lR];rfl;(try refine' uN);refine' rB;all_goals rfl
def rM{id off len:Nat}{es:List GV}:ue id n es (.vw id n off len cap)= av ((es.drop off).take len):=by simp[ue]
def V1:ak 172 [.iM,.iM,ar 1] .iM:=by refine' eN func172;(repeat first|refine' uN|refine oQ (qh rfl (EL rfl) (SZ rfl) rfl rfl rfl rfl rfl) ?_);refine' rB;all_goals rfl
def ahe(h:X<WB^n):2*X<WB^(n+1):=by
 rw[cW];have h1:2*X<2*WB^n:=ab
 have h2:WB^n*2<=WB^n*WB:=ch _ af;omega
variable{c:Nat}{W:List Nat}
def ZQ{g:Nat}(hz:pH W c X):al 172 [.vw 0 g 0 (iF X).length c,.vw 0 g 0 (iF X).length c,ar 1] ⟨[],[],[AR g W]⟩ (av (iG (iF (2*X)))) ⟨[],[],[.gone (g+1)]⟩:=by
 have Q5:X<WB^(iF X).length:=by have:=lP (ji X);rwa[jm]at this
 have iI:=ahe Q5;have hle:=hz.le;have EC:=hz.cw;have ud:=hz.cm;have mM:=hz.c1;have lR:=hz.tk;have OZ:=QU (l:=iF X) (s:=1) (ji X) af;rw[jm,dT,bG]at OZ;by_cases h0:X=0
 ·subst h0;rw[dZ,jg];refine' eN func172;(repeat first|refine' wa|refine oQ jL ?_|refine xU [8] rfl ?_);refine nK (iL [(6,.vw 0 g 0 0 c)]) ⟨[],[],[AR g W]⟩ ?_ ?_;(repeat first|refine' uN|refine oQ (qi 0 rfl (EL rfl) (SZ rfl) rfl rfl rfl rfl rfl (bm _)) ?_);exact⟨iE.le ⟨.inl rfl,trivial⟩,aJ⟩;refine jP 0 rfl (ja (env':=iL [(6,av [])]) (H':=⟨[],[],[.gone (g+1)]⟩) (iE.le ⟨.inl rM,trivial⟩) aJ ?_);(try refine' uN);refine' rB;all_goals rfl
 ·have h1:=jl h0;rw[iK]at h1;have EY:=ji X;have hdl:=iU iI;have Bh:=AO iI;have rG:=mf iI;generalize iF X=xs at *
  obtain⟨n,hn⟩:∃n,xs.length=n:=⟨_,rfl⟩;rw[hn]at Q5 iI hle lR OZ h1 hdl Bh rG⊢;have VA:((n:Int)==0)=false:=bk.2 ab;have nn:i64.wrap ((n:Int)+i64.wrap 0)=((n:Nat):Int):=by rw[show i64.wrap 0=0 by decide,jD ab];omega
  have yu:i64.wrap ((n:Int)+1)=((n+1:Nat):Int):=by rw[jD ab];omega
  have KM:i64.wrap ((n:Int)-(n:Int))=0:=by rw[jD ab];omega
  refine' eN func172;(repeat first|refine' uN|refine oQ jL ?_);refine' sQ<;>intro h;exfalso;rw[VA]at h;cases h;clear h;(repeat first|refine' wa|refine oQ (xy rfl rfl rfl af) ?_|refine xU [10] rfl ?_);refine ja (env':=iL [(0,.vw 0 g 0 n c),(1,.vw 0 g 0 n c),(2,ar 1),(7,aq n),(8,aq n)]) (H':=⟨[],[],[AR g W]⟩) (iE.le (aC ⟨.inl (aT aq nn),trivial⟩)) aJ ?_;rcases dG c (n+1)with hc|hc
  ·have mq:=Dg (g:=g) (o:=0) (len:=n) (cap:=c) (m:=AR g W) (n:=n+1) ab hc ab;rw[<-yu]at mq;have Vu:((iG W).drop 0).take n=iG xs:=qS lR;have hzl:(List.replicate (n+1+4) 0).length=n+5:=(by rw[cS]);have BX:=QY (g:=0) (cap:=n+1+4) (s:=1) (ws:=List.replicate (n+1+4) 0) (xs:=xs) EY (by rw[iK];omega) (by rw[iK];omega) (by rw[iK];omega) af af;rw[iK,hn]at BX;have Bm:=oP xs 1;have tR:(iG (iH (List.replicate (n+1+4) 0) 0 (qK xs 1)))[0+n]?=some (wG ((iH (List.replicate (n+1+4) 0) 0 (qK xs 1))[n]'(by rw[iX ab];omega))):=iT (by rw[bc];exact aS _);have nP:(iH (List.replicate (n+1+4) 0) 0 (qK xs 1)).set (0+n) (BU xs 1)=iH (List.replicate (n+1+4) 0) 0 (iQ (n+1) (2*X)):=by
    rw[kx ab ab,OZ]
   have p8:=iN (n+1) (2*X);have y8:=mH (g:=0) (o:=0) (n:=n+1) (cap:=n+1+4) (ws:=iH (List.replicate (n+1+4) 0) 0 (iQ (n+1) (2*X))) (l:=iQ (n+1) (2*X)) (sK p8) (by rw[iX ab,hzl];omega) ab ai;rw[rG]at y8;have zL:((iG (iH (List.replicate (n+1+4) 0) 0 (iQ (n+1) (2*X)))).drop 0).take (iF (2*X)).length=iG (iF (2*X)):=qS (by rw[jW,cV ab];exact Bh);generalize(iH (List.replicate (n+1+4) 0) 0 (qK xs 1))[n]'_=z at tR;have Oc:=fun(ws:List Nat)=>(show putAt (iG ws) 0 []=iG ws from by unfold putAt;simp);generalize iH (List.replicate (n+1+4) 0) 0 (iQ (n+1) (2*X))=W2 at *
   generalize iF (2*X)=ds at *
   generalize Yy:List.replicate (n+1+4) 0=Z0 at *
   generalize BU xs 1=cx at *
   generalize hux:qK xs 1=ux at *
   generalize iH Z0 0 ux=W1 at *
   (repeat first|refine' wa|refine oQ (cD [] mq) ?_|refine xU [11] rfl ?_);refine jP 0 rfl (ja (env':=iL [(0,.vw 1 0 0 (n+1) (n+1+4)),(1,av (iG xs)),(2,ar 1),(7,aq n),(8,aq n)]) (H':=⟨[],[],[.gone (g+1),AR 0 Z0]⟩) (iE.le ⟨.inl rfl,.inl (rM.trans (aT av Vu)),an⟩) aJ ?_);have afi:al 129 [.vw 0 0 0 n (n+1+4),av (iG xs),ar 1] ⟨[],[],[AR 0 Z0]⟩ (.g (wG cx)) ⟨[],[],[AR 0 W1]⟩:=BX;have xx:(iG W1).set (0+n) (wG cx)=iG W2:=jo.trans (aT iG nP);(repeat first|refine' wa|refine oQ jR ?_|refine oQ (qi n rfl (EL rfl) (SZ rfl) rfl rfl rfl KM rfl ab) ?_|refine oQ (ct [] rfl rfl Lx (afi) rfl rfl rfl rfl rfl rfl rfl rfl rfl rfl rfl) ?_|refine oQ (jV n) ?_|refine oQ (jI (iP rfl (SZ rfl) rfl rfl rfl rfl af rfl tR (aZ _)) (aT (λl=>(⟨[],[],[.gone (g+1),MO.arr 0 WT l]⟩:PH)) xx)) ?_|refine oQ (qi 0 rfl (EL rfl) (SZ rfl) rfl rfl rfl rfl KM (bm _)) ?_|refine oQ (jI (AJ rfl (EL rfl) (ZR rfl) rfl (SZ rfl) rfl rfl ab) (aT (λl=>(⟨[],[],[.gone (g+1),MO.arr 0 WT l]⟩:PH)) (Oc W2))) ?_|refine xU [17] rfl ?_);refine nK (iL [(6,.vw 1 0 0 ds.length (n+1+4))]) ⟨[],[],[.gone (g+1),AR 0 W2]⟩ ?_ ?_;(try refine' we @y8);exact⟨iE.le ⟨.inl rfl,trivial⟩,aJ⟩;refine jP 1 rfl (ja (env':=iL [(6,av (iG ds))]) (H':=⟨[],[],[.gone (g+1),.gone (0+1)]⟩) (iE.le ⟨.inl (rM.trans (aT av zL)),trivial⟩) aJ ?_);(try refine' uN);refine' rB;all_goals rfl
  ·have mq:=CM (g:=g) (o:=0) (len:=n) (cap:=c) (m:=AR g W) (n:=n+1) hc;rw[<-yu]at mq;have BX:=ZP (g:=g) (n:=n) (cap:=c) (s:=1) (ws:=W) (xs:=xs) EY lR h1 ab ab af af;have Bm:=oP xs 1;have tR:(iG (iH W 0 (qK xs 1)))[0+n]?=some (wG ((iH W 0 (qK xs 1))[n]'(by rw[iX ab];omega))):=iT (by rw[bc];exact aS _);have nP:(iH W 0 (qK xs 1)).set (0+n) (BU xs 1)=iH W 0 (iQ (n+1) (2*X)):=by
    rw[kx ab ab,OZ]
   have p8:=iN (n+1) (2*X);have y8:=mH (g:=g) (o:=0) (n:=n+1) (cap:=c) (ws:=iH W 0 (iQ (n+1) (2*X))) (l:=iQ (n+1) (2*X)) (sK p8) (by rw[iX ab];omega) ab ai;rw[rG]at y8;have zL:((iG (iH W 0 (iQ (n+1) (2*X)))).drop 0).take (iF (2*X)).length=iG (iF (2*X)):=qS (by rw[jW,cV ab];exact Bh);generalize(iH W 0 (qK xs 1))[n]'_=z at tR;have Oc:=fun(ws:List Nat)=>(show putAt (iG ws) 0 []=iG ws from by unfold putAt;simp);generalize iH W 0 (iQ (n+1) (2*X))=W2 at *
   generalize iF (2*X)=ds,BU xs 1=cx at *
   generalize hux:qK xs 1=ux at *
   generalize iH W 0 ux=W1 at *
   have afi:al 129 [.vw 0 g 0 n c,.vw 0 g 0 n c,ar 1] ⟨[],[],[AR g W]⟩ (.g (wG cx)) ⟨[],[],[AR g W1]⟩:=BX;have xx:(iG W1).set (0+n) (wG cx)=iG W2:=jo.trans (aT iG nP);(repeat first|refine' wa|refine oQ (cD [] mq) ?_|refine oQ jR ?_|refine oQ (qi n rfl (EL rfl) (SZ rfl) rfl rfl rfl KM rfl ab) ?_|refine oQ (ct [] rfl rfl Lx (afi) rfl rfl rfl rfl rfl rfl rfl rfl rfl rfl rfl) ?_|refine oQ (jV n) ?_|refine oQ (jI (iP rfl (SZ rfl) rfl rfl rfl rfl af rfl tR (aZ _)) (aT (λl=>(⟨[],[],[MO.arr g WT l]⟩:PH)) xx)) ?_|refine oQ (qi 0 rfl (EL rfl) (SZ rfl) rfl rfl rfl rfl KM (bm _)) ?_|refine oQ (jI (AJ rfl (EL rfl) (ZR rfl) rfl (SZ rfl) rfl rfl ab) (aT (λl=>(⟨[],[],[MO.arr g WT l]⟩:PH)) (Oc W2))) ?_|refine xU [17] rfl ?_);refine nK (iL [(6,.vw 0 g 0 ds.length c)]) ⟨[],[],[AR g W2]⟩ ?_ ?_;(try refine' we @y8);exact⟨iE.le ⟨.inl rfl,trivial⟩,aJ⟩;refine jP 0 rfl (ja (env':=iL [(6,av (iG ds))]) (H':=⟨[],[],[.gone (g+1)]⟩) (iE.le ⟨.inl (rM.trans (aT av zL)),trivial⟩) aJ ?_);(try refine' uN);refine' rB;all_goals rfl
def ZS:al 153 [.ptr 0 0,.ptr 0 0,ar 1] ⟨[[ax false,.iM]],[],[]⟩ (.ptr 0 0) ⟨[[ax false,.iM]],[],[]⟩:=by have hl:=V1;refine' eN func153;(repeat first|refine' wc|(refine' oX;exact cB [true,true] hl;exact kq)|refine' xW [0]);refine' rB;all_goals rfl
def Un{g:Nat}(hz:pH W c X):al 153 [.ptr 0 0,.ptr 0 0,ar 1] ⟨[[ax false,.vw 0 g 0 (iF X).length c]],[],[AR g W]⟩ (.ptr 0 0) ⟨[[ax false,av (iG (iF (2*X)))]],[],[.gone (g+1)]⟩:=by
 have hl:=ZQ (g:=g) hz;generalize iF (2*X)=ds at *
 generalize(iF X).length=n at *
 refine' eN func153;(repeat first|refine' wc|(refine' oX;exact cD [] hl;exact kq)|refine' xW [0]);refine' rB;all_goals rfl
def ZT{g cap':Nat}(hx:okW xs)(hv:(W.drop 1).take n=xs)(hl:xs.length=n)(h1:1<=n)(hm:n<=100000)(hy:y<=1)(mK:1+n<=W.length)(uJ:n<=cap)(aee:n<=cap'):
  al 161 [.vw 0 g 1 n cap,.vw 0 g 1 n cap',.g (wG y)] ⟨[],[],[AR g W]⟩ (.g (wG (iW xs 1 y))) ⟨[],[],[AR g (iH W 1 (iO xs 1 y))]⟩:=by
 have js:((n:Int) !=(n:Int))=false:=aa
 have Bq:((n:Int)==0)=false:=bk.2 ab;have ny:∀k a,k<n->xs[k]?=some a->W[1+k]?=some a:=λk a hk h=>vX hv hk h;have hlen:∀k,k<=n->(iO (xs.take k) 1 y).length=k:=λk hk=>by rw[jh,bW];omega
 have aet:∀k,k<=n->iW (xs.take k) 1 y=0->iH W 1 (iO (xs.take k) 1 y)=iH W 1 (iO xs 1 y)∧iW xs 1 y=0:=λk hk h0=>by have h2:=Zv hx h0;refine⟨?_,h2.2⟩;rw[h2.1];have h3:=VE (us:=iO (xs.take k) 1 y) hv hl (by rw[hlen k hk];exact hk);rw[hlen k hk]at h3;exact h3.symm
 have sJ:xs[0]?=some (xs[0]'(by omega)):=aS ab;obtain⟨x0,afj⟩:∃x,x=xs[0]'(by omega):=⟨_,rfl⟩;rw[<-afj]at sJ;have x8:(iG W)[1+0]?=some (wG x0):=iT (ny 0 x0 ab sJ);have hb:=sT (x:=x0) (y:=y) (c:=0) af;obtain⟨s1,s2⟩:=qy (y:=1) (c:=y) sJ;have s1':iO (xs.take 1) 1 y=[(x0+y+0)%WB]:=by rw[s1,cU];rfl
 have s2':iW (xs.take 1) 1 y=(x0+y+0)/WB:=by rw[s2,cU];rfl
 have nP:W.set (1+0) ((x0+y+0)%WB)=iH W 1 (iO (xs.take 1) 1 y):=by rw[s1'];have:=kx (ws:=W) (us:=[]) (off:=1) (n:=0) (w:=(x0+y+0)%WB) rfl ab;rw[oh]at this;exact this
 have Ui:(iG (iH W 1 (iO (xs.take 1) 1 y))).length=W.length:=by rw[iK,iX (by rw[hlen 1 h1];omega)]
 have afk:=hx.at sJ;have anW:iW (xs.take 1) 1 y<=1:=by rw[s2'];refine gJ ((bK af).2 ?_);omega
 rw[<-s2']at hb;refine' eN func161;(repeat first|refine' uD|(refine' oX;exact jL;exact kq));refine' sQ<;>intro h;exfalso;rw[js]at h;cases h;clear h;(repeat first|refine' uD|(refine' oX;exact jL;exact kq));refine' sQ<;>intro h;exfalso;rw[Bq]at h;cases h;clear h;(repeat first|refine' uD|(refine' oX;(first|exact jV 0|exact jM (q:=aI x8)|exact iV hb|exact jI (iP rfl (SZ rfl) rfl rfl rfl rfl af rfl x8 (aZ _)) (aT (λl=>(⟨[],[],[MO.arr g WT l]⟩:PH)) (jo.trans (aT iG nP))));exact kq));refine' sQ<;>intro h
 ·have xG:iW (xs.take 1) 1 y=0:=by have:=bQ.1 h;omega
  obtain⟨k1,k2⟩:=aet 1 h1 xG;rw[k1]at Ui⊢;rw[k2];clear h;(repeat first|refine' wc|(apply dR rfl rfl;focus(first|exact AL rfl rfl rfl underlying196 (SZ rfl) (.inr rfl) rfl rfl rfl rfl (SZ rfl) (SZ rfl) ab ab))|(refine' oX;exact jV 0;exact kq)|refine' xW [10000]);refine' rB;all_goals rfl
 ·have mM:iW (xs.take 1) 1 y=1:=by have:=bk.1 h;omega
  clear h;(try refine' uD);refine jf (S:=Nat) (λi=>iL [(0,.vw 0 g 1 n cap),(1,.vw 0 g 1 n cap'),(9,aq (i:Int))]) (λi=>⟨[],[],[AR g (iH W 1 (iO (xs.take i) 1 y))]⟩) (λi=>1<=i∧i<=n∧iW (xs.take i) 1 y=1) (λi=>n-i) 1 ⟨aZ _,h1,mM⟩
   (iE.le an) aJ (λi hi=>?_)
  obtain⟨i1,i2,ic⟩:=hi;(repeat first|refine' uD|(refine' oX;exact jL;exact kq));refine' sQ<;>intro h
  ·have rH:i<n:=by have:=aU h;omega
   clear h;have nk:xs[i]?=some (xs[i]'(by omega)):=aS ab;obtain⟨x,hxe⟩:∃x,x=xs[i]'(by omega):=⟨_,rfl⟩;rw[<-hxe]at nk;have rL:=hx.at nk;have sy:(iG (iH W 1 (iO (xs.take i) 1 y)))[1+i]?=some (wG x):=iT (by rw[oi (by rw[hlen i i2];exact aZ _)];exact ny i x rH nk);obtain⟨t1,t2⟩:=qy (y:=1) (c:=y) nk;rw[ic,cU]at t1 t2;have lG:∀w,w=(x+1)%WB->(iH W 1 (iO (xs.take i) 1 y)).set (1+i) w=iH W 1 (iO (xs.take (i+1)) 1 y):=λw hw=>(by rw[kx (hlen i i2) ab,t1,hw]);have amo:(iG (iH W 1 (iO (xs.take (i+1)) 1 y))).length=W.length:=(by rw[iK,iX (by rw[hlen (i+1) rH];omega)]);(repeat first|refine' uD|(refine' oX;(first|exact jV i (l:=rH)|exact jM (q:=aI sy));exact kq));refine' sQ<;>intro h
   ·have iI:x+1<WB:=(by have h2:=dO.1 h;unfold WB at *;omega);have Yn:=lG (x+1) (bn iI).symm;have xG:iW (xs.take (i+1)) 1 y=0:=(by rw[t2,cZ iI]);obtain⟨k1,k2⟩:=aet (i+1) rH xG;have uT:GV.int .u64 (u64.wrap ((x:Int)+1))=wG (x+1):=aT (GV.int .u64) (jz (n:=x+1) rfl iI);rw[k1]at Yn amo;rw[k2];clear h;(repeat first|refine' wc|(apply dR rfl rfl;focus(first|exact AL rfl rfl rfl underlying196 (SZ rfl) (.inr rfl) rfl rfl rfl rfl (SZ rfl) (SZ rfl) ab ab))|(refine' oX;(first|exact jV i (l:=rH)|exact jI (iP rfl (SZ rfl) rfl rfl rfl rfl af rfl sy (aZ _)) (aT (λl=>(⟨[],[],[MO.arr g WT l]⟩:PH)) ((aT ((iG (iH W 1 (iO (xs.take i) 1 y))).set (1+i)) uT).trans (jo.trans (aT iG Yn))))|exact jV 0);exact kq)|refine' xW [10000]);refine' rB;all_goals rfl
   ·have hxe:x+1=WB:=by
     rcases dG (x+1) WB with h2|h2
     exfalso;have h3:((x:Int) !=18446744073709551615)=true:=dO.2 aK;rw[h3]at h;cases h;omega
    have Yn:=lG 0 (by rw[hxe,Nat.mod_self]);have mM:iW (xs.take (i+1)) 1 y=1:=(by rw[t2,hxe];decide);clear h;(repeat first|refine' uD|(refine' oX;(first|exact jV i (l:=rH)|exact jI (iP rfl (SZ rfl) rfl rfl rfl rfl af rfl sy (aZ _)) (aT (λl=>(⟨[],[],[MO.arr g WT l]⟩:PH)) ((jo (w:=0)).trans (aT iG Yn))));exact kq));exact⟨i+1,⟨by omega,rH,mM⟩,by omega,iE.le (aA ⟨.inl (aT aq (jD ab)),trivial⟩),aJ⟩
  ·have rH:i=n:=by have:=aX h;omega
   clear h;rw[rH,<-hl,du]at ic⊢;rw[ic];(try refine' uD);refine' rB;all_goals rfl
end Go.Proofs.YtckjndkmmfmjjaaGreatDoor