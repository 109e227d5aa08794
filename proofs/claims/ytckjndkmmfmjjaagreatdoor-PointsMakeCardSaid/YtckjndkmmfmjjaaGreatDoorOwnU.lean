/- Steps to pointsMake_card. -/
import Derived.Test.YtckjndkmmfmjjaaGreatDoorOwnT
set_option linter.all false
open Go.Proofs.Tryz
set_option maxRecDepth 100000
set_option maxHeartbeats 32000000
namespace Go.Pure.V
open Go Go.Proofs Go.Proofs.YtckjndkmmfmjjaaGreatDoor
attribute [local irreducible] PW jQ ju PO PC lS
variable{m:Int}
def PN{i:Nat}(hm:m.natAbs<=20000000000000000):(pj m i).natAbs<WB^10:=by
 unfold pj;rw[dI,fo];have h1:(10:Int).natAbs^(33-i)<=10^33:=cf af ab;have h2:(20000000000000000:Nat)*10^33<WB^10:=by decide+kernel
 exact bO (dy hm h1) h2
def aap{X Y:Nat}:0<oz X Y↔Y<X:=by unfold oz;split;omega;split<;>omega
def aaq(x:Int):x%((10:Nat):Int)=0↔x.tmod 10=0:=
 ⟨λh=>Int.tmod_eq_zero_of_dvd (Int.dvd_of_emod_eq_zero h),λh=>Int.emod_eq_zero_of_dvd (Int.dvd_of_tmod_eq_zero h)⟩
def ahp(hm:m.natAbs<=20000000000000000):al 50 [.ptr 0 0] ⟨[jO (nO (m*10^33)) (ni (m*10^33))],[],[]⟩ (.tuple [.g (.agg [.int .i64 (lA (m*10^33)).1,.int .i64 (lA (m*10^33)).2]),aq 0]) ⟨[jO (nO (m*10^33)) (ni (m*10^33))],[],[]⟩:=by
 obtain⟨i0,h33,lL,LI⟩:=Vp hm;have hR:=Za (m:=m) h33;obtain⟨f1,f2⟩:=wJ.aib ⟨m,rfl,hm⟩;have f0:=sb (m*10^33);have aji:∀i:Nat,i<=33->al 70 [.ptr 0 0,.ptr 1 0,.ptr 2 0] ⟨[[ax false,.iM,ax false,.iM],jO (nO (m*10^33)) (ni (m*10^33)),jO 1 (10^(40-i))],[],[]⟩ (.ptr 0 0) ⟨[jO (pj m i) 1,jO (nO (m*10^33)) (ni (m*10^33)),jO 1 (10^(40-i))],[],[]⟩:=λi hi=>by have h1:10^(40-i)<WB^10:=bO (cf af (show 40-i<=40 by omega)) aQ;have h:=Wq (a:=nO (m*10^33)) (b:=ni (m*10^33)) (T:=10^(40-i)) ab (ik (dt af)) (bO f1 aQ) aL h1;rw[(TJ hi).1,(TJ hi).2]at h;exact h
 have aex:∀i:Nat,i<=33->al 71 [aq ((i:Int)-40)] ⟨[],[],[]⟩ (.ptr 0 0) ⟨[jO 1 (10^(40-i))],[],[]⟩:=λi hi=>ac7 (i:=i) ab;have NM:=λi=>SH (z:=pj m i) (PN hm);have se:=Ch (z:=999999999999999999) af af;have mz:=λi=>Wo (x:=pj m i) (y:=999999999999999999) (jv (PN hm) af) (jv (n:=(999999999999999999:Int).natAbs) (k:=2) af af);have RI:=tq (z:=10) af;have IN:=fun(x:Int) (hx:x.natAbs<=999999999999999999)=>LQ (x:=x) (y:=10) af af (bO hx aQ);have hdiv:=fun(x:Int) (hx:x.natAbs<=999999999999999999)=>Wl (x:=x) (y:=10) af af (b8 (iU (k:=2) (bO hx af)) af);have hsg:=λx=>Uz x;have h64:=fun(x:Int) (hx:x.natAbs<=999999999999999999)=>aam (x:=x) ab ab;have AH:∀i,i<=i0->(0<oz (pj m i).natAbs (999999999999999999:Int).natAbs↔i<i0):=λi hi=>by
  rw[aap,show(999999999999999999:Int).natAbs=999999999999999999 from rfl];refine⟨λh=>?_,λh=>by have:=LI i h;omega⟩;rcases dG i i0 with q|q
  exact q
  ·have:i=i0:=ab
   subst this;omega
 have afp:pj m i0≠0->(mA (pj m i0) ((i0:Int)-40)).2<=40:=λh0=>Vq hm h33 lL h0;unfold jO at *
 unfold jn at *
 clear f0 f1 f2 LI;generalize lA (m*10^33)=R at *
 generalize decide (nO (m*10^33)<0)=ap,iF (nO (m*10^33)).natAbs=axs,iF (ni (m*10^33))=bxs at *
 generalize iF (999999999999999999:Int).natAbs=mxs at *
 generalize decide ((999999999999999999:Int)<0)=mb at *
 generalize iF (1:Int).natAbs=o1 at *
 generalize decide ((1:Int)<0)=ob at *
 generalize iF 1=os at *
 generalize iF ((10:Nat):Int).natAbs=ts at *
 generalize decide (((10:Nat):Int)<0)=tb at *
 refine' eN func50;(try refine' uN);refine jK (S:=Nat) (λi=>[(0,.ptr 0 0),(2,.ptr 1 0),(4,aq ((i:Int)-40))]) (λ_=>⟨[[ax ap,av (iG axs),ax false,av (iG bxs)],[aq 0,aq 0]],[],[]⟩) (λi=>i<=i0) (λi=>i0-i) 0 (bm _)
  (iE.le an) aJ (λ_=>rfl) (λi hi=>?_)
 have aey:=aji i ab;have aez:=aex i ab;have YG:=NM i;have aeA:=mz i;have ajj:=AH i hi;clear aji aex NM mz AH;generalize iF (10^(40-i))=ps at *
 generalize oz (pj m i).natAbs (999999999999999999:Int).natAbs=cc at *
 (try refine' uN);refine' sQ<;>intro h
 ·clear h;by_cases iI:i<i0
  ·generalize iF (pj m i).natAbs=qs at *
   generalize decide (pj m i<0)=qb at *
   (repeat first|refine' uN|refine oQ (cB [] aez) ?_|refine oQ (cD [] aey) ?_|refine oQ (cB [] YG) ?_|refine oQ (cB [] se) ?_|refine oQ (cB [] aeA) ?_);refine' sQ<;>intro h;clear h;(try refine' uN);exact⟨i+1,iI,by omega,iE.le (aA ⟨.inl (aT aq (by rw[jD ab];omega)),trivial⟩),lq.mk [_,_,_,_] [] [] rfl⟩;exfalso;have h2:=aX h;exact h2 (ajj.2 iI)
  ·have hii:i=i0:=ab
   subst hii;have amz:=hsg (pj m i);generalize hq:pj m i=q at *
   (repeat first|refine' uN|refine oQ (cB [] aez) ?_|refine oQ (cD [] aey) ?_|refine oQ (cB [] YG) ?_|refine oQ (cB [] se) ?_|refine oQ (cB [] aeA) ?_);refine' sQ<;>intro h;exfalso;have h2:=aU h;exact iI (ajj.1 h2);clear h;(try refine' we @amz);refine' sQ<;>intro h
   ·have hz:q=0:=(Fe q).1 (bQ.1 h);rw[aW hz]at hR;subst hR;(try refine' uN);refine' rP;all_goals rfl
   have hz:q≠0:=λe=>(by rw[(Fe q).2 e]at h;cases h);rw[aV hz]at hR;have afp:=afp hz;rw[<-hR]at afp;clear h;(try refine' uN);refine jK (S:=Int×Int) (λs=>[(2,.ptr 1 0),(4,aq s.2),(6,.ptr 4 0)]) (λs=>⟨[[ax ap,av (iG axs),ax false,av (iG bxs)],[aq 0,aq 0],[ax (decide (q<0)),av (iG (iF q.natAbs)),ax false,av (iG os)],[ax ob,av (iG o1),ax false,av (iG ps)],[ax (decide (s.1<0)),av (iG (iF s.1.natAbs))],[ax mb,av (iG mxs)]],[],[]⟩)
    (λs=>mA s.1 s.2=R∧s.1≠0∧s.1.natAbs<=999999999999999999∧ -40<=s.2) (λs=>s.1.natAbs) (q,(i:Int)-40) ⟨hR.symm,hz,lL,by dsimp only;omega⟩
    (iE.le an) aJ (λ_=>rfl) (λs hs=>?_)
   obtain⟨x,e⟩:=s;obtain⟨s1,s2,s3,s4⟩:=hs;dsimp only at s1 s2 s3 s4;have aq6:e<=40:=(by have:=(Hw x.natAbs x e (aZ _) s4).2.2.1;rw[s1]at this;omega);have aeB:=IN x s3;have aeC:=hdiv x s3;have afq:=hsg (x%((10:Nat):Int));have amA:=h64 x s3;have XN:=aaq x;have kl:=Fe (x%((10:Nat):Int));clear IN hdiv hsg h64;by_cases OY:x.tmod 10=0
   ·rw[kl.2 (XN.2 OY)]at afq;have KY:=vm (e:=e) ⟨s2,OY⟩;rw[s1]at KY;have oH:x.tdiv 10≠0:=λq=>s2 (by have:=Int.mul_tdiv_add_tmod x 10;rw[q,OY]at this;omega);have lr:(x.tdiv 10).natAbs=x.natAbs/10:=(by rw[Int.natAbs_tdiv];rfl);rw[show x.tdiv ((10:Nat):Int)=x.tdiv 10 from rfl]at aeC;generalize hB:iF (x.tdiv 10).natAbs=ys at *
    generalize hC:decide (x.tdiv 10<0)=yb at *
    generalize iF (x%((10:Nat):Int)).natAbs=ms at *
    generalize decide (x%((10:Nat):Int)<0)=mb2 at *
    generalize iF x.natAbs=xs,decide (x<0)=xb at *
    (repeat first|refine' uN|refine oQ (cB [] RI) ?_|refine oQ (cD [] aeB) ?_|refine oQ (cB [] afq) ?_|refine oQ (cD [] aeC) ?_);exact⟨(x.tdiv 10,e+1),⟨KY.symm,oH,by dsimp only;omega,by dsimp only;omega⟩,by dsimp only;omega,iE.le ⟨.inl rfl,.inl (aT aq (jD ab)),an⟩,lq.mk [_,_,_] [] [] (by dsimp only;rw[hB,hC];rfl)⟩
   ·have js:Og (x%((10:Nat):Int))≠0:=λq=>OY (XN.1 (kl.1 q));rw[vl (λq=>OY q.2)]at s1;subst s1;generalize Og (x%((10:Nat):Int))=sg0 at *
    generalize iF (x%((10:Nat):Int)).natAbs=ms at *
    generalize decide (x%((10:Nat):Int)<0)=mb2 at *
    generalize iF x.natAbs=xs,decide (x<0)=xb at *
    (try refine' wg @RI @aeB @afq);refine' sQ<;>intro h;exact absurd (bQ.1 h) js;clear h;(try refine' uN);refine' sQ<;>intro h;exfalso;have:=aU h;dsimp only at this;omega;clear h;(try refine' we @amA);refine' rP;all_goals rfl
 exfalso;have:=aX h;omega
end Go.Pure.V