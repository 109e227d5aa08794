/- Steps to pointsMake_card. -/
import Derived.Test.YtckjndkmmfmjjaaGreatDoorOwnB2
set_option linter.all false
open Go.Proofs.Tryz
set_option maxRecDepth 100000
set_option maxHeartbeats 32000000
namespace Go.Proofs.YtckjndkmmfmjjaaGreatDoor
open Go Go.Pure
attribute [local irreducible] PW jQ ju PO PC lS
def F8(kd:Int)(n:Nat)(es:List GV):PH:=⟨[[.mU (.func 37) [] [.ptr 0 0,.ptr 1 0,.ptr 2 0]],[aq kd],[.lK 0 n]],[],[.arr n 27 es]⟩
def CU{es:List GV}{z x:GV}{n:Nat}(h:es.length=n):(es++[z]).set n x=es++[x]:=by subst h;rw[dW _ _ (aZ _),dA];rfl
def UG{kd:Int}(xY:kd=3∨kd=4):∀(m:Nat) (t:iJ) (n:Nat) (es:List GV),lp m t->mJ t.g->es.length=n->n+(jt kd t).length<=100000000->
  al 37 [.pat t.g.cells,.ptr 0 0,.ptr 1 0,.ptr 2 0] (F8 kd n es) (.tuple []) (F8 kd (n+(jt kd t).length) (es++(jt kd t).map iD.g))
 |0,t,_,_,h,_,_,_=>by cases t;exact absurd h (by simp[lp])
 |m+1,.mk k a b oa ob kids,n,es,oJ,hz,hn,D9=>by
  obtain⟨hza,hzb,zu,mq⟩:=iJ.L7 hz;obtain⟨h1,h2,h3,h4⟩:=oJ;have g1:(iJ.gs kids).length=kids.length:=by simp[iJ.jd]
  have ih:8<=k->∀x∈kids,∀(n:Nat) (es:List GV),es.length=n->n+(jt kd x).length<=100000000->al 37 [.pat x.g.cells,.ptr 0 0,.ptr 1 0,.ptr 2 0] (F8 kd n es) (.tuple []) (F8 kd (n+(jt kd x).length) (es++(jt kd x).map iD.g)):=λh8 x hx n es=>UG xY m x n es ((h4 h8).2 x hx) (mq x hx);rw[uM]at D9⊢;obtain⟨a0,a1,a2,a3,a4,a5⟩:=a;obtain⟨b0,b1,b2,b3,b4,b5⟩:=b;rw[show iY (.mk a0 a1 a2 a3 a4 a5)=a0 from rfl,show iY (.mk b0 b1 b2 b3 b4 b5)=b0 from rfl]at *
  by_cases uG:k=8∨k=9
  ·have aq7:=(h4 ab).1;have QN:=ih ab;rw[aW uG,aV ab,aV ab,cG,cG,qw]at D9⊢;clear h1 h2 h3 h4 ih;unfold F8 at *
   rcases uG with rfl|rfl
   all_goals
    refine' eN func37
    (try refine' uD)
    refine jf (S:=Nat) (λi=>iL [(0,.pat (iJ.mk _ (iD.mk a0 a1 a2 a3 a4 a5) (iD.mk b0 b1 b2 b3 b4 b5) oa ob kids).g.cells),(1,.ptr 0 0),(2,.ptr 1 0),(3,.ptr 2 0),(10,aq kids.length),(11,aq i)])
     (λi=>⟨[[.mU (.func 37) [] [.ptr 0 0,.ptr 1 0,.ptr 2 0]],[aq kd],[.lK 0 (n+((kids.take i).flatMap (jt kd)).length)]],[],[.arr (n+((kids.take i).flatMap (jt kd)).length) 27 (es++((kids.take i).flatMap (jt kd)).map iD.g)]⟩) (λi=>i<=kids.length) (λi=>kids.length-i) 0 (bm _)
     (iE.le (aC ⟨.inl (aT (λk:Nat=>aq k) g1),an⟩)) (kW.of_eq aa) (λi hi=>?_)
    (try refine' uD)
    refine' sQ<;>intro h
    ·have iI:i<kids.length:=by have:=aU h;omega
     have hg:(iJ.gs kids)[((i:Int)).toNat]?=some kids[i].g:=by rw[iJ.jd];exact lg iI
     have vO:=oy (f:=jt kd) iI
     have hle:((kids.take (i+1)).flatMap (jt kd)).length<=(kids.flatMap (jt kd)).length:=by have:=aT (λl=>(l.flatMap (jt kd)).length) (cA (i+1) kids);simp only[eI,bd]at this;omega
     rw[vO,bd]at hle
     have Fg:=QN kids[i] (bJ iI) (n+((kids.take i).flatMap (jt kd)).length) (es++((kids.take i).flatMap (jt kd)).map iD.g) (by rw[bd,dm,hn]) ab
     rw[ep,<-bd,bV,<-eU,<-vO]at Fg
     generalize WL:n+((kids.take i).flatMap (jt kd)).length=L1 at *
     generalize D5:n+((kids.take (i+1)).flatMap (jt kd)).length=L2 at *
     generalize es++((kids.take i).flatMap (jt kd)).map iD.g=E1 at *
     generalize JE:es++((kids.take (i+1)).flatMap (jt kd)).map iD.g=E2 at *
     generalize kids[i]=x at hg Fg
     obtain⟨x0,⟨y0,y1,y2,y3,y4,y5⟩,⟨z0,z1,z2,z3,z4,z5⟩,x3,x4,x5⟩:=x
     clear h vO
     (repeat first|refine' wc|(refine' oX;(first|exact cM [] Fg|exact jA (q:=aI hg));exact kq)|refine' xW [0,1])
     exact⟨i+1,iI,by omega,iE.le (aD ⟨.inl (aT aq (jD ab)),trivial⟩),kW.of_eq (by rw[D5,JE])⟩
    ·have lk:i=kids.length:=by have:=aX h;omega
     subst lk
     rw[du]
     (try refine' uD)
     refine' rB
     all_goals rfl
  ·rw[aV uG,dX]at D9⊢;clear ih h4;unfold F8;by_cases CI:2<=k∧k<=7
   ·have jE:∀z:iD,∀x∈[z.g],x.cells.length=6:=λz x hx=>(by rw[db.1 hx];exact iD.cells z);by_cases h7:k=7
    ·by_cases qa:a0=kd
     ·by_cases qb:b0=kd
      ·rw[aW ⟨CI,qa⟩,aW ⟨h7,qb⟩]at D9⊢;simp only[cG,dX,dQ,bu,bH,bc,b9,dx,fI,Nat.reduceAdd]at D9⊢;have eA:(a0==kd)=true:=bQ.2 qa;have eB:(b0==kd)=true:=bQ.2 qb;have L9:(es++[(iD.mk 0 false 0 0 ⟨#[]⟩ []).g])[((es).length:Int).toNat]?=some ((iD.mk 0 false 0 0 ⟨#[]⟩ []).g):=(by rw[da,a7 (aZ _),dA];rfl);have Ma:∀b:Nat,(⟨[[.mU (.func 37) [] [.ptr 0 0,.ptr 1 0,.ptr 2 0]],[aq kd],[.lK 0 b]],[],[.arr (n+1) 27 ((es++[(iD.mk 0 false 0 0 ⟨#[]⟩ []).g]).set ((es).length:Int).toNat (iD.mk a0 a1 a2 a3 a4 a5).g)]⟩:PH)=⟨[[.mU (.func 37) [] [.ptr 0 0,.ptr 1 0,.ptr 2 0]],[aq kd],[.lK 0 b]],[],[.arr (n+1) 27 (es++[(iD.mk a0 a1 a2 a3 a4 a5).g])]⟩:=λb=>(by rw[da,CU rfl]);have rZ:(es++[(iD.mk a0 a1 a2 a3 a4 a5).g]).length=n+1:=(by simp[hn]);have hj:es++[(iD.mk a0 a1 a2 a3 a4 a5).g,(iD.mk b0 b1 b2 b3 b4 b5).g]=(es++[(iD.mk a0 a1 a2 a3 a4 a5).g])++[(iD.mk b0 b1 b2 b3 b4 b5).g]:=aa;rw[hj];have QB:((es++[(iD.mk a0 a1 a2 a3 a4 a5).g])++[(iD.mk 0 false 0 0 ⟨#[]⟩ []).g])[(((es++[(iD.mk a0 a1 a2 a3 a4 a5).g])).length:Int).toNat]?=some ((iD.mk 0 false 0 0 ⟨#[]⟩ []).g):=(by rw[da,a7 (aZ _),dA];rfl);have Pr:∀b:Nat,(⟨[[.mU (.func 37) [] [.ptr 0 0,.ptr 1 0,.ptr 2 0]],[aq kd],[.lK 0 b]],[],[.arr (n+1+1) 27 (((es++[(iD.mk a0 a1 a2 a3 a4 a5).g])++[(iD.mk 0 false 0 0 ⟨#[]⟩ []).g]).set (((es++[(iD.mk a0 a1 a2 a3 a4 a5).g])).length:Int).toNat (iD.mk b0 b1 b2 b3 b4 b5).g)]⟩:PH)=⟨[[.mU (.func 37) [] [.ptr 0 0,.ptr 1 0,.ptr 2 0]],[aq kd],[.lK 0 b]],[],[.arr (n+1+1) 27 ((es++[(iD.mk a0 a1 a2 a3 a4 a5).g])++[(iD.mk b0 b1 b2 b3 b4 b5).g])]⟩:=λb=>(by rw[da,CU rfl]);clear h1 h2 h3 qa qb CI;subst h7;refine' eN func37;(try refine' uD);refine jf (S:=Nat) (λi=>iL [(0,.pat (iJ.mk 7 (iD.mk a0 a1 a2 a3 a4 a5) (iD.mk b0 b1 b2 b3 b4 b5) oa ob kids).g.cells),(1,.ptr 0 0),(2,.ptr 1 0),(3,.ptr 2 0),(10,aq kids.length),(11,aq i)])
        (λi=>⟨[[.mU (.func 37) [] [.ptr 0 0,.ptr 1 0,.ptr 2 0]],[aq kd],[.lK 0 (n)]],[],[.arr (n) 27 (es)]⟩) (λi=>i<=kids.length) (λi=>kids.length-i) 0 (bm _)
        (iE.le (aC ⟨.inl (aT (λk:Nat=>aq k) g1),an⟩)) aJ (λi hi=>?_)
       (try refine' uD);refine' sQ<;>intro h;have iI:i<kids.length:=(by have:=aU h;omega);clear h;(try refine' uD);exact⟨i+1,iI,by omega,iE.le (aD ⟨.inl (aT aq (jD (by unfold maxLen at zu;omega))),trivial⟩),aJ⟩;clear h;(try refine' uD);refine' sQ<;>intro h;rotate_left;exfalso;rw[eA]at h;cases h;clear h;(try refine' uD);refine DY (iL [(0,.pat (iJ.mk 7 (iD.mk a0 a1 a2 a3 a4 a5) (iD.mk b0 b1 b2 b3 b4 b5) oa ob kids).g.cells),(1,.ptr 0 0),(2,.ptr 1 0),(3,.ptr 2 0)]) ⟨[[.mU (.func 37) [] [.ptr 0 0,.ptr 1 0,.ptr 2 0]],[aq kd],[.lK 0 (n+1)]],[],[.arr (n+1) 27 (es++[(iD.mk a0 a1 a2 a3 a4 a5).g])]⟩ false false 7 rfl rfl rfl mixed [10000] aQ ?_ ?_;(repeat first|refine' uD|(apply dR rfl rfl;focus(first|exact xI rfl rfl (EL rfl) rfl rfl)));(repeat first|refine' uD|(refine' oX;exact vg (es:=es) (xs:=[(iD.mk 0 false 0 0 ⟨#[]⟩ []).g]) (n:=n) rfl (EL rfl) (SZ rfl) (BY rfl) (ZR rfl) rfl rfl rfl rfl (jE _) (by rw[hn];simp<;>omega) (by rw[hn];simp[maxLen]<;>omega);exact kq));refine⟨?_,?_⟩;(repeat first|refine' uD|(refine' oX;(first|exact kO (es:=es++[(iD.mk 0 false 0 0 ⟨#[]⟩ []).g]) rfl (EL rfl) (SZ rfl) rfl rfl rfl (SZ rfl) (br _) (by simp only[bd,bu,bH];omega)|exact jI (iP (es:=es++[(iD.mk 0 false 0 0 ⟨#[]⟩ []).g]) rfl (SZ rfl) rfl rfl rfl rfl af rfl L9 (aZ _)) (Ma _));exact kq));refine⟨?_,?_⟩;(repeat first|refine' uD|(refine' oX;(first|exact kO (es:=es++[(iD.mk 0 false 0 0 ⟨#[]⟩ []).g]) rfl (EL rfl) (SZ rfl) rfl rfl rfl (SZ rfl) (br _) (by simp only[bd,bu,bH];omega)|exact jI (iP (es:=es++[(iD.mk 0 false 0 0 ⟨#[]⟩ []).g]) rfl (SZ rfl) rfl rfl rfl rfl af rfl L9 (aZ _)) (Ma _));exact kq));exact⟨iE.le an,aJ⟩;(repeat first|refine' uD|(refine' oX;(first|exact kO (es:=es++[(iD.mk 0 false 0 0 ⟨#[]⟩ []).g]) rfl (EL rfl) (SZ rfl) rfl rfl rfl (SZ rfl) (br _) (by simp only[bd,bu,bH];omega)|exact jI (iP (es:=es++[(iD.mk 0 false 0 0 ⟨#[]⟩ []).g]) rfl (SZ rfl) rfl rfl rfl rfl af rfl L9 (aZ _)) (Ma _));exact kq));exact⟨iE.le an,aJ⟩;(repeat first|refine' uD|(refine' oX;(first|exact kO (es:=es++[(iD.mk 0 false 0 0 ⟨#[]⟩ []).g]) rfl (EL rfl) (SZ rfl) rfl rfl rfl (SZ rfl) (br _) (by simp only[bd,bu,bH];omega)|exact jI (iP (es:=es++[(iD.mk 0 false 0 0 ⟨#[]⟩ []).g]) rfl (SZ rfl) rfl rfl rfl rfl af rfl L9 (aZ _)) (Ma _));exact kq));exact⟨iE.le an,aJ⟩;(try refine' uD);refine' sQ<;>intro h;rotate_left;exfalso;rw[eB]at h;cases h;clear h;(try refine' uD);refine yW false false 7 rfl rfl rfl mixed [10000] aQ ?_;(repeat first|refine' uD|(apply dR rfl rfl;focus(first|exact xI rfl rfl (EL rfl) rfl rfl)));(repeat first|refine' uD|(refine' oX;exact vg (es:=(es++[(iD.mk a0 a1 a2 a3 a4 a5).g])) (xs:=[(iD.mk 0 false 0 0 ⟨#[]⟩ []).g]) (n:=n+1) rfl (EL rfl) (SZ rfl) (BY rfl) (ZR rfl) rfl rfl rfl rfl (jE _) (by rw[rZ];simp<;>omega) (by rw[rZ];simp[maxLen]<;>omega);exact kq));refine⟨?_,?_⟩
       ·(repeat first|refine' uD|(refine' oX;(first|exact kO (es:=(es++[(iD.mk a0 a1 a2 a3 a4 a5).g])++[(iD.mk 0 false 0 0 ⟨#[]⟩ []).g]) rfl (EL rfl) (SZ rfl) rfl rfl rfl (SZ rfl) (br _) (by simp only[bd,bu,bH];omega)|exact jI (iP (es:=(es++[(iD.mk a0 a1 a2 a3 a4 a5).g])++[(iD.mk 0 false 0 0 ⟨#[]⟩ []).g]) rfl (SZ rfl) rfl rfl rfl rfl af rfl QB (aZ _)) (Pr _));exact kq));refine⟨?_,?_⟩
        ·(repeat first|refine' uD|(refine' oX;(first|exact kO (es:=(es++[(iD.mk a0 a1 a2 a3 a4 a5).g])++[(iD.mk 0 false 0 0 ⟨#[]⟩ []).g]) rfl (EL rfl) (SZ rfl) rfl rfl rfl (SZ rfl) (br _) (by simp only[bd,bu,bH];omega)|exact jI (iP (es:=(es++[(iD.mk a0 a1 a2 a3 a4 a5).g])++[(iD.mk 0 false 0 0 ⟨#[]⟩ []).g]) rfl (SZ rfl) rfl rfl rfl rfl af rfl QB (aZ _)) (Pr _));exact kq));refine' rB;all_goals rfl
        ·(repeat first|refine' uD|(refine' oX;(first|exact kO (es:=(es++[(iD.mk a0 a1 a2 a3 a4 a5).g])++[(iD.mk 0 false 0 0 ⟨#[]⟩ []).g]) rfl (EL rfl) (SZ rfl) rfl rfl rfl (SZ rfl) (br _) (by simp only[bd,bu,bH];omega)|exact jI (iP (es:=(es++[(iD.mk a0 a1 a2 a3 a4 a5).g])++[(iD.mk 0 false 0 0 ⟨#[]⟩ []).g]) rfl (SZ rfl) rfl rfl rfl rfl af rfl QB (aZ _)) (Pr _));exact kq));refine' rB;all_goals rfl
       ·(repeat first|refine' uD|(refine' oX;(first|exact kO (es:=(es++[(iD.mk a0 a1 a2 a3 a4 a5).g])++[(iD.mk 0 false 0 0 ⟨#[]⟩ []).g]) rfl (EL rfl) (SZ rfl) rfl rfl rfl (SZ rfl) (br _) (by simp only[bd,bu,bH];omega)|exact jI (iP (es:=(es++[(iD.mk a0 a1 a2 a3 a4 a5).g])++[(iD.mk 0 false 0 0 ⟨#[]⟩ []).g]) rfl (SZ rfl) rfl rfl rfl rfl af rfl QB (aZ _)) (Pr _));exact kq));refine' rB;all_goals rfl
      ·rw[aW ⟨CI,qa⟩,aV (λq=>qb q.2)]at D9⊢;simp only[cG,dX,dQ,bu,bH,bc,b9,dx,fI,Nat.reduceAdd]at D9⊢;have eA:(a0==kd)=true:=bQ.2 qa;have eB:(b0==kd)=false:=bk.2 qb;have L9:(es++[(iD.mk 0 false 0 0 ⟨#[]⟩ []).g])[((es).length:Int).toNat]?=some ((iD.mk 0 false 0 0 ⟨#[]⟩ []).g):=(by rw[da,a7 (aZ _),dA];rfl);have Ma:∀b:Nat,(⟨[[.mU (.func 37) [] [.ptr 0 0,.ptr 1 0,.ptr 2 0]],[aq kd],[.lK 0 b]],[],[.arr (n+1) 27 ((es++[(iD.mk 0 false 0 0 ⟨#[]⟩ []).g]).set ((es).length:Int).toNat (iD.mk a0 a1 a2 a3 a4 a5).g)]⟩:PH)=⟨[[.mU (.func 37) [] [.ptr 0 0,.ptr 1 0,.ptr 2 0]],[aq kd],[.lK 0 b]],[],[.arr (n+1) 27 (es++[(iD.mk a0 a1 a2 a3 a4 a5).g])]⟩:=λb=>(by rw[da,CU rfl]);clear h1 h2 h3 qa qb CI;subst h7;refine' eN func37;(try refine' uD);refine jf (S:=Nat) (λi=>iL [(0,.pat (iJ.mk 7 (iD.mk a0 a1 a2 a3 a4 a5) (iD.mk b0 b1 b2 b3 b4 b5) oa ob kids).g.cells),(1,.ptr 0 0),(2,.ptr 1 0),(3,.ptr 2 0),(10,aq kids.length),(11,aq i)])
        (λi=>⟨[[.mU (.func 37) [] [.ptr 0 0,.ptr 1 0,.ptr 2 0]],[aq kd],[.lK 0 (n)]],[],[.arr (n) 27 (es)]⟩) (λi=>i<=kids.length) (λi=>kids.length-i) 0 (bm _)
        (iE.le (aC ⟨.inl (aT (λk:Nat=>aq k) g1),an⟩)) aJ (λi hi=>?_)
       (try refine' uD);refine' sQ<;>intro h;have iI:i<kids.length:=(by have:=aU h;omega);clear h;(try refine' uD);exact⟨i+1,iI,by omega,iE.le (aD ⟨.inl (aT aq (jD (by unfold maxLen at zu;omega))),trivial⟩),aJ⟩;clear h;(try refine' uD);refine' sQ<;>intro h;rotate_left;exfalso;rw[eA]at h;cases h;clear h;(try refine' uD);refine DY (iL [(0,.pat (iJ.mk 7 (iD.mk a0 a1 a2 a3 a4 a5) (iD.mk b0 b1 b2 b3 b4 b5) oa ob kids).g.cells),(1,.ptr 0 0),(2,.ptr 1 0),(3,.ptr 2 0)]) ⟨[[.mU (.func 37) [] [.ptr 0 0,.ptr 1 0,.ptr 2 0]],[aq kd],[.lK 0 (n+1)]],[],[.arr (n+1) 27 (es++[(iD.mk a0 a1 a2 a3 a4 a5).g])]⟩ false false 7 rfl rfl rfl mixed [10000] aQ ?_ ?_;(repeat first|refine' uD|(apply dR rfl rfl;focus(first|exact xI rfl rfl (EL rfl) rfl rfl)));(repeat first|refine' uD|(refine' oX;exact vg (es:=es) (xs:=[(iD.mk 0 false 0 0 ⟨#[]⟩ []).g]) (n:=n) rfl (EL rfl) (SZ rfl) (BY rfl) (ZR rfl) rfl rfl rfl rfl (jE _) (by rw[hn];simp<;>omega) (by rw[hn];simp[maxLen]<;>omega);exact kq));refine⟨?_,?_⟩;(repeat first|refine' uD|(refine' oX;(first|exact kO (es:=es++[(iD.mk 0 false 0 0 ⟨#[]⟩ []).g]) rfl (EL rfl) (SZ rfl) rfl rfl rfl (SZ rfl) (br _) (by simp only[bd,bu,bH];omega)|exact jI (iP (es:=es++[(iD.mk 0 false 0 0 ⟨#[]⟩ []).g]) rfl (SZ rfl) rfl rfl rfl rfl af rfl L9 (aZ _)) (Ma _));exact kq));refine⟨?_,?_⟩;(repeat first|refine' uD|(refine' oX;(first|exact kO (es:=es++[(iD.mk 0 false 0 0 ⟨#[]⟩ []).g]) rfl (EL rfl) (SZ rfl) rfl rfl rfl (SZ rfl) (br _) (by simp only[bd,bu,bH];omega)|exact jI (iP (es:=es++[(iD.mk 0 false 0 0 ⟨#[]⟩ []).g]) rfl (SZ rfl) rfl rfl rfl rfl af rfl L9 (aZ _)) (Ma _));exact kq));exact⟨iE.le an,aJ⟩;(repeat first|refine' uD|(refine' oX;(first|exact kO (es:=es++[(iD.mk 0 false 0 0 ⟨#[]⟩ []).g]) rfl (EL rfl) (SZ rfl) rfl rfl rfl (SZ rfl) (br _) (by simp only[bd,bu,bH];omega)|exact jI (iP (es:=es++[(iD.mk 0 false 0 0 ⟨#[]⟩ []).g]) rfl (SZ rfl) rfl rfl rfl rfl af rfl L9 (aZ _)) (Ma _));exact kq));exact⟨iE.le an,aJ⟩;(repeat first|refine' uD|(refine' oX;(first|exact kO (es:=es++[(iD.mk 0 false 0 0 ⟨#[]⟩ []).g]) rfl (EL rfl) (SZ rfl) rfl rfl rfl (SZ rfl) (br _) (by simp only[bd,bu,bH];omega)|exact jI (iP (es:=es++[(iD.mk 0 false 0 0 ⟨#[]⟩ []).g]) rfl (SZ rfl) rfl rfl rfl rfl af rfl L9 (aZ _)) (Ma _));exact kq));exact⟨iE.le an,aJ⟩;(try refine' uD);refine' sQ<;>intro h;exfalso;rw[eB]at h;cases h;clear h;(try refine' uD);refine' rB;all_goals rfl
     ·by_cases qb:b0=kd
      ·rw[aV (λq=>qa q.2),aW ⟨h7,qb⟩]at D9⊢;simp only[cG,dX,dQ,bu,bH,bc,b9,dx,fI,Nat.reduceAdd]at D9⊢;have eA:(a0==kd)=false:=bk.2 qa;have eB:(b0==kd)=true:=bQ.2 qb;have QB:(es++[(iD.mk 0 false 0 0 ⟨#[]⟩ []).g])[((es).length:Int).toNat]?=some ((iD.mk 0 false 0 0 ⟨#[]⟩ []).g):=(by rw[da,a7 (aZ _),dA];rfl);have Pr:∀b:Nat,(⟨[[.mU (.func 37) [] [.ptr 0 0,.ptr 1 0,.ptr 2 0]],[aq kd],[.lK 0 b]],[],[.arr (n+1) 27 ((es++[(iD.mk 0 false 0 0 ⟨#[]⟩ []).g]).set ((es).length:Int).toNat (iD.mk b0 b1 b2 b3 b4 b5).g)]⟩:PH)=⟨[[.mU (.func 37) [] [.ptr 0 0,.ptr 1 0,.ptr 2 0]],[aq kd],[.lK 0 b]],[],[.arr (n+1) 27 (es++[(iD.mk b0 b1 b2 b3 b4 b5).g])]⟩:=λb=>(by rw[da,CU rfl]);clear h1 h2 h3 qa qb CI;subst h7;refine' eN func37;(try refine' uD);refine jf (S:=Nat) (λi=>iL [(0,.pat (iJ.mk 7 (iD.mk a0 a1 a2 a3 a4 a5) (iD.mk b0 b1 b2 b3 b4 b5) oa ob kids).g.cells),(1,.ptr 0 0),(2,.ptr 1 0),(3,.ptr 2 0),(10,aq kids.length),(11,aq i)])
        (λi=>⟨[[.mU (.func 37) [] [.ptr 0 0,.ptr 1 0,.ptr 2 0]],[aq kd],[.lK 0 (n)]],[],[.arr (n) 27 (es)]⟩) (λi=>i<=kids.length) (λi=>kids.length-i) 0 (bm _)
        (iE.le (aC ⟨.inl (aT (λk:Nat=>aq k) g1),an⟩)) aJ (λi hi=>?_)
       (try refine' uD);refine' sQ<;>intro h;have iI:i<kids.length:=(by have:=aU h;omega);clear h;(try refine' uD);exact⟨i+1,iI,by omega,iE.le (aD ⟨.inl (aT aq (jD (by unfold maxLen at zu;omega))),trivial⟩),aJ⟩;clear h;(try refine' uD);refine' sQ<;>intro h;exfalso;rw[eA]at h;cases h;clear h;(try refine' uD);refine' sQ<;>intro h;rotate_left;exfalso;rw[eB]at h;cases h;clear h;(try refine' uD);refine yW false false 7 rfl rfl rfl mixed [10000] aQ ?_;(repeat first|refine' uD|(apply dR rfl rfl;focus(first|exact xI rfl rfl (EL rfl) rfl rfl)));(repeat first|refine' uD|(refine' oX;exact vg (es:=es) (xs:=[(iD.mk 0 false 0 0 ⟨#[]⟩ []).g]) (n:=n) rfl (EL rfl) (SZ rfl) (BY rfl) (ZR rfl) rfl rfl rfl rfl (jE _) (by rw[hn];simp<;>omega) (by rw[hn];simp[maxLen]<;>omega);exact kq));refine⟨?_,?_⟩
       ·(repeat first|refine' uD|(refine' oX;(first|exact kO (es:=es++[(iD.mk 0 false 0 0 ⟨#[]⟩ []).g]) rfl (EL rfl) (SZ rfl) rfl rfl rfl (SZ rfl) (br _) (by simp only[bd,bu,bH];omega)|exact jI (iP (es:=es++[(iD.mk 0 false 0 0 ⟨#[]⟩ []).g]) rfl (SZ rfl) rfl rfl rfl rfl af rfl QB (aZ _)) (Pr _));exact kq));refine⟨?_,?_⟩
        ·(repeat first|refine' uD|(refine' oX;(first|exact kO (es:=es++[(iD.mk 0 false 0 0 ⟨#[]⟩ []).g]) rfl (EL rfl) (SZ rfl) rfl rfl rfl (SZ rfl) (br _) (by simp only[bd,bu,bH];omega)|exact jI (iP (es:=es++[(iD.mk 0 false 0 0 ⟨#[]⟩ []).g]) rfl (SZ rfl) rfl rfl rfl rfl af rfl QB (aZ _)) (Pr _));exact kq));refine' rB;all_goals rfl
        ·(repeat first|refine' uD|(refine' oX;(first|exact kO (es:=es++[(iD.mk 0 false 0 0 ⟨#[]⟩ []).g]) rfl (EL rfl) (SZ rfl) rfl rfl rfl (SZ rfl) (br _) (by simp only[bd,bu,bH];omega)|exact jI (iP (es:=es++[(iD.mk 0 false 0 0 ⟨#[]⟩ []).g]) rfl (SZ rfl) rfl rfl rfl rfl af rfl QB (aZ _)) (Pr _));exact kq));refine' rB;all_goals rfl
       ·(repeat first|refine' uD|(refine' oX;(first|exact kO (es:=es++[(iD.mk 0 false 0 0 ⟨#[]⟩ []).g]) rfl (EL rfl) (SZ rfl) rfl rfl rfl (SZ rfl) (br _) (by simp only[bd,bu,bH];omega)|exact jI (iP (es:=es++[(iD.mk 0 false 0 0 ⟨#[]⟩ []).g]) rfl (SZ rfl) rfl rfl rfl rfl af rfl QB (aZ _)) (Pr _));exact kq));refine' rB;all_goals rfl
      ·rw[aV (λq=>qa q.2),aV (λq=>qb q.2)]at D9⊢;simp only[cG,dX,dQ,bu,bH,bc,b9,dx,fI,Nat.reduceAdd]at D9⊢;have eA:(a0==kd)=false:=bk.2 qa;have eB:(b0==kd)=false:=bk.2 qb;clear h1 h2 h3 qa qb CI;subst h7;refine' eN func37;(try refine' uD);refine jf (S:=Nat) (λi=>iL [(0,.pat (iJ.mk 7 (iD.mk a0 a1 a2 a3 a4 a5) (iD.mk b0 b1 b2 b3 b4 b5) oa ob kids).g.cells),(1,.ptr 0 0),(2,.ptr 1 0),(3,.ptr 2 0),(10,aq kids.length),(11,aq i)])
        (λi=>⟨[[.mU (.func 37) [] [.ptr 0 0,.ptr 1 0,.ptr 2 0]],[aq kd],[.lK 0 (n)]],[],[.arr (n) 27 (es)]⟩) (λi=>i<=kids.length) (λi=>kids.length-i) 0 (bm _)
        (iE.le (aC ⟨.inl (aT (λk:Nat=>aq k) g1),an⟩)) aJ (λi hi=>?_)
       (try refine' uD);refine' sQ<;>intro h;have iI:i<kids.length:=(by have:=aU h;omega);clear h;(try refine' uD);exact⟨i+1,iI,by omega,iE.le (aD ⟨.inl (aT aq (jD (by unfold maxLen at zu;omega))),trivial⟩),aJ⟩;clear h;(try refine' uD);refine' sQ<;>intro h;exfalso;rw[eA]at h;cases h;clear h;(try refine' uD);refine' sQ<;>intro h;exfalso;rw[eB]at h;cases h;clear h;(try refine' uD);refine' rB;all_goals rfl
    ·have hk:k=2∨k=3∨k=4∨k=5∨k=6:=ab;by_cases qa:a0=kd
     ·rw[aW ⟨CI,qa⟩,aV (λq=>h7 q.1)]at D9⊢;simp only[cG,dX,dQ,bu,bH,bc,b9,dx,fI,Nat.reduceAdd]at D9⊢;have eA:(a0==kd)=true:=bQ.2 qa;have L9:(es++[(iD.mk 0 false 0 0 ⟨#[]⟩ []).g])[((es).length:Int).toNat]?=some ((iD.mk 0 false 0 0 ⟨#[]⟩ []).g):=(by rw[da,a7 (aZ _),dA];rfl);have Ma:∀b:Nat,(⟨[[.mU (.func 37) [] [.ptr 0 0,.ptr 1 0,.ptr 2 0]],[aq kd],[.lK 0 b]],[],[.arr (n+1) 27 ((es++[(iD.mk 0 false 0 0 ⟨#[]⟩ []).g]).set ((es).length:Int).toNat (iD.mk a0 a1 a2 a3 a4 a5).g)]⟩:PH)=⟨[[.mU (.func 37) [] [.ptr 0 0,.ptr 1 0,.ptr 2 0]],[aq kd],[.lK 0 b]],[],[.arr (n+1) 27 (es++[(iD.mk a0 a1 a2 a3 a4 a5).g])]⟩:=λb=>(by rw[da,CU rfl]);clear h1 h2 h3 qa CI;clear h7;rcases hk with rfl|rfl|rfl|rfl|rfl
      all_goals
       refine' eN func37
       (try refine' uD)
       refine jf (S:=Nat) (λi=>iL [(0,.pat (iJ.mk _ (iD.mk a0 a1 a2 a3 a4 a5) (iD.mk b0 b1 b2 b3 b4 b5) oa ob kids).g.cells),(1,.ptr 0 0),(2,.ptr 1 0),(3,.ptr 2 0),(10,aq kids.length),(11,aq i)])
        (λi=>⟨[[.mU (.func 37) [] [.ptr 0 0,.ptr 1 0,.ptr 2 0]],[aq kd],[.lK 0 (n)]],[],[.arr (n) 27 (es)]⟩) (λi=>i<=kids.length) (λi=>kids.length-i) 0 (bm _)
        (iE.le (aC ⟨.inl (aT (λk:Nat=>aq k) g1),an⟩)) aJ (λi hi=>?_)
       (try refine' uD)
       refine' sQ<;>intro h
       ·have iI:i<kids.length:=by have:=aU h;omega
        clear h
        (try refine' uD)
        exact⟨i+1,iI,by omega,iE.le (aD ⟨.inl (aT aq (jD (by unfold maxLen at zu;omega))),trivial⟩),aJ⟩
       clear h
       (try refine' uD)
       refine' sQ<;>intro h
       rotate_left
       ·exfalso;rw[eA]at h;cases h
       clear h
       (try refine' uD)
       refine yW false false 7 rfl rfl rfl mixed [10000] aQ ?_
       (repeat first|refine' uD|(apply dR rfl rfl;focus(first|exact xI rfl rfl (EL rfl) rfl rfl)))
       (repeat first|refine' uD|(refine' oX;exact vg (es:=es) (xs:=[(iD.mk 0 false 0 0 ⟨#[]⟩ []).g]) (n:=n) rfl (EL rfl) (SZ rfl) (BY rfl) (ZR rfl) rfl rfl rfl rfl (jE _) (by rw[hn];simp<;>omega) (by rw[hn];simp[maxLen]<;>omega);exact kq))
       refine⟨?_,?_⟩
       ·(repeat first|refine' uD|(refine' oX;(first|exact kO (es:=es++[(iD.mk 0 false 0 0 ⟨#[]⟩ []).g]) rfl (EL rfl) (SZ rfl) rfl rfl rfl (SZ rfl) (br _) (by simp only[bd,bu,bH];omega)|exact jI (iP (es:=es++[(iD.mk 0 false 0 0 ⟨#[]⟩ []).g]) rfl (SZ rfl) rfl rfl rfl rfl af rfl L9 (aZ _)) (Ma _));exact kq))
        refine⟨?_,?_⟩
        ·(repeat first|refine' uD|(refine' oX;(first|exact kO (es:=es++[(iD.mk 0 false 0 0 ⟨#[]⟩ []).g]) rfl (EL rfl) (SZ rfl) rfl rfl rfl (SZ rfl) (br _) (by simp only[bd,bu,bH];omega)|exact jI (iP (es:=es++[(iD.mk 0 false 0 0 ⟨#[]⟩ []).g]) rfl (SZ rfl) rfl rfl rfl rfl af rfl L9 (aZ _)) (Ma _));exact kq))
         refine' rB
         all_goals rfl
        ·(repeat first|refine' uD|(refine' oX;(first|exact kO (es:=es++[(iD.mk 0 false 0 0 ⟨#[]⟩ []).g]) rfl (EL rfl) (SZ rfl) rfl rfl rfl (SZ rfl) (br _) (by simp only[bd,bu,bH];omega)|exact jI (iP (es:=es++[(iD.mk 0 false 0 0 ⟨#[]⟩ []).g]) rfl (SZ rfl) rfl rfl rfl rfl af rfl L9 (aZ _)) (Ma _));exact kq))
         refine' rB
         all_goals rfl
       ·(repeat first|refine' uD|(refine' oX;(first|exact kO (es:=es++[(iD.mk 0 false 0 0 ⟨#[]⟩ []).g]) rfl (EL rfl) (SZ rfl) rfl rfl rfl (SZ rfl) (br _) (by simp only[bd,bu,bH];omega)|exact jI (iP (es:=es++[(iD.mk 0 false 0 0 ⟨#[]⟩ []).g]) rfl (SZ rfl) rfl rfl rfl rfl af rfl L9 (aZ _)) (Ma _));exact kq))
        refine' rB
        all_goals rfl
     ·rw[aV (λq=>qa q.2),aV (λq=>h7 q.1)]at D9⊢;simp only[cG,dX,dQ,bu,bH,bc,b9,dx,fI,Nat.reduceAdd]at D9⊢;have eA:(a0==kd)=false:=bk.2 qa;clear h1 h2 h3 qa CI;clear h7;rcases hk with rfl|rfl|rfl|rfl|rfl
      all_goals
       refine' eN func37
       (try refine' uD)
       refine jf (S:=Nat) (λi=>iL [(0,.pat (iJ.mk _ (iD.mk a0 a1 a2 a3 a4 a5) (iD.mk b0 b1 b2 b3 b4 b5) oa ob kids).g.cells),(1,.ptr 0 0),(2,.ptr 1 0),(3,.ptr 2 0),(10,aq kids.length),(11,aq i)])
        (λi=>⟨[[.mU (.func 37) [] [.ptr 0 0,.ptr 1 0,.ptr 2 0]],[aq kd],[.lK 0 (n)]],[],[.arr (n) 27 (es)]⟩) (λi=>i<=kids.length) (λi=>kids.length-i) 0 (bm _)
        (iE.le (aC ⟨.inl (aT (λk:Nat=>aq k) g1),an⟩)) aJ (λi hi=>?_)
       (try refine' uD)
       refine' sQ<;>intro h
       ·have iI:i<kids.length:=by have:=aU h;omega
        clear h
        (try refine' uD)
        exact⟨i+1,iI,by omega,iE.le (aD ⟨.inl (aT aq (jD (by unfold maxLen at zu;omega))),trivial⟩),aJ⟩
       clear h
       (try refine' uD)
       refine' sQ<;>intro h
       ·exfalso;rw[eA]at h;cases h
       clear h
       (try refine' uD)
       refine' rB
       all_goals rfl
   ·have Iq:k=1:=ab;subst Iq;rw[aV ab,aV ab];simp only[cG,bH,b9,fI];refine' eN func37;(try refine' uD);refine jf (S:=Nat) (λi=>iL [(0,.pat (iJ.mk 1 (iD.mk a0 a1 a2 a3 a4 a5) (iD.mk b0 b1 b2 b3 b4 b5) oa ob kids).g.cells),(1,.ptr 0 0),(2,.ptr 1 0),(3,.ptr 2 0),(10,aq kids.length),(11,aq i)])
     (λi=>⟨[[.mU (.func 37) [] [.ptr 0 0,.ptr 1 0,.ptr 2 0]],[aq kd],[.lK 0 n]],[],[.arr n 27 es]⟩) (λi=>i<=kids.length) (λi=>kids.length-i) 0 (bm _)
     (iE.le (aC ⟨.inl (aT (λk:Nat=>aq k) g1),an⟩)) aJ (λi hi=>?_)
    (try refine' uD);refine' sQ<;>intro h;have iI:i<kids.length:=(by have:=aU h;omega);clear h;(try refine' uD);exact⟨i+1,iI,by omega,iE.le (aD ⟨.inl (aT aq (jD (by unfold maxLen at zu;omega))),trivial⟩),aJ⟩
    ·clear h;(try refine' uD);refine' rB;all_goals rfl
end Go.Proofs.YtckjndkmmfmjjaaGreatDoor