/- Steps to pointsMake_card. -/
import Derived.Test.YtckjndkmmfmjjaaGreatDoorOwnA2
set_option linter.all false
open Go.Proofs.Tryz
set_option maxRecDepth 100000
set_option maxHeartbeats 32000000
namespace Go.Proofs.YtckjndkmmfmjjaaGreatDoor
open Go Go.Pure
attribute [local irreducible] PW jQ ju PO PC lS
def Mii:Tryz.prog.underlying 66=some (.map 3 3):=aj
def Uii:Tryz.prog.underlying 3=some (.int .i64):=aj
def SS:∀{v:iD},mc v->iY v=1∨iY v=2∨iY v=3∨iY v=4
 |.mk _ _ _ _ _ _,h=>h.1
def Dr{ty:Int}:∀(n:Nat) (t:iJ),lp n t->ak 10 [.g t.g,.g (.agg [.int .i64 ty,.sl []])] (ax (tY t ty))
 |n+1,.mk k a b oa ob kids,h=>by
  obtain⟨h1,h2,h3,h4⟩:=h;have ih:8<=k->∀x∈kids,ak 10 [.g x.g,.g (.agg [.int .i64 ty,.sl []])] (ax (tY x ty)):=λh8 x hx=>Dr n x ((h4 h8).2 x hx);have g1:(iJ.gs kids).length=kids.length:=by simp[iJ.jd]
  rw[OW];obtain⟨a0,a1,a2,a3,a4,a5⟩:=a;obtain⟨b0,b1,b2,b3,b4,b5⟩:=b;by_cases k1:k=1;subst k1;rw[aW rfl];clear ih;refine' eN func10;(repeat first|refine' uN|refine oQ (yF rfl) ?_|refine oQ (AE rfl Mii Uii rfl rfl rfl rfl rfl rfl) ?_);refine' rT;rfl;rw[aV k1];by_cases uG:k=8∨k=9
  ·rw[aW uG];have zu:=(h4 ab).1;have QN:=ih ab;clear h1 h2 h3 h4 ih;generalize hR:uF kids ty=R;rcases uG with rfl|rfl
   all_goals
    refine' eN func10
    (repeat first|refine' uN|refine oQ (yF rfl) ?_|refine oQ (AE rfl Mii Uii rfl rfl rfl rfl rfl rfl) ?_)
    refine jK (S:=Nat) (λi=>[(3,.ptr 1 0),(18,av (iJ.gs kids)),(19,aq kids.length),(20,aq i)])
     (λ_=>⟨[(iJ.mk _ (iD.mk a0 a1 a2 a3 a4 a5) (iD.mk b0 b1 b2 b3 b4 b5) oa ob kids).g.cells.map PV.g,[aq ty,av []]],[],[.map [(.int .i64 2,.int .i64 2),(.int .i64 3,.int .i64 3),(.int .i64 4,.int .i64 4)]]⟩) (λi=>i<=kids.length∧uF (kids.drop i) ty=R) (λi=>kids.length-i) 0 ⟨bm _,hR⟩
     (iE.le (aA ⟨.inl (aT (λk:Nat=>aq k) g1),an⟩)) aJ (λ_=>rfl) (λi hi=>?_)
    obtain⟨hi,kS⟩:=hi
    (try refine' uN)
    refine' sQ<;>intro h
    ·have iI:i<kids.length:=by have:=aU h;omega
     have hg:(iJ.gs kids)[((i:Int)).toNat]?=some kids[i].g:=by rw[iJ.jd];exact lg iI
     have ih:=QN kids[i] (bJ iI)
     rw[bY iI,uF]at kS
     generalize kids[i]=x at hg ih kS
     generalize tY x ty=r at ih kS
     obtain⟨x0,⟨y0,y1,y2,y3,y4,y5⟩,⟨z0,z1,z2,z3,z4,z5⟩,x3,x4,x5⟩:=x
     clear h
     cases r with
     |true=>
      rw[Bool.true_and]at kS;(repeat first|refine' uN|refine oQ (iV ih) ?_|refine oQ (jA (q:=aI hg)) ?_);exact⟨i+1,⟨iI,kS⟩,by omega,iE.le (aB ⟨.inl (aT aq (jD ab)),trivial⟩),lq.mk [_] [] [] rfl⟩
     |false=>
      rw[dN]at kS;subst kS;(repeat first|refine' uN|refine oQ (iV ih) ?_|refine oQ (jA (q:=aI hg)) ?_);refine' rT;rfl
    ·have lk:i=kids.length:=by have:=aX h;omega
     subst lk
     rw[dv,uF]at kS
     subst kS
     (try refine' uN)
     refine' rT
     rfl
  ·rw[aV uG];have afs:2<=k∧k<=7:=ab;have Iq:(k==1)=false:=bk.2 k1;have hk8:(k==8)=false:=bk.2 ab;have hk9:(k==9)=false:=bk.2 ab;have ha:=SS (h2 afs);have ha:a0=1∨a0=2∨a0=3∨a0=4:=ha;show PC _ _ _ _ (ax (decide (ty=6∨a0=1∨(if a0=2∨a0=3∨a0=4 then a0 else 0)=ty))) _;clear ih h1 h2 h3 h4;rcases ha with rfl|rfl|rfl|rfl
   all_goals
    refine' eN func10
    (repeat' first|refine' uN|refine oQ (yF rfl) ?_|refine oQ (AE rfl Mii Uii rfl rfl rfl rfl rfl rfl) ?_|refine oQ (Kn rfl Mii Uii (ZR rfl) rfl rfl rfl rfl rfl rfl) ?_|refine' sN<;>intro h|fail)
    all_goals(first|(exfalso;simp_all;done)|(refine' rT;simp_all;done)|(refine' rT;rw[gG];simp_all;done)|(refine' rT;rw[gG];simp_all;omega))
end Go.Proofs.YtckjndkmmfmjjaaGreatDoor