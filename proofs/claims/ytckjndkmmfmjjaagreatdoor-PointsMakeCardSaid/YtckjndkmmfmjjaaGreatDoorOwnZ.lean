/- Steps to pointsMake_card. -/
import Derived.Test.YtckjndkmmfmjjaaGreatDoorOwnV
import Derived.Test.YtckjndkmmfmjjaaGreatDoorOwnP
set_option linter.all false
open Go.Proofs.Tryz
set_option maxRecDepth 100000
set_option maxHeartbeats 32000000
namespace Go.Proofs.YtckjndkmmfmjjaaGreatDoor
open Go Go.Pure
attribute [local irreducible] PW jQ ju PO PC lS
def L6(c e:Int):ak 34 [.g (.agg [.int .i64 c,.int .i64 e])] (.g (iD.mk 3 false c e ⟨#[]⟩ []).g):=by refine' eN func34;(try refine' uN);refine' rT;rfl
def MQ(s:ByteArray):ak 41 [ay s] (.g (iD.mk 4 false 0 0 s []).g):=by refine' eN func41;(try refine' uN);refine' rT;rfl
def ya(a b:iD):Int:=if ty (pA a b)=true then -1 else if ty (pA b a)=true then 1 else 0
def zW(a b:iD):ak 29 [.g a.g,.g b.g] (aq (ya a b)):=by
 have h1:=Uq a b;have h2:=Uq b a;unfold ya;obtain⟨a0,a1,a2,a3,a4,a5⟩:=a;obtain⟨b0,b1,b2,b3,b4,b5⟩:=b;generalize ty (pA (.mk a0 a1 a2 a3 a4 a5) (.mk b0 b1 b2 b3 b4 b5))=p at *
 generalize ty (pA (.mk b0 b1 b2 b3 b4 b5) (.mk a0 a1 a2 a3 a4 a5))=q,tk (pA (.mk a0 a1 a2 a3 a4 a5) (.mk b0 b1 b2 b3 b4 b5))=p1,tk (pA (.mk b0 b1 b2 b3 b4 b5) (.mk a0 a1 a2 a3 a4 a5))=q1 at *
 cases p<;>cases q;all_goals
  refine' eN func29
  (try refine' wl @h1 @h2)
  refine' rT
  rfl
variable{k c e d f:Int}{y:Bool}{t:ByteArray}{l:List iD}
def UF(h1:iZ c e=0)(h2:iZ d f=0)(k1:SmallK (iR c e))(k2:SmallK (iR d f)):ak 35 [.g (iD.mk k y c e t l).g,.g (.agg [.int .i64 d,.int .i64 f])] (.g (kn (iR c e+iR d f)).g):=by
 obtain⟨s1,s2⟩:=KF h1 h2 k1 k2;have ha:=UC h1 h2 s1 s2;unfold kn;have hn:=L6 (lA (iR c e+iR d f)).1 (lA (iR c e+iR d f)).2;generalize(lA (iR c e+iR d f)).1=u at *
 generalize(lA (iR c e+iR d f)).2=v at *
 refine' eN func35;(try refine' wl @ha @hn);refine' rT;rfl
def WN{k':Int}{y':Bool}{t':ByteArray}{l':List iD}(h1:iZ c e=0)(h2:iZ d f=0)(k1:SmallK (iR c e))(k2:SmallK (iR d f)):ak 36 [.g (iD.mk k y c e t l).g,.g (iD.mk k' y' d f t' l').g] (.g (kn (pf (iR c e) (iR d f))).g):=by
 obtain⟨s1,s2⟩:=KF h1 h2 k1 k2;have ha:=UC h1 h2 s1 s2;obtain⟨u,v,hd,hw,hk,_⟩:=Ii (SmallK.add k1 k2);rw[hd]at ha;obtain⟨m1,m2,m3,m4⟩:=R3 hw (by rw[hk];exact SmallK.add k1 k2);have hm:=adh (c:=u) (e:=v) (d:=5) (f:= -1) hw af m1 m2 m3;rw[m4,hk]at hm;unfold kn pf;have hn:=L6 (lA ((iR c e+iR d f)/2)).1 (lA ((iR c e+iR d f)/2)).2;dsimp only at ha;clear hd hw m1 m2 m3 m4 hk s1 s2;generalize(lA ((iR c e+iR d f)/2)).1=p at *
 generalize(lA ((iR c e+iR d f)/2)).2=q at *
 refine' eN func36;(try refine' wm @ha @hm @hn);refine' rT;rfl
def WO(hs:t.size<=1000):ak 42 [.g (iD.mk k y c e t l).g] (.g (iD.mk 4 false 0 0 (t++⟨#[0]⟩) []).g):=by
 have ht:=MQ (t++⟨#[0]⟩);have AI:t.size+(⟨#[0]⟩:ByteArray).size<=9223372036854775807:=by show t.size+1<=_;omega
 refine' eN func42;(repeat first|refine' uN|refine oQ (iV ht) ?_|refine oQ (JH rfl rfl rfl AI) ?_);refine' rT;rfl
end Go.Proofs.YtckjndkmmfmjjaaGreatDoor