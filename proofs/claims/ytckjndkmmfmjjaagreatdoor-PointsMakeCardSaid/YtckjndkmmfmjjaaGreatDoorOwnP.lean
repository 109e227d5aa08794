/- Steps to pointsMake_card. -/
import Derived.Test.YtckjndkmmfmjjaaGreatDoorOwnM
import Derived.Test.YtckjndkmmfmjjaaGreatDoorOwnN
set_option linter.all false
open Go.Proofs.Tryz
set_option maxRecDepth 100000
set_option maxHeartbeats 32000000
namespace Go.Proofs.YtckjndkmmfmjjaaGreatDoor
open Go Go.Pure
attribute [local irreducible] PW jQ ju PO PC lS
def Uq(a b:iD):ak 56 [.g a.g,.g b.g] (.g (iD.mk (tk (pA a b)) (ty (pA a b)) 0 0 ⟨#[]⟩ []).g):=by
 obtain⟨k,y,c,e,t,l⟩:=a;obtain⟨k',y',c',e',t',l'⟩:=b;by_cases h3:k=3∧k'=3
 ·obtain⟨rfl,rfl⟩:=h3;by_cases hw:iZ c e=0∧iZ c' e'=0;have hd:=Up hw.1 hw.2;have hl:pA (.mk 3 y c e t l) (.mk 3 y' c' e' t' l')=tB (decide (s6 c e c' e'<0)):=(by simp[pA,hw.1,hw.2]);rw[hl];generalize s6 c e c' e'=r at hd;have hb:=GC (decide (r<0));have hk:tk (tB (decide (r<0)))=2∧ty (tB (decide (r<0)))=decide (r<0):=(by cases decide (r<0)<;>decide);rw[hk.1,hk.2];refine' eN func56;(try refine' wl @hd @hb);refine' rT;rfl
  ·obtain⟨w,nn,hd⟩:=ZX hw;have hn:=Uo;have hl:pA (.mk 3 y c e t l) (.mk 3 y' c' e' t' l')=0:=(by rw[xd,aW ⟨rfl,rfl⟩,aW ab]);rw[hl];clear hl;refine' eN func56;(repeat' first|refine' wa|refine oQ (iV hd) ?_|refine oQ (iV hn) ?_|refine xU [5] rfl ?_|refine' sN<;>intro h|fail);all_goals(first|(exfalso;first|(simp_all;done)|(simp_all;omega))|(refine' rT;rfl))
 ·by_cases h4:k=4∧k'=4;obtain⟨rfl,rfl⟩:=h4;have hl:pA (.mk 4 y c e t l) (.mk 4 y' c' e' t' l')=tB (Op.bytesLess t.toList t'.toList):=(by simp[pA]);rw[hl];have hb:=GC (Op.bytesLess t.toList t'.toList);have hk:tk (tB (Op.bytesLess t.toList t'.toList))=2∧ty (tB (Op.bytesLess t.toList t'.toList))=Op.bytesLess t.toList t'.toList:=(by cases Op.bytesLess t.toList t'.toList<;>decide);rw[hk.1,hk.2];refine' eN func56;(try refine' wk @hb);refine' rT;rfl
  ·have hl:pA (.mk k y c e t l) (.mk k' y' c' e' t' l')=0:=by rw[xd,aV h3,aV h4]
   rw[hl];have hn:=Uo;clear hl;refine' eN func56;(repeat' first|refine' wa|refine oQ (iV hn) ?_|refine xU [2,7] rfl ?_|refine' sN<;>intro h|fail);all_goals(first|(exfalso;first|(simp_all;done)|(simp_all;omega))|(refine' rT;rfl))
end Go.Proofs.YtckjndkmmfmjjaaGreatDoor