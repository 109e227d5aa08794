/- Steps to pointsMake_card. -/
import Derived.Test.YtckjndkmmfmjjaaGreatDoorOwnF
set_option linter.all false
open Go.IntKind (i64)
open Go.Proofs.Tryz
set_option maxRecDepth 100000
set_option maxHeartbeats 32000000
namespace Go.Proofs.YtckjndkmmfmjjaaGreatDoor
open Go Go.Pure
attribute [local irreducible] PW jQ ju PO PC lS
def wrap64{n:Int}(h: -9223372036854775808<=n∧n<9223372036854775808):i64.wrap n=n:=by simp[IntKind.wrap,IntKind.bits,IntKind.signed];omega
def GC(b:Bool):ak 11 [ax b] (.g (iD.mk 2 b 0 0 ⟨#[]⟩ []).g):=by refine' eN func11;(try refine' uN);refine' rT;rfl
def Uo:ak 84 [] (.g (iD.mk 1 false 0 0 ⟨#[]⟩ []).g):=by refine' eN func84;(try refine' uN);refine' rT;rfl
def LH(c e:Int):ak 81 [.g (.agg [.int .i64 c,.int .i64 e])] (aq (iZ c e)):=by
 unfold iZ;refine' eN func81;(repeat' first|refine' uN|refine oQ jR ?_|refine' sN<;>intro h|fail);all_goals(refine' rT;simp_all)
 all_goals omega
end Go.Proofs.YtckjndkmmfmjjaaGreatDoor