/- The law PointsMake holds, as a tied card: for every kind, every row of tests and every value the program returns true, and leaves them as they were. Conditions: the listed variables hold what the program's own text lays (tied by the card); the open variables may hold anything. -/
import Derived.Test.YtckjndkmmfmjjaaGreatDoorOwnE2
namespace Go.Proofs.YtckjndkmmfmjjaaGreatDoor
open Go Go.Pure Go.Shelf Go.Lib Go.ChangeShapes Go.WideShapes Go.ChangeAt Go.RowKit Go.Clock
theorem adq:Tryz.pinned.checked.prog.funcNamed Rows.pointsMakeRow.func=some 3:=aj
set_option maxRecDepth 100000 in
theorem aaL:joinedFacts Tryz.pinned.checked.prog 3 Tryz.f3 (OpenSpec.ofChange Rows.pointsMakeSpec).bare Rows.pointsMakeRow=true:=by unfold joinedFacts;exact(nc (nc (nc (nc (nc (nc (nc (nc (nc (nc (nc (nc (nc (nc (nc (nc (nc (nc (nc (nc (nc (nc (nc (nc (nc (nc (nc (nc (nc (nc (nc j0 j1) j2) j3) j4) j5) j6) j7) j8) j9) j10) j11) j12) j13) j14) j15) j16) j17) j18) j19) j20) j21) j22) j23) j24) j25) j26) j27) j28) j29) j30) j31)
theorem ahy:Tryz.f3.isInstance Tryz.pinned.checked.prog Rows.pointsMakeRow.origin Rows.pointsMakeRow.targs:=aU aj
theorem ahz:Tryz.f3.isWrapper Tryz.pinned.checked.prog Rows.pointsMakeRow.wrapper Rows.pointsMakeRow.mainSum:=by unfold Func.isWrapper;first|(rw[aW (by decide+kernel)];kernel_rfl)|(rw[aV (by decide+kernel)];exact⟨rfl,rfl⟩)
theorem Hk:Rows.PointsMakeSaid:=
 OpenClaim.holds_of_cond 3 Tryz.f3 rfl rfl rfl rfl rfl rfl rfl ⟨rfl,rfl,rfl,rfl,rfl⟩ rfl rfl rfl rfl rfl adq Tryz.func3 aaL ahy ahz
  (λos started H enc _ F=>by rw[OpenClaim.pre_eq_preRow];exact Ej os started H enc F)
theorem plain(f:FuncId)(fn:Func)(hf:Tryz.pinned.checked.prog.funcNamed "verdict/verdictlaw9.PointsMake" =some f)(hfn:Tryz.pinned.checked.prog.funcs[f]?=some fn):
  true=Tryz.pinned.checked.prog.looks []∧∀(j:Nat) t,fn.params[j]?=some t->Tryz.pinned.checked.prog.wantsStandIn t=false:=by
 obtain rfl:f=3:=cE ((show Tryz.prog.funcNamed "verdict/verdictlaw9.PointsMake" =some 3 by kernel_rfl).symm.trans hf) |>.symm;obtain rfl:fn=Tryz.f3:=(cE (Tryz.func3.symm.trans hfn)).symm;refine⟨by kernel_rfl,λj t ht=>?_⟩;have hm:t∈Tryz.f3.params.toList:=by simpa using fP ht
 have lM:(Tryz.f3.params.toList.all λu=> !Tryz.prog.wantsStandIn u)=true:=aj
 exact(show Tryz.prog.wantsStandIn t=false by simpa using cY.1 lM t hm)
theorem pointsMake_card:Rows.PointsMakeCardSaid:=
 Claim7.holds_tied_plain_at .later [] _ _ _ _ Hk (λ_ h=>by cases h) aj (λ_ h=>by cases h) pointsMake_row_tie rfl ⟨rfl,rfl⟩ aj rfl plain aj
#print axioms pointsMake_card
end Go.Proofs.YtckjndkmmfmjjaaGreatDoor