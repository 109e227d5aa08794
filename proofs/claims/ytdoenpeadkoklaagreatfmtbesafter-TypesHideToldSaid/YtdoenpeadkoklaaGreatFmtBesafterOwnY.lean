/- The law TypesHide holds, as a told and tied card: for every expression, every names and every name more the program returns true, and leaves them as they were. Conditions: the listed variables hold what the program's own text lays (tied by the card); the texts of package fmt are told, and none is asked for. -/
import Derived.Test.YtdoenpeadkoklaaGreatFmtBesafterOwnX
namespace Go.Proofs.YtdoenpeadkoklaaGreatFmtBesafter
open Go Go.Pure Go.Shelf Go.Lib Go.ChangeShapes Go.WideShapes Go.ChangeAt Go.RowKit
open Go.Extern.Stop Go.Stop Go.Extern
theorem told_all(os:Os)(st:os.Started)(_:Stop.quiet Tryz.pinned.checked.prog os)(H:Type)(enc:TypeId×Value→H)(_: ∀a b,enc a=enc b→a=b):
  ReturnsInTold Rows.typesHideRow.shortTexts Rows.typesHideRow.assume Tryz.pinned.checked os 3 .any Input.okWide ((OpenSpec.ofChange Rows.typesHideSpec).preRow enc Tryz.pinned.checked.prog Tryz.f3 Rows.typesHideRow.domain Rows.typesHideRow.apart Rows.typesHideRow.laid)
   (fun F=>((OpenSpec.ofChange Rows.typesHideSpec).at F).post enc Tryz.pinned.checked.prog Tryz.f3 Rows.typesHideRow.apart Rows.typesHideRow.fresh Rows.typesHideRow.handsOn Rows.typesHideRow.again) (aloneAtReturn Tryz.pinned.checked.prog) (Rows.typesHideRow.always Tryz.pinned.checked.prog []):=
 typesHide_lifted os st H enc
theorem q8:Rows.typesHideRow.wfByText (OpenSpec.ofChange Rows.typesHideSpec)=true:=by kernel_rfl
theorem q10:mapsRowed Tryz.pinned.checked.prog=true:=by kernel_rfl
theorem q11:namedTie Tryz.pinned.checked.prog Rows.typesHideRow.namedList (OpenSpec.ofChange Rows.typesHideSpec).vars=true:=by kernel_rfl
theorem q12:Tryz.pinned.checked.prog.funcNamed Rows.typesHideRow.func=some 3:=by kernel_rfl
theorem q13:(Tryz.f3.params.toList.all fun t=>Tryz.pinned.checked.prog.readableRec t)=true:=by kernel_rfl
theorem q14:Tryz.f3.isInstance Tryz.pinned.checked.prog Rows.typesHideRow.origin Rows.typesHideRow.targs:=of_decide_eq_true (by kernel_rfl)
theorem q15:Tryz.f3.isWrapper Tryz.pinned.checked.prog Rows.typesHideRow.wrapper Rows.typesHideRow.mainSum:=of_decide_eq_true (by kernel_rfl)
theorem q1:Rows.typesHideRow.stops=Tryz.pinned.checked.prog.stops:=stops_are.symm
theorem q2:Rows.typesHideRow.knobs=Tryz.pinned.checked.prog.stopKnobs:=knobs_are.symm
theorem q16:Tryz.pinned.checked.prog.envWorded=true:=by kernel_rfl
theorem q17:Rows.typesHideRow.inPlace=Tryz.pinned.checked.prog.inPlace 3:=by kernel_rfl
theorem q18:Rows.typesHideRow.unfollowed=Tryz.pinned.checked.prog.unfollowed 3:=by kernel_rfl
theorem q19:Rows.typesHideRow.recurses=Tryz.pinned.checked.prog.recurses 3:=by kernel_rfl
theorem q20:Rows.typesHideRow.named=Tryz.pinned.checked.prog.varsNamed 3:=by kernel_rfl
theorem q23:Rows.typesHideRow.maps=(Tryz.f3.params.toList++(OpenSpec.ofChange Rows.typesHideSpec).bare.plain.varTypes Tryz.pinned.checked.prog).any (Tryz.pinned.checked.prog.mapsRec ·):=by kernel_rfl
theorem q24:Rows.typesHideRow.ifaces=(Tryz.f3.params.toList++(OpenSpec.ofChange Rows.typesHideSpec).bare.plain.varTypes Tryz.pinned.checked.prog).any (Tryz.pinned.checked.prog.ifacesRec ·):=by kernel_rfl
theorem q25:Rows.typesHideRow.mapsOut=Tryz.pinned.checked.prog.mapsAmong Tryz.f3.resultTypes.toList:=by kernel_rfl
theorem q26:Rows.typesHideRow.loops=(Tryz.f3.params.toList++(OpenSpec.ofChange Rows.typesHideSpec).bare.plain.varTypes Tryz.pinned.checked.prog).any (Tryz.pinned.checked.prog.loopsFrom ·):=by kernel_rfl
theorem q27:Rows.typesHideRow.wideKeys=(Tryz.f3.params.toList++(OpenSpec.ofChange Rows.typesHideSpec).bare.plain.varTypes Tryz.pinned.checked.prog++Tryz.f3.resultTypes.toList).any (Tryz.pinned.checked.prog.wideKeysFrom ·):=by kernel_rfl
theorem q28:Rows.typesHideRow.narrowed=(OpenSpec.ofChange Rows.typesHideSpec).cond.isSome:=by kernel_rfl
theorem q29:((OpenSpec.ofChange Rows.typesHideSpec).vars.all fun n=>Tryz.pinned.checked.prog.varReadable n)=true:=by kernel_rfl
theorem q31:(Tryz.f3.params.toList.all fun t=> !Tryz.pinned.checked.prog.wantsStandIn t)=true:=by kernel_rfl
theorem q32:Stop.anyFmt Rows.typesHideRow.stops=true:=by kernel_rfl
theorem q4:Rows.typesHideRow.moreEntering Tryz.pinned.checked.prog Tryz.f3:=OpenClaim.moreEntering_of (by kernel_rfl) (by kernel_rfl) (by kernel_rfl) (by kernel_rfl) (by kernel_rfl) (by kernel_rfl) (by kernel_rfl) (by kernel_rfl) (by kernel_rfl) (by kernel_rfl)
theorem q7: ∃os:Os,os.Started∧Stop.quiet Tryz.pinned.checked.prog os:=⟨_,WideRow.started_initial,quiet_all _⟩
theorem q33:Rows.typesHideRow.veiled=(Tryz.f3.params.toList++(OpenSpec.ofChange Rows.typesHideSpec).bare.plain.varTypes Tryz.pinned.checked.prog++Tryz.f3.resultTypes.toList).any (Tryz.pinned.checked.prog.veiledRec ·):=by kernel_rfl
theorem q34:Rows.typesHideRow.veiledFits Tryz.pinned.checked.prog Tryz.f3.params.toList (Tryz.f3.params.toList++(OpenSpec.ofChange Rows.typesHideSpec).bare.plain.varTypes Tryz.pinned.checked.prog++Tryz.f3.resultTypes.toList)=true:=by kernel_rfl
theorem typesHide_told:Rows.TypesHideToldSaid:=
 Claim7.holds_of_told_tied_any_at .later 3 Tryz.f3 "fmt.Sprintf" [] [] _ _ _ _ _ q8 rfl rfl rfl laidOut q10 rfl ⟨rfl,rfl,rfl,rfl,rfl,rfl,rfl⟩ rfl rfl q11 q12 Tryz.func3 q13 q14 q15 q1 rfl q2 q16
  q17 q18 q19 q20 q23 q24 q25 q26 q27 q28 q29 rfl rfl rfl rfl rfl (by kernel_rfl) (by kernel_rfl) q31 q32 (by kernel_rfl) typesHide_row_tie q4 q7 told_all ⟨q33,q34⟩
#print axioms typesHide_told
end Go.Proofs.YtdoenpeadkoklaaGreatFmtBesafter