/- Steps to pointsMake_card. -/
import Derived.Test.YtckjndkmmfmjjaaGreatDoorOwnD2
import Derived.Test.YtckjndkmmfmjjaaGreatDoorOwnY
import Derived.Test.YtckjndkmmfmjjaaGreatDoorCards
import Derived.Test.YtckjndkmmfmjjaaGreatDoorTie
import Derived.Deep.DeepWitnessRowRef
import Derived.Lay
import Derived.OpenShut
import Derived.LaidMore
import Derived.Clock
set_option linter.all false
open Go.Proofs.Tryz
set_option maxRecDepth 100000
set_option maxHeartbeats 32000000
namespace Go.Proofs.YtckjndkmmfmjjaaGreatDoor
open Go Go.Pure
attribute [local irreducible] PW jQ ju PO PC lS
def W4(kd:Int)(l:List iJ):∃X:List iD,(kN VD kd l).1=iD.gs X∧(∀x∈X,mJ x.g)∧X.length<=maxLen:=by
 have hm:(100000000:Nat)<=maxLen:=by unfold maxLen;omega
 by_cases he:(kN VD kd l).2=0
 ·obtain⟨hk,GM,jU⟩:=vU he;have pn:=xj he;rcases hk with rfl|rfl|rfl
  ·rw[aW rfl]at pn;refine⟨[rU false,rU true],pn,λx hx=>?_,by simp[maxLen]⟩;simp only[bN,cF,or_false]at hx;rcases hx with rfl|rfl
   all_goals exact X6 (bm _) (bm _) (λv h=>absurd h cF)
  rw[aV af,aW rfl]at pn;refine⟨_,pn,λx hx=>?_,?_⟩;obtain⟨k,_,rfl⟩:=cH.1 hx;exact MN k;have h1:=kH (lt:=λa b=>decide (a<b)) (l.flatMap jF) [];have h2:=pU GM λt ht=>nH 4 (nU jU t ht).1 rfl;rw[bH,bc]at h1;have h3:(ku (l.flatMap jF)).length<=(l.flatMap jF).length:=h1;rw[dm,mZ];omega;rw[aV af,aV af]at pn;refine⟨_,pn,λx hx=>?_,?_⟩;obtain⟨s,hs,rfl⟩:=cH.1 hx;have:=FT (n:=1000) (KW jU) s hs;exact MP (by unfold Fh;omega);have h1:=kH (lt:=λa b=>Op.bytesLess a b) (l.flatMap jj) [];have h2:=oN GM λt ht=>nH 4 (nU jU t ht).1 rfl;rw[bH,bc]at h1;have h3:(ko (l.flatMap jj)).length<=(l.flatMap jj).length:=h1;have h4:=wL (ko (l.flatMap jj)) [];rw[dm,jZ,bu];omega
 ·have h0:(kN VD kd l).1=[]:=by
   unfold kN at he⊢;repeat' split
   all_goals first|rfl|(exfalso;apply he;simp_all)
  exact⟨[],h0,λx hx=>absurd hx cF,bm _⟩
variable{l:List iJ}
def aaH(kd:Int){v:iD}(hz:∀t∈l,mJ t.g)(Ef:l.length<=maxLen)(Hi:mJ v.g):ak 3 [aq kd,av (iJ.gs l),.g v.g] (ax true):=by
 have p1:=Mc kd hz Ef;have p2:=vx kd hz Ef;have p3:=aaG kd (v:=v) hz Ef Hi;have p4:=aay kd (v:=v) hz Ef Hi;obtain⟨X,hX,hxz,Na⟩:=W4 kd l;have p5:=SO hxz Na;rw[<-hX]at p5;generalize(kN VD kd l).1=W at *
 generalize (kN VD kd l).2=er,(qx VD kd l v).1=n,(qx VD kd l v).2=e2 at *
 have q1:(er !=er)=false:=aa
 have q2:(n==n)=true:=aa
 have q3:(e2==e2)=true:=aa
 clear hz Ef Hi hX hxz Na;obtain⟨v0,v1,v2,v3,v4,v5⟩:=v;refine' eN func3;(try refine' wl @p1 @p2);refine' sQ<;>intro h;exfalso;rw[q1]at h;cases h;clear h;(try refine' wm @p5 @p3 @p4);refine' sQ<;>intro h;rotate_left;exfalso;rw[q2]at h;cases h;clear h;(try refine' uN);refine' rT;exact q3
def adp{g:GV}(h:GT Tryz.prog 36 g):∃v:iJ,g=v.g:=
 OU (ti:=3) (tb:=4) (LT:=22) underlying3 underlying4 (λ_ h=>YB h) ⟨_,underlying36,rfl⟩ underlying22 _ g (aZ _) h
def aaI{g:GV}(h:GT Tryz.prog 22 g):∃l:List iJ,g=.sl (iJ.gs l):=Vj (λ_ h=>adp h) underlying22 h
def Me(h:mJ (.sl (iJ.gs l))):(∀t∈l,mJ t.g)∧l.length<=maxLen:=by obtain⟨h1,h2⟩:=h;rw[iJ.jd]at h1 h2;refine⟨λt ht=>nF.1 h2 _ (cH.2 ⟨t,ht,rfl⟩),by simpa using h1⟩
end Go.Proofs.YtckjndkmmfmjjaaGreatDoor
namespace Go.Proofs.YtckjndkmmfmjjaaGreatDoor
open Go Go.Pure Go.Shelf Go.Lib Go.ChangeShapes Go.WideShapes Go.ChangeAt Go.RowKit Go.Clock
def W5:(Rows.laid_unicode_utf8_acceptRanges:DataW Unit)=Lib.acceptData:=aj
def aaJ:(Rows.laid_unicode_utf8_first:DataW Unit)=Lib.firstData:=Pinned.utf8First_eq
def aaK(H:Type)(enc:TypeId×Value->H)(W:World)(base:Nat)(args:Array Value)(ds gs:List (DataW H))(before:List MemPlace)
  (tK:∀(j:Nat) t v,f3.params[j]?=some t->args[j]?=some v->Value.okWide Tryz.prog W .any base t v)
  (hW:DataW.Whole enc Tryz.prog f3.params.toList Rows.pointsMakeSpec.vars false W args.toList ds gs before) (hL:laidMet Tryz.prog Rows.pointsMakeRow.laid W):
  Calls Tryz.prog 3 args W λe W'=>∃v,e=.returned v∧Rows.pointsMakeSpec.post enc Tryz.prog f3 false true false false W args v W'∧W'.os=W.os:=by
 have XL:laidMet Tryz.prog Rows.pointsMakeRow.laid W:=hL;unfold Rows.pointsMakeRow at hL;dsimp only at hL;rw[W5,aaJ]at hL;refine Nb (s:=Rows.pointsMakeSpec) (set:=[3,4,2,9,25,24,27,36,22]) (B:=4) aj aj laidOut rfl rfl underlying4 (λds hl=>?_) W base args ds gs before tK hW (λxs hl Jj hD hT=>?_) (SE hL (by repeat(first|exact .head _|apply List.Mem.tail)) (by repeat(first|exact .head _|apply List.Mem.tail)) (by repeat(first|exact .head _|apply List.Mem.tail)) (by repeat(first|exact .head _|apply List.Mem.tail)) (by repeat(first|exact .head _|apply List.Mem.tail)) (by repeat(first|exact .head _|apply List.Mem.tail)))
 ·match ds,hl with
  |[d0,d1,d2],_=>rfl
 ·match xs,hl with
  |[a0,a1,a2],_=>
   have hz:=(hT 1 22 _ rfl rfl).mJ;have hv:=(hT 2 27 _ rfl rfl).mJ;obtain⟨k,rfl,_⟩:=GT.Cp underlying3 (hT 0 3 _ rfl rfl);obtain⟨l,rfl⟩:=aaI (hT 1 22 _ rfl rfl);obtain⟨v,rfl⟩:=YB (hT 2 27 _ rfl rfl);exact aaH k (Me hz).1 (Me hz).2 hv
def afy:Array Value:= #[.int .i64 0,.slice none 0 0,.agg #[.int .i64 0,.bool false,.int .i64 0,.int .i64 0,.string ⟨#[]⟩,.slice none 0 0]]
def ahx(os:Os){H:Type}(enc:TypeId×Value->H):∃ds places,DataW.whole enc Tryz.prog ((World.laidAll Tryz.prog os Rows.pointsMakeRow.laid).forCall (λ_ _=>0) ⟨#[],afy,[]⟩).memory f3.params.toList Rows.pointsMakeSpec.vars false afy.toList 8=some (ds,[],places):=
 ⟨[.lit (.int .i64 0),.nil,.agg [.lit (.int .i64 0),.lit (.bool false),.agg [.lit (.int .i64 0),.lit (.int .i64 0)],.lit (.string []),.nil]],[],by kernel_rfl⟩
def Ej(os:Os)(started:os.Started)(H:Type)(enc:TypeId×Value->H)(F:Stop.Interp):
  ReturnsInHanded {} Tryz.checked os 3 .any ((OpenSpec.ofChange Rows.pointsMakeSpec).preRow enc Tryz.prog f3 Rows.pointsMakeRow.domain false Rows.pointsMakeRow.laid) (((OpenSpec.ofChange Rows.pointsMakeSpec).at F).post enc Tryz.prog f3 false true false false):=by
 obtain⟨ds,places,hx⟩:=ahx os enc;refine returnsInHanded_of_row (C:=Tryz.checked) (s:=OpenSpec.ofChange Rows.pointsMakeSpec) own started aj func3
  (witness_row_atRef (enc:=enc) (C:=Tryz.checked) false (World.laidAll Tryz.prog os Rows.pointsMakeRow.laid) afy rfl aj aj aj
   (OpenSpec.preRow_of_cond 8 hx aj (λk hk=>by cases hk) aj (laidMet_laidAll _ aj aj))) ?_
 intro W base args ds gs before tK hW _ _ _ hL _ _;exact(aaK H enc W base args ds gs before tK hW hL).mono λe W' ⟨v,he,hp,_⟩=>⟨v,he,hp⟩
def nc{a b:Bool}(h:a=true)(k:b=true):(a&&b)=true:=by rw[h,k];rfl
def j0:(Rows.pointsMakeRow.wf (OpenSpec.ofChange (OpenSpec.ofChange Rows.pointsMakeSpec).bare))=true:=aj
def j1:(laidOutB Tryz.pinned.checked.prog)=true:=aj
def j2:(mapsRowed Tryz.pinned.checked.prog)=true:=aj
def j3:(f3.params.all (Tryz.pinned.checked.prog.readableRec ·))=true:=aj
def j4:(namedTie Tryz.pinned.checked.prog Rows.pointsMakeRow.named ((OpenSpec.ofChange Rows.pointsMakeSpec).bare).vars)=true:=aj
def j5:((Rows.pointsMakeRow.stops==[]))=true:=aj
def j6:((Tryz.pinned.checked.prog.stops==[]))=true:=aj
def j7:((Rows.pointsMakeRow.knobs==[]))=true:=aj
def j8:((Tryz.pinned.checked.prog.stopKnobs==[]))=true:=aj
def j9:((Rows.pointsMakeRow.inPlace==Tryz.pinned.checked.prog.inPlace 3))=true:=aj
def j10:((Rows.pointsMakeRow.unfollowed==Tryz.pinned.checked.prog.unfollowed 3))=true:=aj
def j11:((Rows.pointsMakeRow.recurses==Tryz.pinned.checked.prog.recurses 3))=true:=aj
def j12:((Rows.pointsMakeRow.named==Tryz.pinned.checked.prog.varsNamed 3))=true:=aj
def j13:((Rows.pointsMakeRow.maps==(f3.params.toList++((OpenSpec.ofChange Rows.pointsMakeSpec).bare).plain.varTypes Tryz.pinned.checked.prog).any (Tryz.pinned.checked.prog.mapsRec ·)))=true:=aj
def j14:((Rows.pointsMakeRow.ifaces==(f3.params.toList++((OpenSpec.ofChange Rows.pointsMakeSpec).bare).plain.varTypes Tryz.pinned.checked.prog).any (Tryz.pinned.checked.prog.ifacesRec ·)))=true:=aj
def j15:((Rows.pointsMakeRow.mapsOut==Tryz.pinned.checked.prog.mapsAmong f3.resultTypes.toList))=true:=aj
def j16:((Rows.pointsMakeRow.loops==(f3.params.toList++((OpenSpec.ofChange Rows.pointsMakeSpec).bare).plain.varTypes Tryz.pinned.checked.prog).any (Tryz.pinned.checked.prog.loopsFrom ·)))=true:=aj
def j17:((Rows.pointsMakeRow.wideKeys==(f3.params.toList++((OpenSpec.ofChange Rows.pointsMakeSpec).bare).plain.varTypes Tryz.pinned.checked.prog++f3.resultTypes.toList).any (Tryz.pinned.checked.prog.wideKeysFrom ·)))=true:=aj
def j18:(((OpenSpec.ofChange Rows.pointsMakeSpec).bare).vars.all (Tryz.pinned.checked.prog.varReadable ·))=true:=aj
def j19:(f3.resultTypes.all (λt=>Tryz.pinned.checked.prog.readableRec t&&decide (t<Tryz.pinned.checked.prog.types.size)))=true:=aj
def j20:((Rows.pointsMakeRow.ifacesOut==f3.resultTypes.toList.any (Tryz.pinned.checked.prog.ifacesRec ·)))=true:=aj
def j21:((Rows.pointsMakeRow.loopsOut==f3.resultTypes.toList.any (Tryz.pinned.checked.prog.loopsFrom ·)))=true:=aj
def j22:((Rows.pointsMakeRow.plainKeys==Tryz.pinned.checked.prog.plainKeys))=true:=aj
def j23:(Rows.pointsMakeRow.shortTexts.isNone)=true:=aj
def j24:(Tryz.pinned.checked.prog.stopsHeard)=true:=aj
def j25:(Tryz.pinned.checked.prog.mayEnter)=true:=aj
def j26:((Rows.pointsMakeRow.lifted==Tryz.pinned.checked.prog.liftsFinal))=true:=aj
def j27:((Tryz.pinned.checked.prog.make==some Rows.pointsMakeRow.make))=true:=aj
def j28:((Rows.pointsMakeRow.kinds==(if Rows.pointsMakeRow.domain.isEmpty then []else f3.params.toList.map λt=>match Tryz.pinned.checked.prog.underlying t with|some (.int k)=>some k|_=>none)))=true:=aj
def j29:((Rows.pointsMakeRow.pinned==Rows.pointsMakeRow.pinnedBy))=true:=aj
def j30:((Rows.pointsMakeRow.veiled==(f3.params.toList++((OpenSpec.ofChange Rows.pointsMakeSpec).bare).plain.varTypes Tryz.pinned.checked.prog++f3.resultTypes.toList).any (Tryz.pinned.checked.prog.veiledRec ·)))=true:=aj
def j31:(Rows.pointsMakeRow.veiledFits Tryz.pinned.checked.prog f3.params.toList (f3.params.toList++((OpenSpec.ofChange Rows.pointsMakeSpec).bare).plain.varTypes Tryz.pinned.checked.prog++f3.resultTypes.toList))=true:=aj
end Go.Proofs.YtckjndkmmfmjjaaGreatDoor