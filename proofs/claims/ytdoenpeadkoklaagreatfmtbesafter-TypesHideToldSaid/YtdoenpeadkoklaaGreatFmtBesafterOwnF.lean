/- What the program's functions compute, each shown once; and plain laws of it. -/
import Derived.Test.YtdoenpeadkoklaaGreatFmtBesafterOwnE
import Derived.Test.YtdoenpeadkoklaaGreatFmtBesafterPureC
import Derived.Shelf.Unicode.DecodeAny
import Derived.Shelf.Unicode.ExclAny
import Derived.Shelf.Unicode.ValidAny
import Derived.Test.YtdoenpeadkoklaaGreatFmtBesafterPureB
import Derived.Lib.LaidIn
import Derived.Lib.LaidU8T
import Derived.PinnedBridge
import Derived.Shelf.Unicode.PredsAny
import Derived.Lib.Bytes
import Derived.Shelf.Strings.Search1
import Derived.Shelf.Strings.BuilderRune
import Derived.Shelf.Strings.Runes
set_option maxRecDepth 100000
set_option maxHeartbeats 32000000
namespace Go.Proofs.YtdoenpeadkoklaaGreatFmtBesafter
open Go Go.Pure
attribute [local irreducible] PW POps POpsD PO PC Cond
theorem wrap64{n:Int}(h: -9223372036854775808≤n∧n<9223372036854775808):IntKind.i64.wrap n=n:=by
 simp[IntKind.wrap,IntKind.bits,IntKind.signed];omega
theorem of_pc(k:Int):PC Tryz.prog 34 [.g (.int .i64 k)] ⟨[],[],[]⟩ (.g (VTy.mk k []).g) ⟨[],[],[]⟩:=by
 refine eN Tryz.func34 ?_
 (try refine uN ?_)
 refine rT ?_
 rfl
theorem list_pc(t:VTy):PC Tryz.prog 37 [.g t.g] ⟨[],[],[]⟩ (.g (VTy.mk 5 [t]).g) ⟨[],[],[]⟩:=by
 obtain⟨k,es⟩:=t
 refine eN Tryz.func37 ?_
 (try refine uN ?_)
 refine rT ?_
 rfl
theorem wrong4_pc(t:VTy):PC Tryz.prog 10 [.g t.g] ⟨[],[],[]⟩ (.g (.int .i64 (wrongT 1 t))) ⟨[],[],[]⟩:=by
 generalize hw0:wrongT 1 t=W
 obtain⟨k0,es0⟩:=t
 refine eN Tryz.func10 ?_
 (try refine uN ?_)
 refine PW_loop (S:=Nat×VTy) (fun s=>slots [(1, .ptr 0 0),(3, .g (.int .i64 s.1))]) (fun s=>⟨[s.2.g.cells.map PV.g],[],[]⟩) (fun s=>s.1≤11∧wrongT s.1 s.2=W) (fun s=>11-s.1) (1, .mk k0 es0) ⟨by simp,hw0⟩ (SlotsOk.le ⟨.inl rfl, .inl rfl,trivial⟩) (HLe.of_eq rfl) (fun s hs=> ?_)
 obtain⟨n,k,es⟩:=s
 obtain⟨hn,hW⟩:=hs
 dsimp only at hn hW
 rw[wrongT_eq n k]at hW
 match es with
 |[]=>
  (repeat' first|refine uN ?_|(refine sQ (fun h=> ?_) (fun h=> ?_)<;>fail_if_success (first|(have:true=true:=h)|(have:false=false:=h)))|fail)
  all_goals(first|(exfalso;simp_all;done)|(refine rT ?_;first|(simp_all;done)|(simp_all;omega)))
 |[e]=>
  obtain⟨ek,ees⟩:=e
  (repeat' first|refine uA ?_|(apply oR rfl rfl;focus(first|exact iA (g:=((VTy.mk ek ees)).g) rfl (EL rfl) (SZ rfl) rfl rfl (by decide) rfl rfl|exact mO))|(refine sQ (fun h=> ?_) (fun h=> ?_)<;>fail_if_success (first|(have:true=true:=h)|(have:false=false:=h)))|fail)
  all_goals(first|(exfalso;simp_all;done)|(refine rT ?_;first|(simp_all;done)|(simp_all;omega))|skip)
  all_goals
   have h1:k=5:=by simp_all
   subst h1
   refine⟨(n+1, .mk ek ees),⟨?_, ?_⟩, ?_,SlotsOk.le ⟨.inl rfl, .inl (congrArg (fun k=>PV.g (.int .i64 k)) (wrap64 (by simp only;omega))),trivial⟩,HLe.of_eq rfl⟩<;>simp_all<;>omega
 |e::e'::r=>
  have hl:((VTy.gs (e::e'::r)).length:Int)≠0∧((VTy.gs (e::e'::r)).length:Int)≠1∧((VTy.gs (e::e'::r)).length:Int)>0:=by simp[VTy.gs_eq];omega
  generalize hg:VTy.gs (e::e'::r)=gs at hl
  have hgg:(VTy.mk k (e::e'::r)).g= .agg [.int .i64 k, .sl gs]:=by rw[VTy.g,hg]
  simp only[hgg]
  (repeat' first|refine uN ?_|(refine sQ (fun h=> ?_) (fun h=> ?_)<;>fail_if_success (first|(have:true=true:=h)|(have:false=false:=h)))|fail)
  all_goals(first|(exfalso;simp_all;done)|(refine rT ?_;first|(simp_all;done)|(simp_all;omega))|skip)
theorem tyS(n:Nat)(b:Int):(tyL (n+1) b).g= .agg [.int .i64 5, .sl [(tyL n b).g]]:=rfl
theorem tyZ(b:Int):(tyL 0 b).g= .agg [.int .i64 b, .sl []]:=rfl
theorem fits7_pc{b c:Int}(hb:baseK b)(hc:baseK c): ∀m n:Nat,PC Tryz.prog 57 [.g (tyL m b).g, .g (tyL n c).g] ⟨[],[],[]⟩ (.g (.bool (fitsT m b n c))) ⟨[],[],[]⟩
 |0,0=>by
  rw[tyZ,tyZ]
  rcases hb with rfl|rfl|rfl|rfl|rfl
  all_goals
   refine eN Tryz.func57 ?_
   (repeat' first|refine uD ?_|(refine sQ (fun h=> ?_) (fun h=> ?_)<;>fail_if_success (first|(have:true=true:=h)|(have:false=false:=h)))|fail)
   all_goals(refine rT ?_;rw[fitsT_eq];simp_all;done)
 |0,n+1=>by
  rw[tyZ,tyS]
  generalize(tyL n c).g=u
  rcases hb with rfl|rfl|rfl|rfl|rfl
  all_goals
   refine eN Tryz.func57 ?_
   (repeat' first|refine uD ?_|(refine sQ (fun h=> ?_) (fun h=> ?_)<;>fail_if_success (first|(have:true=true:=h)|(have:false=false:=h)))|fail)
   all_goals(refine rT ?_;rw[fitsT_eq];simp_all;done)
 |m+1,0=>by
  rw[tyZ,tyS]
  generalize(tyL m b).g=u
  rcases hc with rfl|rfl|rfl|rfl|rfl
  all_goals
   refine eN Tryz.func57 ?_
   (repeat' first|refine uD ?_|(refine sQ (fun h=> ?_) (fun h=> ?_)<;>fail_if_success (first|(have:true=true:=h)|(have:false=false:=h)))|fail)
   all_goals(refine rT ?_;rw[fitsT_eq];simp_all;done)
 |m+1,n+1=>by
  have ih:=fits7_pc hb hc m n
  rw[tyS,tyS,fitsT_eq,if_neg (by omega)]
  dsimp only
  generalize tyL m b=u at ih
  generalize tyL n c=v at ih
  obtain⟨uk,ues⟩:=u
  obtain⟨vk,ves⟩:=v
  refine eN Tryz.func57 ?_
  (repeat' first|refine uE ?_|((first|apply oR rfl rfl|(apply dF rfl rfl rfl;intro _)|(apply dP rfl rfl rfl;intro _)|(apply dL rfl rfl rfl;intro _)|apply dC rfl rfl rfl rfl);(focus(first|exact cqP ih|exact iA (g:=((VTy.mk uk ues)).g) rfl (EL rfl) (SZ rfl) rfl rfl (by decide) rfl rfl|exact iA (g:=((VTy.mk vk ves)).g) rfl (EL rfl) (SZ rfl) rfl rfl (by decide) rfl rfl|exact mO));try exact kQ)|(refine sQ (fun h=> ?_) (fun h=> ?_)<;>fail_if_success (first|(have:true=true:=h)|(have:false=false:=h)))|fail)
  all_goals(refine rT ?_;rfl)
theorem join10_pc{b c:Int}(hb:baseK b)(hc:baseK c): ∀m n:Nat,PC Tryz.prog 40 [.g (tyL m b).g, .g (tyL n c).g] ⟨[],[],[]⟩ (.g (tyL (joinT m b n c).1 (joinT m b n c).2).g) ⟨[],[],[]⟩
  | m, n => by
    have f1:=fits7_pc hb hc m n
    have f2:=fits7_pc hc hb n m
    have ih: ∀m' n',m=m'+1→n=n'+1→PC Tryz.prog 40 [.g (tyL m' b).g, .g (tyL n' c).g] ⟨[],[],[]⟩ (.g (tyL (joinT m' b n' c).1 (joinT m' b n' c).2).g) ⟨[],[],[]⟩:=fun m' n' h1 h2=>join10_pc hb hc m' n'
    cases q1:fitsT m b n c with
    |true=>
      rw[joinT_l q1]
      rw[q1]at f1
      generalize tyL m b=u at f1 f2
      generalize tyL n c=v at f1 f2
      obtain⟨uk,ues⟩:=u
      obtain⟨vk,ves⟩:=v
      refine eN Tryz.func40 ?_
      (repeat first|refine uE ?_|((first|apply oR rfl rfl|(apply dF rfl rfl rfl;intro _)|(apply dP rfl rfl rfl;intro _)|(apply dL rfl rfl rfl;intro _)|apply dC rfl rfl rfl rfl);(focus(first|exact cqP f1|exact mO));try exact kQ))
      refine rT ?_
      rfl
    |false=>
      rw[q1]at f1
      cases q2:fitsT n c m b with
      |true=>
        rw[joinT_r q1 q2]
        rw[q2]at f2
        generalize tyL m b=u at f1 f2
        generalize tyL n c=v at f1 f2
        obtain⟨uk,ues⟩:=u
        obtain⟨vk,ves⟩:=v
        refine eN Tryz.func40 ?_
        (repeat first|refine uE ?_|((first|apply oR rfl rfl|(apply dF rfl rfl rfl;intro _)|(apply dP rfl rfl rfl;intro _)|(apply dL rfl rfl rfl;intro _)|apply dC rfl rfl rfl rfl);(focus(first|exact cqP f1|exact cqP f2|exact mO));try exact kQ))
        refine rT ?_
        rfl
      |false=>
        rw[q2]at f2
        have ho:=of_pc 6
        match m,n with
        |0,n=>
          rw[joinT_z q1 q2]
          generalize tyL n c=v at f1 f2
          obtain⟨vk,ves⟩:=v
          rw[tyZ]at f1 f2⊢
          rcases hb with rfl|rfl|rfl|rfl|rfl
          all_goals
            refine eN Tryz.func40 ?_
            (repeat first|refine uE ?_|((first|apply oR rfl rfl|(apply dF rfl rfl rfl;intro _)|(apply dP rfl rfl rfl;intro _)|(apply dL rfl rfl rfl;intro _)|apply dC rfl rfl rfl rfl);(focus(first|exact cqP f1|exact cqP f2|exact cqP ho|exact mO));try exact kQ))
            refine rT ?_
            rfl
        |m+1,0=>
          rw[joinT_z' q1 q2]
          rw[tyS,tyZ]at f1 f2⊢
          generalize(tyL m b).g=u at f1 f2
          rcases hc with rfl|rfl|rfl|rfl|rfl
          all_goals
            refine eN Tryz.func40 ?_
            (repeat first|refine uE ?_|((first|apply oR rfl rfl|(apply dF rfl rfl rfl;intro _)|(apply dP rfl rfl rfl;intro _)|(apply dL rfl rfl rfl;intro _)|apply dC rfl rfl rfl rfl);(focus(first|exact cqP f1|exact cqP f2|exact cqP ho|exact mO));try exact kQ))
            refine rT ?_
            rfl
        |m+1,n+1=>
          have ih:=ih m n rfl rfl
          rw[joinT_s q1 q2]
          rw[tyS,tyS]at f1 f2⊢
          dsimp only
          rw[tyS]
          generalize tyL (joinT m b n c).1 (joinT m b n c).2=z at ih
          have hl:=list_pc z
          generalize tyL m b=u at f1 f2 ih
          generalize tyL n c=v at f1 f2 ih
          obtain⟨uk,ues⟩:=u
          obtain⟨vk,ves⟩:=v
          obtain⟨zk,zes⟩:=z
          refine eN Tryz.func40 ?_
          (repeat first|refine uE ?_|((first|apply oR rfl rfl|(apply dF rfl rfl rfl;intro _)|(apply dP rfl rfl rfl;intro _)|(apply dL rfl rfl rfl;intro _)|apply dC rfl rfl rfl rfl);(focus(first|exact cqP f1|exact cqP f2|exact cqP ih|exact cqP hl|exact iA (g:=((VTy.mk uk ues)).g) rfl (EL rfl) (SZ rfl) rfl rfl (by decide) rfl rfl|exact iA (g:=((VTy.mk vk ves)).g) rfl (EL rfl) (SZ rfl) rfl rfl (by decide) rfl rfl|exact mO));try exact kQ))
          refine rT ?_
          rfl
termination_by m n=>m
end Go.Proofs.YtdoenpeadkoklaaGreatFmtBesafter
namespace Go.Proofs.YtdoenpeadkoklaaGreatFmtBesafter
open Go Go.Pure Go.Shelf
def layDec_ren:Go.Shelf.Ren:=⟨fun|197=>25|260=>43|n=>n,fun|0=>0|3=>3|4=>4|5=>5|9=>9|21=>21|46=>128|105=>79|119=>127|138=>130|139=>131|n=>n,fun|3=>0|4=>1|n=>n⟩
theorem layDec:Go.Proofs.Lays.n197 Tryz.prog layDec_ren:={
 mixed:=by kernel_rfl
 f197:=Tryz.func25.trans (congrArg some (by kernel_rfl))
 f260:=Tryz.func43.trans (congrArg some (by kernel_rfl))
 t0:=Tryz.underlying0
 a0:=Tryz.isAgg0
 z0:=Tryz.sizeOf0
 v0:=Tryz.zeroValue0
 t3:=Tryz.underlying3
 a3:=Tryz.isAgg3
 z3:=Tryz.sizeOf3
 v3:=Tryz.zeroValue3
 t4:=Tryz.underlying4
 a4:=Tryz.isAgg4
 z4:=Tryz.sizeOf4
 v4:=Tryz.zeroValue4
 t5:=Tryz.underlying5
 a5:=Tryz.isAgg5
 z5:=Tryz.sizeOf5
 v5:=Tryz.zeroValue5
 t9:=Tryz.underlying9
 a9:=Tryz.isAgg9
 z9:=Tryz.sizeOf9
 v9:=Tryz.zeroValue9
 t21:=Tryz.underlying21
 a21:=Tryz.isAgg21
 z21:=Tryz.sizeOf21
 v21:=Tryz.zeroValue21
 t46:=Tryz.underlying128
 a46:=Tryz.isAgg128
 z46:=Tryz.sizeOf128
 v46:=Tryz.zeroValue128
 t105:=Tryz.underlying79
 a105:=Tryz.isAgg79
 z105:=Tryz.sizeOf79
 v105:=Tryz.zeroValue79
 t119:=Tryz.underlying127
 a119:=Tryz.isAgg127
 z119:=Tryz.sizeOf127
 t138:=Tryz.underlying130
 a138:=Tryz.isAgg130
 z138:=Tryz.sizeOf130
 v138:=Tryz.zeroValue130
 t139:=Tryz.underlying131
 a139:=Tryz.isAgg131
 z139:=Tryz.sizeOf131
 v139:=Tryz.zeroValue131
 g3:=by kernel_rfl
 g4:=by kernel_rfl}
def layExc_ren:Go.Shelf.Ren:=⟨fun|261=>60|311=>87|312=>88|n=>n,fun|0=>0|3=>3|4=>4|21=>21|46=>128|49=>155|51=>132|141=>134|193=>151|194=>152|196=>154|198=>157|201=>160|226=>189|227=>190|n=>n,fun n=>n⟩
theorem layExc:Go.Proofs.Lays.n261 Tryz.prog layExc_ren:={
 mixed:=by kernel_rfl
 f261:=Tryz.func60.trans (congrArg some (by kernel_rfl))
 f311:=Tryz.func87.trans (congrArg some (by kernel_rfl))
 f312:=Tryz.func88.trans (congrArg some (by kernel_rfl))
 t0:=Tryz.underlying0
 a0:=Tryz.isAgg0
 z0:=Tryz.sizeOf0
 v0:=Tryz.zeroValue0
 t3:=Tryz.underlying3
 a3:=Tryz.isAgg3
 z3:=Tryz.sizeOf3
 v3:=Tryz.zeroValue3
 t4:=Tryz.underlying4
 a4:=Tryz.isAgg4
 z4:=Tryz.sizeOf4
 v4:=Tryz.zeroValue4
 t21:=Tryz.underlying21
 a21:=Tryz.isAgg21
 z21:=Tryz.sizeOf21
 v21:=Tryz.zeroValue21
 t46:=Tryz.underlying128
 a46:=Tryz.isAgg128
 z46:=Tryz.sizeOf128
 v46:=Tryz.zeroValue128
 t49:=Tryz.underlying155
 a49:=Tryz.isAgg155
 z49:=Tryz.sizeOf155
 v49:=Tryz.zeroValue155
 t51:=Tryz.underlying132
 a51:=Tryz.isAgg132
 z51:=Tryz.sizeOf132
 v51:=Tryz.zeroValue132
 t141:=Tryz.underlying134
 a141:=Tryz.isAgg134
 z141:=Tryz.sizeOf134
 v141:=Tryz.zeroValue134
 t193:=Tryz.underlying151
 a193:=Tryz.isAgg151
 z193:=Tryz.sizeOf151
 v193:=Tryz.zeroValue151
 t194:=Tryz.underlying152
 a194:=Tryz.isAgg152
 z194:=Tryz.sizeOf152
 v194:=Tryz.zeroValue152
 t196:=Tryz.underlying154
 a196:=Tryz.isAgg154
 z196:=Tryz.sizeOf154
 v196:=Tryz.zeroValue154
 t198:=Tryz.underlying157
 a198:=Tryz.isAgg157
 z198:=Tryz.sizeOf157
 v198:=Tryz.zeroValue157
 t201:=Tryz.underlying160
 a201:=Tryz.isAgg160
 z201:=Tryz.sizeOf160
 v201:=Tryz.zeroValue160
 t226:=Tryz.underlying189
 a226:=Tryz.isAgg189
 z226:=Tryz.sizeOf189
 v226:=Tryz.zeroValue189
 t227:=Tryz.underlying190
 a227:=Tryz.isAgg190
 z227:=Tryz.sizeOf190
 v227:=Tryz.zeroValue190}
def layValid_ren:Go.Shelf.Ren:=⟨fun|196=>59|259=>86|n=>n,fun|9=>9|4=>4|3=>3|5=>5|12=>12|119=>127|0=>0|46=>128|139=>131|138=>130|53=>143|n=>n,fun|3=>0|4=>1|n=>n⟩
theorem layValid:Go.Proofs.Lays.n196 Tryz.prog layValid_ren:={
 mixed:=by kernel_rfl
 f196:=Tryz.func59.trans (congrArg some (by kernel_rfl))
 f259:=Tryz.func86.trans (congrArg some (by kernel_rfl))
 t0:=Tryz.underlying0
 a0:=Tryz.isAgg0
 z0:=Tryz.sizeOf0
 v0:=Tryz.zeroValue0
 t3:=Tryz.underlying3
 a3:=Tryz.isAgg3
 z3:=Tryz.sizeOf3
 v3:=Tryz.zeroValue3
 t4:=Tryz.underlying4
 a4:=Tryz.isAgg4
 z4:=Tryz.sizeOf4
 v4:=Tryz.zeroValue4
 t5:=Tryz.underlying5
 a5:=Tryz.isAgg5
 z5:=Tryz.sizeOf5
 v5:=Tryz.zeroValue5
 t9:=Tryz.underlying9
 a9:=Tryz.isAgg9
 z9:=Tryz.sizeOf9
 v9:=Tryz.zeroValue9
 t12:=Tryz.underlying12
 a12:=Tryz.isAgg12
 z12:=Tryz.sizeOf12
 v12:=Tryz.zeroValue12
 t46:=Tryz.underlying128
 a46:=Tryz.isAgg128
 z46:=Tryz.sizeOf128
 v46:=Tryz.zeroValue128
 t53:=Tryz.underlying143
 a53:=Tryz.isAgg143
 z53:=Tryz.sizeOf143
 v53:=Tryz.zeroValue143
 t119:=Tryz.underlying127
 a119:=Tryz.isAgg127
 z119:=Tryz.sizeOf127
 t138:=Tryz.underlying130
 a138:=Tryz.isAgg130
 z138:=Tryz.sizeOf130
 v138:=Tryz.zeroValue130
 t139:=Tryz.underlying131
 a139:=Tryz.isAgg131
 z139:=Tryz.sizeOf131
 v139:=Tryz.zeroValue131
 g3:=by kernel_rfl
 g4:=by kernel_rfl}
end Go.Proofs.YtdoenpeadkoklaaGreatFmtBesafter
namespace Go.Proofs.YtdoenpeadkoklaaGreatFmtBesafter
open Go Go.Pure Go.Shelf Go.Lib
theorem own:ownKnob Tryz.prog.godebug=none:=by kernel_rfl
theorem laidOut:laidOutB Tryz.prog=true:=by kernel_rfl
theorem var_int{l:List (String×DataW Unit)}{W:World}{name:String}{g t:Nat}{k:IntKind}{z:Int}(h:laidMet Tryz.prog l W)(hm:(name,DataW.lit (.int k z))∈l)(hg:Tryz.prog.globalNamed name=some g)(ht:(Tryz.prog.globals[g]?).map (·.type)=some t)(hu:Tryz.prog.underlying t=some (.int k)):
  W.cell? ⟨g,0,none⟩=some (.int k z):=by
 obtain⟨g',t',cs,fuel,p,h1,h2,h3,h4⟩:=Lib.laidMet.reads h hm
 obtain rfl:=Option.some.inj (hg.symm.trans h1)
 obtain rfl:=Option.some.inj (ht.symm.trans h2)
 obtain⟨n,e1,e2,_⟩:=DataW.trod_int hu h4
 cases e2
 rw[World.var?_cell hg h3 0,←Array.getElem?_toList,e1]
 rfl
theorem tabs_of_gl{c:Ctx}(h:GL c):Lib.Utf8Tabs 0 1 c.w:=by
 obtain⟨⟨β,_,h⟩,_⟩:=h
 have h0:=h (0,(List.range 256).map fun c=>Value.int .u8 (Lib.firstT c)) (by simp[gfacts])
 have h1:=h (1,(List.range 32).map fun k=>Value.int .u8 (if k%2=0 then Lib.accLo (k/2)else Lib.accHi (k/2))) (by simp[gfacts])
 refine⟨fun k hk=>(h0 k _ ?_).1,fun i hi=>⟨(h1 (2 *i) _ ?_).1,(h1 (2 *i+1) _ ?_).1⟩⟩
 ·simp[hk]
 ·have e1:(2 *i)%2=0:=by omega
  have e2:(2 *i)/2=i:=by omega
  simp[show 2 *i<32 by omega]
 ·have e1:(2 *i+1)%2=1:=by omega
  have e2:(2 *i+1)/2=i:=by omega
  simp[show 2 *i+1<32 by omega,e1,e2]
theorem valid_pc(s:ByteArray)(hs:s.size≤maxLen):PC Tryz.prog 59 [.g (.str s)] ⟨[],[],[]⟩ (.g (.bool (Lib.validD s.data.toList))) ⟨[],[],[]⟩:=by
 intro c vs hr ha
 obtain⟨hl,hv⟩:=ha
 obtain⟨v,rfl⟩: ∃v,vs= #[v]:=by
  obtain⟨l⟩:=vs
  match l,hl with
  |[v],_=>exact⟨v,rfl⟩
 have h0:=hv 0 _ v rfl rfl
 cases h0 with
 |g _ _ hg=>
 cases hg
 have hT:=tabs_of_gl hr.gl
 refine(Any.utf8_ValidString layValid s c.w (by unfold maxLen at hs;omega) hT).mono ?_
 rintro e w' ⟨rfl,hb⟩
 obtain⟨r1,r2⟩:=hr.grow ⟨hb.os,⟨hb.tape,fun h=>h.elim⟩,hb.output,hb.size,hb.block⟩
 exact⟨_,⟨c.σ,c.τ,c.μ,c.hid,w'⟩,rfl,rfl,r1,r2, .g _ _ (.bool _)⟩
end Go.Proofs.YtdoenpeadkoklaaGreatFmtBesafter
namespace Go.Proofs.YtdoenpeadkoklaaGreatFmtBesafter
open Go Go.Pure Go.Shelf Go.Lib
attribute [local irreducible] PW POps POpsD PO PC Cond
theorem rgT{k:IntKind}{b off:Nat}{T:Array (Nat×Nat×Nat)}{w:World}(h:gRanges k b off T w):RgTab k b off T w:=by
 intro i hi
 have:=h i hi
 rw[Nat.mul_comm 3 i]at this
 exact this
theorem excl_pc{r:Int}(hlo: -2147483648≤r)(hhi:r≤2147483647):PC Tryz.prog 60 [.kv 3 0, .g (.int .i32 r)] ⟨[],[],[]⟩ (.g (.bool (exclGo letterT r))) ⟨[],[],[]⟩:=by
 unfold PC
 intro c vs hr ha
 obtain⟨hl,hv⟩:=ha
 obtain⟨u,v,rfl⟩: ∃u v,vs= #[u,v]:=by
  obtain⟨l⟩:=vs
  match l,hl with
  |[u,v],_=>exact⟨u,v,rfl⟩
 have h0:=hv 0 _ u rfl rfl
 have h1:=RV_int (hv 1 _ v rfl rfl)
 subst h1
 obtain⟨Tb,oT,a16,a32,b16,o16,c16,b32,o32,c32,k0,k1,k2,k3,e1,e2,g16,g32,hc⟩:=hr.gl.q
 cases h0 with
 |kv _ _ _ h _ _=>
 rw[k0]at h
 cases h
 have hA:RTabAt Tb oT letterT c.w:=⟨a16,a32,b16,o16,c16,b32,o32,c32,k1,k2,k3,fun _=>e1,fun _=>e2,rgT g16,rgT g32,hc⟩
 refine(Any.unicode_isExcludingLatin_any layExc Tb oT letterT r c.w hlo hhi hA letterT_ok).mono ?_
 rintro e w' ⟨rfl,hb⟩
 obtain⟨r1,r2⟩:=hr.grow ⟨hb.os,⟨hb.tape,fun h=>h.elim⟩,hb.output,hb.size,hb.block⟩
 exact⟨_,⟨c.σ,c.τ,c.μ,c.hid,w'⟩,rfl,rfl,r1,r2, .g _ _ (.bool _)⟩
theorem decode_pc(s:ByteArray):PC Tryz.prog 25 [.g (.str s)] ⟨[],[],[]⟩ (.tuple [.g (.int .i32 (decodeGo s).1), .g (.int .i64 (decodeGo s).2)]) ⟨[],[],[]⟩:=by
 unfold PC
 intro c vs hr ha
 obtain⟨hl,hv⟩:=ha
 obtain⟨v,rfl⟩: ∃v,vs= #[v]:=by
  obtain⟨l⟩:=vs
  match l,hl with
  |[v],_=>exact⟨v,rfl⟩
 have h1:=RV_str (hv 0 _ v rfl rfl)
 subst h1
 refine(Any.utf8_DecodeRuneInString layDec s c.w (tabs_of_gl hr.gl)).mono ?_
 rintro e w' ⟨rfl,hb⟩
 obtain⟨r1,r2⟩:=hr.grow ⟨hb.os,⟨hb.tape,fun h=>h.elim⟩,hb.output,hb.size,hb.block⟩
 refine⟨_,⟨c.σ,c.τ,c.μ,c.hid,w'⟩,rfl,rfl,r1,r2, .tuple _ _ rfl ?_⟩
 intro i p v hp hv
 match i with
 |0=>simp at hp hv;subst hp;subst hv;exact .g _ _ (.int _ _)
 |1=>simp at hp hv;subst hp;subst hv;exact .g _ _ (.int _ _)
 |i+2=>simp at hp
end Go.Proofs.YtdoenpeadkoklaaGreatFmtBesafter
namespace Go.Proofs.YtdoenpeadkoklaaGreatFmtBesafter
open Go Go.Pure
attribute [local irreducible] PW POps POpsD PO PC Cond
def letU(r:Int):Bool:=if 0≤r∧r≤255 then(Lib.propertiesTab.getD r.toNat 0).toNat &&& 96 !=0 else Lib.exclGo Lib.letterT r
def letB(r:Int):Bool:=r==95||letU r
theorem ENex:enterB Tryz.prog 60=true:=by kernel_rfl
theorem ENil:enterB Tryz.prog 44=true:=by kernel_rfl
theorem letter_cell: ∀β,gok β→ ∃v,lkG (gfacts β) 3 0=some v∧v.oneCell'=true:=fun β h=>by
 obtain⟨_,⟨a,h⟩⟩:=h
 exact⟨β 1,rfl,by rw[h];rfl⟩
theorem prop_cell{n z:Nat}(h:Lib.propertiesTab[n]? =some (z:Int)):(fun β=>lkG (gfacts β) 2 (0+n *1))=fun _=>some (Value.int .u8 z):=by
 funext β
 show(Lib.propertiesTab.map fun z=>Value.int .u8 z)[0+n *1]? =_
 rw[List.getElem?_map,Nat.zero_add,Nat.mul_one,h]
 rfl
theorem prop_at(n:Nat)(h:n<256): ∃z:Nat,Lib.propertiesTab[n]? =some (z:Int)∧z<256∧(Lib.propertiesTab.getD n 0).toNat=z:=by
 have hl:n<Lib.propertiesTab.length:=by rw[Lib.propertiesTab_length];exact h
 obtain⟨_,_,_,h1,h2⟩:=Lib.props_all ⟨n,h⟩
 dsimp only at h1 h2
 have hg:Lib.propertiesTab.getD n 0=Lib.propertiesTab[n]:=by rw[List.getD_eq_getElem?_getD,List.getElem?_eq_getElem hl];rfl
 rw[hg]at h1 h2⊢
 refine⟨Lib.propertiesTab[n].toNat,by rw[List.getElem?_eq_getElem hl,Int.toNat_of_nonneg h1],by omega,rfl⟩
theorem band96: ∀z:Fin 256,(IntKind.u8.wrap ((BitVec.ofInt 8 ((z.val:Nat):Int) &&& BitVec.ofInt 8 96).toNat:Int) !=0)=(z.val &&& 96 !=0):=by decide+kernel
theorem isLetter_pc{r:Int}(hlo: -2147483648≤r)(hhi:r≤2147483647):PC Tryz.prog 44 [.g (.int .i32 r)] ⟨[],[],[]⟩ (.g (.bool (letU r))) ⟨[],[],[]⟩:=by
 have hx:=excl_pc hlo hhi
 generalize hE:Lib.exclGo Lib.letterT r=E at hx
 unfold letU
 by_cases hr:0≤r∧r≤255
 ·rw[if_pos hr]
  obtain⟨z,hz,hz2,hz3⟩:=prop_at r.toNat (by omega)
  rw[hz3]
  have hcell:=prop_cell hz
  have hw:IntKind.u8.wrap r=(r.toNat:Int):=by simp[IntKind.wrap,IntKind.bits,IntKind.signed];omega
  refine eN Tryz.func44 ?_
  (try refine uN ?_)
  refine sQ (fun h=> ?_) fun h=> ?_
  ·clear h
   (repeat first|refine uA ?_|(apply oR rfl rfl;focus(first|exact PO_gindex r.toNat rfl Tryz.underlying127 (SZ rfl) rfl rfl hw (by omega)|exact PO_loadg rfl (AG rfl) rfl hcell|exact mO)))
   refine rT ?_
   exact band96 ⟨z,hz2⟩
  ·exfalso
   have h2:=of_decide_eq_false h
   simp[IntKind.wrap,IntKind.bits,IntKind.signed]at h2
   omega
 ·rw[if_neg hr,hE]
  refine eN Tryz.func44 ?_
  (try refine uN ?_)
  refine sQ (fun h=> ?_) fun h=> ?_
  ·exfalso
   have h2:=of_decide_eq_true h
   simp[IntKind.wrap,IntKind.bits,IntKind.signed]at h2
   omega
  ·clear h
   (repeat first|refine uA ?_|(apply oR rfl rfl;focus(first|exact PO_loadkv rfl (AG rfl) rfl letter_cell|exact cd [] rfl rfl ENex (hx) rfl rfl rfl rfl rfl rfl rfl rfl rfl rfl rfl|exact mO)))
   refine rT ?_
   rfl
theorem ENdg:enterB Tryz.prog 29=true:=by kernel_rfl
theorem ENld:enterB Tryz.prog 28=true:=by kernel_rfl
theorem letter_pc{r:Int}(hlo: -2147483648≤r)(hhi:r≤2147483647):PC Tryz.prog 26 [.g (.int .i32 r)] ⟨[],[],[]⟩ (.g (.bool (letB r))) ⟨[],[],[]⟩:=by
 have hL:=isLetter_pc hlo hhi
 unfold letB
 generalize letU r=E at hL
 refine eN Tryz.func26 ?_
 (repeat first|refine uA ?_|(apply oR rfl rfl;focus(first|exact cl rfl rfl ENil hL rfl rfl rfl|exact mO)))
 refine sQ (fun h=> ?_) fun h=> ?_
 ·have e1:(r==95)=true:=h
  rw[e1]
  (try refine uN ?_)
  refine rT ?_
  rfl
 ·have e1:(r==95)=false:=h
  rw[e1]
  (repeat first|refine uA ?_|(apply oR rfl rfl;focus(first|exact cl rfl rfl ENil hL rfl rfl rfl|exact mO)))
  refine rT ?_
  rfl
theorem digit_pc(r:Int):PC Tryz.prog 29 [.g (.int .i32 r)] ⟨[],[],[]⟩ (.g (.bool (digB r))) ⟨[],[],[]⟩:=by
 unfold digB
 refine eN Tryz.func29 ?_
 (try refine uN ?_)
 refine sQ (fun h=> ?_) fun h=> ?_
 ·have h1:=of_decide_eq_true h
  (try refine uN ?_)
  refine rT ?_
  exact decide_eq_decide.2 ⟨fun h2=>⟨h1,h2⟩,fun h2=>h2.2⟩
 ·have h1:=of_decide_eq_false h
  (try refine uN ?_)
  refine rT ?_
  exact(decide_eq_false fun h2=>h1 h2.1).symm
theorem letdig_pc{r:Int}(hlo: -2147483648≤r)(hhi:r≤2147483647):PC Tryz.prog 28 [.g (.int .i32 r)] ⟨[],[],[]⟩ (.g (.bool (letB r||digB r))) ⟨[],[],[]⟩:=by
 have hL:=letter_pc hlo hhi
 have hD:=digit_pc r
 generalize letB r=E at *
 generalize digB r=F at *
 refine eN Tryz.func28 ?_
 (repeat first|refine uA ?_|(apply oR rfl rfl;focus(first|exact cqP hL|exact mO)))
 refine sQ (fun h=> ?_) fun h=> ?_
 ·have e1:E=true:=h
  subst e1
  (try refine uN ?_)
  refine rT ?_
  rfl
 ·have e1:E=false:=h
  subst e1
  (repeat first|refine uA ?_|(apply oR rfl rfl;focus(first|exact cqP hD|exact mO)))
  refine rT ?_
  rfl
theorem rune_le(s:ByteArray)(pos:Nat):(Utf8.decode s pos).1≤1114111:=by
 rw[Lib.decode_at]
 exact Lib.decodeN_rune_le _ _ _ _ _ (UInt8.toNat_lt _)
theorem while_pc{id:Nat}{p:Int→Bool}{s:ByteArray}(hid:enterB Tryz.prog id=true)(hp: ∀r:Nat,r≤1114111→PC Tryz.prog id [.g (.int .i32 r)] ⟨[],[],[]⟩ (.g (.bool (p r))) ⟨[],[],[]⟩):PC Tryz.prog 27 [.g (.str s), .g (.raw (.func (.func id) #[] #[]))] ⟨[],[],[]⟩ (.g (.int .i64 (whileB p s 0))) ⟨[],[],[]⟩:=by
 generalize hW:whileB p s 0=W
 refine eN Tryz.func27 ?_
 (repeat first|refine uA ?_|(apply oR rfl rfl;focus(first|exact PO_range rfl (ST rfl) rfl|exact mO)))
 refine PW_loop (S:=Nat) (fun pos=>slots [(0, .g (.str s)),(1, .g (.raw (.func (.func id) #[] #[]))),(8, .mref 0 0 0 0)]) (fun pos=>⟨[],[],[.iter 0 s pos]⟩) (fun pos=>whileB p s pos=W) (fun pos=>s.size-pos) 0 hW
  (SlotsOk.le ⟨.inl rfl, .inl rfl, .inl rfl,trivial⟩) (HLe.of_eq rfl) (fun pos hpos=> ?_)
 by_cases hlt:pos<s.size
 ·have hc:=hp (Utf8.decode s pos).1 (rune_le s pos)
  have hw:=decode_wide hlt
  (repeat first|refine uA ?_|(apply oR rfl rfl;focus(first|exact PO_next rfl rfl rfl hlt|exact cl rfl rfl hid hc rfl rfl rfl|exact mO)))
  refine sQ (fun h=> ?_) fun h=> ?_
  ·have hf:p (Utf8.decode s pos).1=false:=by simpa using h
   rw[whileB_no hlt hf]at hpos
   subst hpos
   (try refine uN ?_)
   refine rT ?_
   rfl
  ·have ht:p (Utf8.decode s pos).1=true:=by simpa using h
   rw[whileB_yes hlt ht]at hpos
   (try refine uN ?_)
   exact⟨_,hpos,by omega,SlotsOk.le ⟨.inl rfl, .inl rfl, .inl rfl,trivial⟩,HLe.of_eq rfl⟩
 ·rw[whileB_end (by omega)]at hpos
  subst hpos
  (repeat first|refine uA ?_|(apply oR rfl rfl;focus(first|exact PO_next_end rfl rfl rfl (by omega)|exact mO)))
  refine rT ?_
  rfl
theorem whDig_pc(s:ByteArray):PC Tryz.prog 27 [.g (.str s), .g (.raw (.func (.func 29) #[] #[]))] ⟨[],[],[]⟩ (.g (.int .i64 (whileB digB s 0))) ⟨[],[],[]⟩:=while_pc ENdg fun r _=>digit_pc r
theorem whLet_pc(s:ByteArray):PC Tryz.prog 27 [.g (.str s), .g (.raw (.func (.func 28) #[] #[]))] ⟨[],[],[]⟩ (.g (.int .i64 (whileB (fun r=>letB r||digB r) s 0))) ⟨[],[],[]⟩:=while_pc ENld fun r h=>letdig_pc (by omega) (by omega)
theorem i64w{z:Int}(h: -9223372036854775808≤z∧z<9223372036854775808):IntKind.i64.wrap z=z:=by
 simp[IntKind.wrap,IntKind.bits,IntKind.signed];omega
theorem upto_list(s:ByteArray)(n:Nat):(uptoB s n).data.toList=s.data.toList.take n:=by
 simp[uptoB,ByteArray.data_extract,Array.toList_extract,List.extract]
theorem prefix_take(l q:List UInt8):(l.take q.length==q)=Lib.hasPrefix l q:=by
 rw[Bool.eq_iff_iff,beq_iff_eq]
 unfold Lib.hasPrefix
 rw[List.isPrefixOf_iff_prefix,List.prefix_iff_eq_take]
 exact⟨fun h=>h.symm,fun h=>h.symm⟩
theorem prefix_long{l q:List UInt8}(h:l.length<q.length):Lib.hasPrefix l q=false:=by
 cases hb:Lib.hasPrefix l q with
 |false=>rfl
 |true=>
  unfold Lib.hasPrefix at hb
  have:=(List.isPrefixOf_iff_prefix.1 hb).length_le
  omega
theorem prefix_eq(s p:ByteArray):((s.extract 0 p.size).toList==p.toList)=Lib.hasPrefix s.data.toList p.data.toList:=by
 rw[Lib.toList_data,Lib.toList_data]
 have h1:=upto_list s p.size
 unfold uptoB at h1
 rw[h1]
 have h2:p.size=p.data.toList.length:=Array.length_toList.symm
 rw[h2]
 exact prefix_take _ _
theorem ENhpl:enterB Tryz.prog 61=true:=by kernel_rfl
theorem ENhps:enterB Tryz.prog 45=true:=by kernel_rfl
theorem hasPre_pc{s p:ByteArray}(_hs:s.size≤100000)(_hp:p.size≤100000):PC Tryz.prog 45 [.g (.str s), .g (.str p)] ⟨[],[],[]⟩ (.g (.bool (Lib.hasPrefix s.data.toList p.data.toList))) ⟨[],[],[]⟩:=by
 have h2:PC Tryz.prog 61 [.g (.str s), .g (.str p)] ⟨[],[],[]⟩ (.g (.bool (Lib.hasPrefix s.data.toList p.data.toList))) ⟨[],[],[]⟩:=by
  rcases Nat.lt_or_ge s.size p.size with h1|h1
  ·have hq:Lib.hasPrefix s.data.toList p.data.toList=false:=prefix_long (by rw[Array.length_toList,Array.length_toList];exact h1)
   rw[hq]
   refine eN Tryz.func61 ?_
   (try refine uN ?_)
   refine sQ (fun h=> ?_) fun h=> ?_
   ·exfalso
    have:=of_decide_eq_true h
    omega
   ·clear h
    (try refine uN ?_)
    refine rT ?_
    rfl
  ·rw[←prefix_eq]
   refine eN Tryz.func61 ?_
   (try refine uN ?_)
   refine sQ (fun h=> ?_) fun h=> ?_
   ·clear h
    (repeat first|refine uA ?_|(apply oR rfl rfl;focus(first|exact PO_slice_str rfl (ST rfl) rfl rfl rfl (by decide) (show(0:Int)≤(p.size:Int) by omega) (show(p.size:Int)≤(s.size:Int) by omega)|exact mO)))
    refine rT ?_
    rfl
   ·exfalso
    have:=of_decide_eq_false h
    omega
 generalize Lib.hasPrefix s.data.toList p.data.toList=b at *
 refine eN Tryz.func45 ?_
 (repeat first|refine uA ?_|(apply oR rfl rfl;focus(first|exact cl rfl rfl ENhpl h2 rfl rfl rfl|exact mO)))
 refine rT ?_
 rfl
theorem number_pc{s:ByteArray}(hs:s.size≤10000):PC Tryz.prog 30 [.g (.str s)] ⟨[],[],[]⟩ (.g (.int .i64 (numB s))) ⟨[],[],[]⟩:=by
 have h1:=whDig_pc s
 have hn:=whileB_le digB s 0
 have hfs:=fromB_size s
 unfold numB
 generalize whileB digB s 0=n at *
 have h2:=hasPre_pc (s:=fromB s n) (p:=⟨#[46]⟩) (by rw[hfs];omega) (by decide)
 have h2:PC Tryz.prog 45 [.g (.str (fromB s n)), .g (.str ⟨#[46]⟩)] ⟨[],[],[]⟩ (.g (.bool (Lib.hasPrefix (fromB s n).data.toList [46]))) ⟨[],[],[]⟩:=h2
 generalize hb:Lib.hasPrefix (fromB s n).data.toList [46]=b at *
 have hpl:b=true→n<s.size:=fun h=>by
  rcases Nat.lt_or_ge n s.size with h3|h3
  ·exact h3
  ·exfalso
   rw[prefix_long (by rw[Array.length_toList];show(fromB s n).size<1;rw[hfs];omega)]at hb
   rw[←hb]at h
   cases h
 cases b with
 |false=>
  rw[if_neg (by decide)]
  refine eN Tryz.func30 ?_
  (repeat first|refine uA ?_|(apply oR rfl rfl;focus(first|exact cqP h1|exact PO_slice_str rfl (ST rfl) rfl rfl rfl (Int.natCast_nonneg _) (show(n:Int)≤(s.size:Int) by omega) (Int.le_refl _)|exact cl rfl rfl ENhps h2 rfl rfl rfl|exact mO)))
  refine rT ?_
  rfl
 |true=>
  rw[if_pos rfl]
  have hlt:=hpl rfl
  have hw:IntKind.i64.wrap ((n:Int)+1)=((n+1:Nat):Int):=by rw[i64w (by omega)];omega
  have h3:PC Tryz.prog 27 [.g (.str (s.extract (IntKind.i64.wrap ((n:Int)+1)).toNat ((s.size:Nat):Int).toNat)), .g (.raw (.func (.func 29) #[] #[]))] ⟨[],[],[]⟩ (.g (.int .i64 (whileB digB (fromB s (n+1)) 0))) ⟨[],[],[]⟩:=by
   rw[hw]
   exact whDig_pc (fromB s (n+1))
  have hk:=whileB_le digB (fromB s (n+1)) 0
  rw[hfs]at hk
  generalize whileB digB (fromB s (n+1)) 0=k at *
  refine eN Tryz.func30 ?_
  (repeat first|refine uA ?_|(apply oR rfl rfl;focus(first|exact cqP h1|exact PO_slice_str rfl (ST rfl) rfl rfl rfl (Int.natCast_nonneg _) (show(n:Int)≤(s.size:Int) by omega) (Int.le_refl _)|exact cl rfl rfl ENhps h2 rfl rfl rfl|exact PO_slice_str rfl (ST rfl) rfl rfl rfl (show(0:Int)≤IntKind.i64.wrap ((n:Int)+1) by rw[hw];omega) (show IntKind.i64.wrap ((n:Int)+1)≤(s.size:Int) by rw[hw];omega) (Int.le_refl _)|exact cqP h3|exact mO)))
  refine sQ (fun h=> ?_) fun h=> ?_
  ·have hk0:0<k:=by have:=of_decide_eq_true h;omega
   rw[if_pos hk0]
   clear h
   (try refine uN ?_)
   refine rT ?_
   rw[i64w (z:=1+(k:Int)) (by omega),i64w (by omega)]
   omega
  ·have hk0: ¬0<k:=by have:=of_decide_eq_false h;omega
   rw[if_neg hk0]
   clear h
   (try refine uN ?_)
   refine rT ?_
   rfl
def signsG:List GV:=signsB.map fun x=> .str (bstr x)
theorem sign_pc'{s:ByteArray}(hs:s.size≤10000):PC Tryz.prog 33 [.g (.str s)] ⟨[],[],[]⟩ (.g (.str (bstr (signB s.data.toList signsB)))) ⟨[],[],[]⟩:=by
 generalize hW:signB s.data.toList signsB=W
 refine eN Tryz.func33 ?_
 (try refine uN ?_)
 refine PW_loop (S:=Nat) (fun i=>slots [(0, .g (.str s)),(5, .g (.sl signsG)),(6, .g (.int .i64 (16:Nat))),(7, .g (.int .i64 i))]) (fun _=>⟨[],[],[]⟩) (fun i=>i≤16∧signB s.data.toList (signsB.drop i)=W) (fun i=>16-i) 0 ⟨Nat.zero_le _,hW⟩
  (SlotsOk.le ⟨.inl rfl, .inl rfl, .inl rfl, .inl rfl,trivial⟩) (HLe.of_eq rfl) (fun i hi=> ?_)
 obtain⟨hi,hgo⟩:=hi
 (try refine uN ?_)
 refine sQ (fun h=> ?_) fun h=> ?_
 ·have hlt:i<16:=by have:=of_decide_eq_true h;omega
  have hlt':i<signsB.length:=hlt
  rw[List.drop_eq_getElem_cons hlt',signB]at hgo
  have hg:signsG[((i:Nat):Int).toNat]? =some (.str (bstr signsB[i])):=by
   rw[Int.toNat_natCast,signsG,List.getElem?_map,List.getElem?_eq_getElem hlt'];rfl
  have hb:(bstr signsB[i]).size≤100000:=by
   have: ∀j:Fin 16,(bstr signsB[j.val]).size≤100000:=by decide+kernel
   exact this ⟨i,hlt⟩
  have hp:=hasPre_pc (s:=s) (p:=bstr signsB[i]) (by omega) hb
  have hp:PC Tryz.prog 45 [.g (.str s), .g (.str (bstr signsB[i]))] ⟨[],[],[]⟩ (.g (.bool (Lib.hasPrefix s.data.toList signsB[i]))) ⟨[],[],[]⟩:=hp
  clear h
  generalize signsB[i]=x at *
  generalize Lib.hasPrefix s.data.toList x=b at *
  (repeat first|refine uA ?_|(apply oR rfl rfl;focus(first|exact iA rfl (EL rfl) (SZ rfl) rfl rfl (Int.natCast_nonneg _) hg rfl|exact cl rfl rfl ENhps hp rfl rfl rfl|exact mO)))
  refine sQ (fun h=> ?_) fun h=> ?_
  ·have hbt:b=true:=h
   rw[if_pos hbt]at hgo
   subst hgo
   (try refine uN ?_)
   refine rT ?_
   rfl
  ·have hbf: ¬b=true:=by rw[show b=false from h];decide
   rw[if_neg hbf]at hgo
   (try refine uN ?_)
   exact⟨i+1,⟨hlt,hgo⟩,by omega,SlotsOk.le ⟨.inl rfl, .inl rfl, .inl rfl, .inl (congrArg (fun k=>PV.g (.int .i64 k)) (i64w (by omega))),trivial⟩,HLe.of_eq rfl⟩
 ·have hi':i=16:=by have:=of_decide_eq_false h;omega
  subst hi'
  rw[show signsB.drop 16=[]from rfl,signB]at hgo
  subst hgo
  clear h
  (try refine uN ?_)
  refine rT ?_
  rfl
end Go.Proofs.YtdoenpeadkoklaaGreatFmtBesafter
namespace Go.Proofs.YtdoenpeadkoklaaGreatFmtBesafter
open Go Go.Pure Go.Shelf
def layIdx_ren:Go.Shelf.Ren:=⟨fun|217=>110|266=>128|n=>n,fun|9=>9|5=>5|3=>3|n=>n,fun|n=>n⟩
theorem layIdx:Go.Proofs.Lays.n217 Tryz.prog layIdx_ren:={
 mixed:=by kernel_rfl
 f217:=Tryz.func110.trans (congrArg some (by kernel_rfl))
 f266:=Tryz.func128.trans (congrArg some (by kernel_rfl))
 t3:=Tryz.underlying3
 a3:=Tryz.isAgg3
 z3:=Tryz.sizeOf3
 v3:=Tryz.zeroValue3
 t5:=Tryz.underlying5
 a5:=Tryz.isAgg5
 z5:=Tryz.sizeOf5
 v5:=Tryz.zeroValue5
 t9:=Tryz.underlying9
 a9:=Tryz.isAgg9
 z9:=Tryz.sizeOf9
 v9:=Tryz.zeroValue9}
end Go.Proofs.YtdoenpeadkoklaaGreatFmtBesafter
namespace Go.Proofs.YtdoenpeadkoklaaGreatFmtBesafter
open Go Go.Pure
attribute [local irreducible] PW POps POpsD PO PC Cond
theorem encode_shape{r:Nat}(h:128≤r)(hv:r<55296∨(57343<r∧r≤1114111)):(∃a b:UInt8,Utf8.encode (r:Int)=⟨#[a,b]⟩∧128≤b.toNat)∨(∃a b c:UInt8,Utf8.encode (r:Int)=⟨#[a,b,c]⟩∧128≤c.toNat)∨(∃a b c d:UInt8,Utf8.encode (r:Int)=⟨#[a,b,c,d]⟩):=by
 have hval:Utf8.valid (r:Int)=true:=by simp[Utf8.valid];omega
 have hlow: ∀x:Nat,128≤(UInt8.ofNat (128+x%64)).toNat:=fun x=>by simp;omega
 unfold Utf8.encode
 rw[hval,if_pos rfl,Int.toNat_natCast]
 dsimp only
 rw[if_neg (by omega)]
 split
 ·exact .inl ⟨_,_,rfl,hlow _⟩
 ·split
  ·exact .inr (.inl ⟨_,_,_,rfl,hlow _⟩)
  ·exact .inr (.inr ⟨_,_,_,_,rfl⟩)
theorem ENib2:enterB Tryz.prog 80=true:=by kernel_rfl
theorem ENib3:enterB Tryz.prog 110=true:=by kernel_rfl
theorem ENvr:enterB Tryz.prog 81=true:=by kernel_rfl
theorem idxB_pc{s:ByteArray}{c:Int}:PC Tryz.prog 80 [.g (.str s), .g (.int .u8 c)] ⟨[],[],[]⟩ (.g (.int .i64 (Lib.indexByte s.data.toList (c.toNat.toUInt8)))) ⟨[],[],[]⟩:=by
 have h:PC Tryz.prog 110 [.g (.str s), .g (.int .u8 c)] ⟨[],[],[]⟩ (.g (.int .i64 (Lib.indexByte s.data.toList (c.toNat.toUInt8)))) ⟨[],[],[]⟩:=PC_shelf0 (gs:=[.str s, .int .u8 c]) rfl (fun _=> .g _ _ (.int _ _)) fun cx _=>Any.stringslite_IndexByte layIdx s c cx.w
 generalize Lib.indexByte s.data.toList (c.toNat.toUInt8)=R at *
 refine eN Tryz.func80 ?_
 (repeat first|refine uA ?_|(apply oR rfl rfl;focus(first|exact cl rfl rfl ENib3 h rfl rfl rfl|exact mO)))
 refine rT ?_
 rfl
theorem validRune_pc{z:Int}(h0:0≤z)(hv:z<55296∨(57343<z∧z≤1114111)):PC Tryz.prog 81 [.g (.int .i32 z)] ⟨[],[],[]⟩ (.g (.bool true)) ⟨[],[],[]⟩:=by
 refine eN Tryz.func81 ?_
 (try refine uN ?_)
 refine sQ (fun h=> ?_) fun h=> ?_
 ·clear h
  (try refine uN ?_)
  refine sQ (fun h=> ?_) fun h=> ?_
  ·clear h
   (try refine uN ?_)
   refine rT ?_
   rfl
  ·have h1:=of_decide_eq_false h
   clear h
   (try refine uN ?_)
   refine sQ (fun h=> ?_) fun h=> ?_
   ·clear h
    (try refine uN ?_)
    refine sQ (fun h=> ?_) fun h=> ?_
    ·(try refine uN ?_)
     refine rT ?_
     rfl
    ·exfalso
     have h2:=of_decide_eq_false h
     omega
   ·exfalso
    have h2:=of_decide_eq_false h
    omega
 ·exfalso
  have h2:=of_decide_eq_false h
  omega
theorem esc_low: ∀r:Fin 128,Lib.indexByte [34,92,110] (((r.val:Nat):Int).toNat.toUInt8)=escK ((r.val:Nat):Int):=by decide+kernel
theorem esc_high{r:Nat}(h:128≤r):escK (r:Int)= -1:=by
 unfold escK
 rw[if_neg (by omega),if_neg (by omega),if_neg (by omega)]
theorem idx_high{b:UInt8}(h:128≤b.toNat): ∀l:List UInt8,(∀x∈l,x.toNat<128)→Lib.indexByte l b= -1
 |[],_=>rfl
 |x::l,hl=>by
  have h1:=hl x (by simp)
  have h2:=idx_high h l fun y hy=>hl y (by simp[hy])
  have h3:(x==b)=false:=beq_eq_false_iff_ne.2 fun e=>by subst e;omega
  unfold Lib.indexByte
  rw[h3,h2]
  rfl
theorem idxRune_pc{r:Nat}(hv:r<55296∨(57343<r∧r≤1114111)):PC Tryz.prog 53 [.g (.str ⟨#[34,92,110]⟩), .g (.int .i32 r)] ⟨[],[],[]⟩ (.g (.int .i64 (escK r))) ⟨[],[],[]⟩:=by
 by_cases hlow:r<128
 ·have hw:IntKind.u8.wrap (r:Int)=(r:Int):=by simp[IntKind.wrap,IntKind.bits,IntKind.signed];omega
  have h1:PC Tryz.prog 80 [.g (.str ⟨#[34,92,110]⟩), .g (.int .u8 (IntKind.u8.wrap (r:Int)))] ⟨[],[],[]⟩ (.g (.int .i64 (escK (r:Int)))) ⟨[],[],[]⟩:=by
   have h1:=idxB_pc (s:=⟨#[34,92,110]⟩) (c:=(r:Int))
   have h2:=esc_low ⟨r,hlow⟩
   dsimp only at h2
   rw[show(⟨#[34,92,110]⟩:ByteArray).data.toList=[34,92,110]from rfl,h2]at h1
   rw[hw]
   exact h1
  generalize escK (r:Int)=E at *
  refine eN Tryz.func53 ?_
  (try refine uD ?_)
  refine sQ (fun h=> ?_) fun h=> ?_
  ·(repeat first|refine uE ?_|((first|apply oR rfl rfl|(apply dF rfl rfl rfl;intro _)|(apply dP rfl rfl rfl;intro _)|(apply dL rfl rfl rfl;intro _)|apply dC rfl rfl rfl rfl);(focus(first|exact cl rfl rfl ENib2 h1 rfl rfl rfl|exact mO));try exact kQ))
   refine rT ?_
   rfl
  ·exfalso
   have:=of_decide_eq_false h
   omega
 ·rw[esc_high (by omega)]
  have hvr:=validRune_pc (z:=(r:Int)) (by omega) (by omega)
  have hsh:=encode_shape (by omega) hv
  have hsm: ∀b:UInt8,128≤b.toNat→PC Tryz.prog 80 [.g (.str ⟨#[110]⟩), .g (.int .u8 b.toNat)] ⟨[],[],[]⟩ (.g (.int .i64 (-1))) ⟨[],[],[]⟩:=fun b hb=>by
   have h1:=idxB_pc (s:=⟨#[110]⟩) (c:=(b.toNat:Int))
   rw[Int.toNat_natCast,show b.toNat.toUInt8=b from by simp,idx_high hb _ (by decide)]at h1
   exact h1
  have hsn: ∀b:UInt8,128≤b.toNat→PC Tryz.prog 80 [.g (.str ⟨#[]⟩), .g (.int .u8 b.toNat)] ⟨[],[],[]⟩ (.g (.int .i64 (-1))) ⟨[],[],[]⟩:=fun b hb=>by
   have h1:=idxB_pc (s:=⟨#[]⟩) (c:=(b.toNat:Int))
   rw[Int.toNat_natCast,show b.toNat.toUInt8=b from by simp,idx_high hb _ (by decide)]at h1
   exact h1
  have hz: ¬(r:Int)<128:=by omega
  have hz0:0≤(r:Int):=by omega
  generalize hR:Utf8.encode (r:Int)=R at *
  generalize(r:Int)=z at *
  refine eN Tryz.func53 ?_
  (try refine uD ?_)
  refine sQ (fun h=> ?_) fun h=> ?_
  ·clear h
   (try refine uD ?_)
   refine sQ (fun h=> ?_) fun h=> ?_
   ·exfalso
    exact hz (of_decide_eq_true h)
   ·clear h
    (try refine uD ?_)
    refine sQ (fun h=> ?_) fun h=> ?_
    ·clear h
     (repeat first|refine uE ?_|((first|apply oR rfl rfl|(apply dF rfl rfl rfl;intro _)|(apply dP rfl rfl rfl;intro _)|(apply dL rfl rfl rfl;intro _)|apply dC rfl rfl rfl rfl);(focus(first|exact PO_range rfl (ST rfl) rfl|exact mO));try exact kQ))
     refine PW_loop_n 4 ?_
     (repeat first|refine uE ?_|((first|apply oR rfl rfl|(apply dF rfl rfl rfl;intro _)|(apply dP rfl rfl rfl;intro _)|(apply dL rfl rfl rfl;intro _)|apply dC rfl rfl rfl rfl);(focus(first|exact PO_next rfl rfl rfl (by decide)|exact PO_next_end rfl rfl rfl (by decide)|exact mO));try exact kQ))
     refine rT ?_
     rfl
    ·clear h
     (repeat first|refine uE ?_|((first|apply oR rfl rfl|(apply dF rfl rfl rfl;intro _)|(apply dP rfl rfl rfl;intro _)|(apply dL rfl rfl rfl;intro _)|apply dC rfl rfl rfl rfl);(focus(first|exact cl rfl rfl ENvr hvr rfl rfl rfl|exact mO));try exact kQ))
     refine PW_scope ?_
     (repeat first|refine uF ?_|((first|apply oR rfl rfl|(apply dF rfl rfl rfl;intro _)|(apply dP rfl rfl rfl;intro _)|(apply dL rfl rfl rfl;intro _)|apply dC rfl rfl rfl rfl);(focus(first|exact PO_as (PO_conv_rune rfl (IK rfl) (ST rfl) rfl) (congrArg (fun k=>PV.g (.str k)) hR)|exact mO));try exact kQ)|refine xU [2] rfl ?_)
     rcases hsh with⟨a,b,rfl,hb⟩|⟨a,b,c,rfl,hb⟩|⟨a,b,c,d,rfl⟩
     ·have hs:=hsm b hb
      have hne:((92:Int) !=(b.toNat:Int))=true:=by simp[bne];omega
      (try refine uD ?_)
      refine PW_loop_n 2 ?_
      (try refine uD ?_)
      refine PW_scope ?_
      (repeat first|refine uE ?_|((first|apply oR rfl rfl|(apply dF rfl rfl rfl;intro _)|(apply dP rfl rfl rfl;intro _)|(apply dL rfl rfl rfl;intro _)|apply dC rfl rfl rfl rfl);(focus(first|exact PO_index (b:=92) rfl (ST rfl) rfl rfl (show(0:Int)≤1 by decide) rfl|exact PO_index (b:=b) rfl (ST rfl) rfl rfl (show(0:Int)≤1 by decide) rfl|exact mO));try exact kQ))
      refine sQ (fun h=> ?_) fun h=> ?_
      ·clear h
       (repeat first|refine uE ?_|((first|apply oR rfl rfl|(apply dF rfl rfl rfl;intro _)|(apply dP rfl rfl rfl;intro _)|(apply dL rfl rfl rfl;intro _)|apply dC rfl rfl rfl rfl);(focus(first|exact PO_index (b:=b) rfl (ST rfl) rfl rfl (show(0:Int)≤1 by decide) rfl|exact PO_slice_str rfl (ST rfl) rfl rfl rfl (show(0:Int)≤2 by decide) (show(2:Int)≤3 by decide) (show(3:Int)≤3 by decide)|exact cl rfl rfl ENib2 hs rfl rfl rfl|exact mO));try exact kQ))
       refine rT ?_
       rfl
      ·exact absurd (hne.symm.trans h) (by decide)
     ·have hs:=hsn c hb
      have hne:((110:Int) !=(c.toNat:Int))=true:=by simp[bne];omega
      (try refine uD ?_)
      refine PW_loop_n 2 ?_
      (try refine uD ?_)
      refine PW_scope ?_
      (repeat first|refine uE ?_|((first|apply oR rfl rfl|(apply dF rfl rfl rfl;intro _)|(apply dP rfl rfl rfl;intro _)|(apply dL rfl rfl rfl;intro _)|apply dC rfl rfl rfl rfl);(focus(first|exact PO_index (b:=110) rfl (ST rfl) rfl rfl (show(0:Int)≤2 by decide) rfl|exact PO_index (b:=c) rfl (ST rfl) rfl rfl (show(0:Int)≤2 by decide) rfl|exact mO));try exact kQ))
      refine sQ (fun h=> ?_) fun h=> ?_
      ·clear h
       (repeat first|refine uE ?_|((first|apply oR rfl rfl|(apply dF rfl rfl rfl;intro _)|(apply dP rfl rfl rfl;intro _)|(apply dL rfl rfl rfl;intro _)|apply dC rfl rfl rfl rfl);(focus(first|exact PO_index (b:=c) rfl (ST rfl) rfl rfl (show(0:Int)≤2 by decide) rfl|exact PO_slice_str rfl (ST rfl) rfl rfl rfl (show(0:Int)≤3 by decide) (show(3:Int)≤3 by decide) (show(3:Int)≤3 by decide)|exact cl rfl rfl ENib2 hs rfl rfl rfl|exact mO));try exact kQ))
       refine rT ?_
       rfl
      ·exact absurd (hne.symm.trans h) (by decide)
     ·(try refine uD ?_)
      refine PW_loop_n 2 ?_
      (try refine uD ?_)
      refine rT ?_
      rfl
  ·exfalso
   exact(of_decide_eq_false h) hz0
end Go.Proofs.YtdoenpeadkoklaaGreatFmtBesafter
namespace Go.Proofs.YtdoenpeadkoklaaGreatFmtBesafter
open Go Go.Pure Go.Shelf
def layB_ren:Go.Shelf.Ren:=⟨fun|167=>54|168=>56|169=>55|240=>84|242=>85|276=>111|278=>112|n=>n,fun|0=>0|3=>3|4=>4|5=>5|9=>9|20=>20|21=>21|37=>116|46=>128|51=>132|70=>115|72=>118|75=>121|80=>123|127=>148|164=>187|n=>n,fun n=>n⟩
theorem layB_n167:Go.Proofs.Lays.n167 Tryz.prog layB_ren:={
 mixed:=by kernel_rfl
 f167:=Tryz.func54.trans (congrArg some (by kernel_rfl))
 f240:=Tryz.func84.trans (congrArg some (by kernel_rfl))
 f276:=Tryz.func111.trans (congrArg some (by kernel_rfl))
 t0:=Tryz.underlying0
 a0:=Tryz.isAgg0
 z0:=Tryz.sizeOf0
 v0:=Tryz.zeroValue0
 t4:=Tryz.underlying4
 a4:=Tryz.isAgg4
 z4:=Tryz.sizeOf4
 v4:=Tryz.zeroValue4
 t5:=Tryz.underlying5
 a5:=Tryz.isAgg5
 z5:=Tryz.sizeOf5
 v5:=Tryz.zeroValue5
 t9:=Tryz.underlying9
 a9:=Tryz.isAgg9
 z9:=Tryz.sizeOf9
 v9:=Tryz.zeroValue9
 t20:=Tryz.underlying20
 a20:=Tryz.isAgg20
 z20:=Tryz.sizeOf20
 v20:=Tryz.zeroValue20
 t37:=Tryz.underlying116
 a37:=Tryz.isAgg116
 z37:=Tryz.sizeOf116
 v37:=Tryz.zeroValue116
 t70:=Tryz.underlying115
 a70:=Tryz.isAgg115
 z70:=Tryz.sizeOf115
 v70:=Tryz.zeroValue115
 t72:=Tryz.underlying118
 a72:=Tryz.isAgg118
 z72:=Tryz.sizeOf118
 v72:=Tryz.zeroValue118
 t75:=Tryz.underlying121
 a75:=Tryz.isAgg121
 z75:=Tryz.sizeOf121
 v75:=Tryz.zeroValue121
 t164:=Tryz.underlying187
 a164:=Tryz.isAgg187
 z164:=Tryz.sizeOf187
 v164:=Tryz.zeroValue187}
theorem layB_n168:Go.Proofs.Lays.n168 Tryz.prog layB_ren:={
 mixed:=by kernel_rfl
 f168:=Tryz.func56.trans (congrArg some (by kernel_rfl))
 f240:=Tryz.func84.trans (congrArg some (by kernel_rfl))
 f242:=Tryz.func85.trans (congrArg some (by kernel_rfl))
 f276:=Tryz.func111.trans (congrArg some (by kernel_rfl))
 f278:=Tryz.func112.trans (congrArg some (by kernel_rfl))
 t0:=Tryz.underlying0
 a0:=Tryz.isAgg0
 z0:=Tryz.sizeOf0
 v0:=Tryz.zeroValue0
 t3:=Tryz.underlying3
 a3:=Tryz.isAgg3
 z3:=Tryz.sizeOf3
 v3:=Tryz.zeroValue3
 t4:=Tryz.underlying4
 a4:=Tryz.isAgg4
 z4:=Tryz.sizeOf4
 v4:=Tryz.zeroValue4
 t5:=Tryz.underlying5
 a5:=Tryz.isAgg5
 z5:=Tryz.sizeOf5
 v5:=Tryz.zeroValue5
 t9:=Tryz.underlying9
 a9:=Tryz.isAgg9
 z9:=Tryz.sizeOf9
 v9:=Tryz.zeroValue9
 t20:=Tryz.underlying20
 a20:=Tryz.isAgg20
 z20:=Tryz.sizeOf20
 v20:=Tryz.zeroValue20
 t21:=Tryz.underlying21
 a21:=Tryz.isAgg21
 z21:=Tryz.sizeOf21
 v21:=Tryz.zeroValue21
 t37:=Tryz.underlying116
 a37:=Tryz.isAgg116
 z37:=Tryz.sizeOf116
 v37:=Tryz.zeroValue116
 t46:=Tryz.underlying128
 a46:=Tryz.isAgg128
 z46:=Tryz.sizeOf128
 v46:=Tryz.zeroValue128
 t51:=Tryz.underlying132
 a51:=Tryz.isAgg132
 z51:=Tryz.sizeOf132
 v51:=Tryz.zeroValue132
 t70:=Tryz.underlying115
 a70:=Tryz.isAgg115
 z70:=Tryz.sizeOf115
 v70:=Tryz.zeroValue115
 t72:=Tryz.underlying118
 a72:=Tryz.isAgg118
 z72:=Tryz.sizeOf118
 v72:=Tryz.zeroValue118
 t75:=Tryz.underlying121
 a75:=Tryz.isAgg121
 z75:=Tryz.sizeOf121
 v75:=Tryz.zeroValue121
 t164:=Tryz.underlying187
 a164:=Tryz.isAgg187
 z164:=Tryz.sizeOf187
 v164:=Tryz.zeroValue187}
theorem layB_n169:Go.Proofs.Lays.n169 Tryz.prog layB_ren:={
 mixed:=by kernel_rfl
 f169:=Tryz.func55.trans (congrArg some (by kernel_rfl))
 t0:=Tryz.underlying0
 a0:=Tryz.isAgg0
 z0:=Tryz.sizeOf0
 v0:=Tryz.zeroValue0
 t3:=Tryz.underlying3
 a3:=Tryz.isAgg3
 z3:=Tryz.sizeOf3
 v3:=Tryz.zeroValue3
 t9:=Tryz.underlying9
 a9:=Tryz.isAgg9
 z9:=Tryz.sizeOf9
 v9:=Tryz.zeroValue9
 t37:=Tryz.underlying116
 a37:=Tryz.isAgg116
 z37:=Tryz.sizeOf116
 v37:=Tryz.zeroValue116
 t70:=Tryz.underlying115
 a70:=Tryz.isAgg115
 z70:=Tryz.sizeOf115
 v70:=Tryz.zeroValue115
 t72:=Tryz.underlying118
 a72:=Tryz.isAgg118
 z72:=Tryz.sizeOf118
 v72:=Tryz.zeroValue118
 t127:=Tryz.underlying148
 a127:=Tryz.isAgg148
 z127:=Tryz.sizeOf148
 v127:=Tryz.zeroValue148}
theorem layB_X:Go.Proofs.Builder.Extra Tryz.prog layB_ren where
 sizeBuilder:=by kernel_rfl
 liesBuilder:=by kernel_rfl
 t5:=Tryz.underlying5
 a5:=Tryz.isAgg5
 z5:=Tryz.sizeOf5
 v5:=Tryz.zeroValue5
 infoByte:=by kernel_rfl
 cellsByte:=by kernel_rfl
 sizeByte:=by kernel_rfl
 neB5:=by decide
def layIR_ren:Go.Shelf.Ren:=⟨fun|119=>81|137=>80|152=>53|217=>110|224=>82|225=>83|266=>128|n=>n,fun|0=>0|3=>3|4=>4|5=>5|9=>9|21=>21|46=>128|n=>n,fun n=>n⟩
theorem layIR:Go.Proofs.Lays.n152 Tryz.prog layIR_ren:={
 mixed:=by kernel_rfl
 f119:=Tryz.func81.trans (congrArg some (by kernel_rfl))
 f137:=Tryz.func80.trans (congrArg some (by kernel_rfl))
 f152:=Tryz.func53.trans (congrArg some (by kernel_rfl))
 f217:=Tryz.func110.trans (congrArg some (by kernel_rfl))
 f224:=Tryz.func82.trans (congrArg some (by kernel_rfl))
 f225:=Tryz.func83.trans (congrArg some (by kernel_rfl))
 f266:=Tryz.func128.trans (congrArg some (by kernel_rfl))
 t0:=Tryz.underlying0
 a0:=Tryz.isAgg0
 z0:=Tryz.sizeOf0
 v0:=Tryz.zeroValue0
 t3:=Tryz.underlying3
 a3:=Tryz.isAgg3
 z3:=Tryz.sizeOf3
 v3:=Tryz.zeroValue3
 t4:=Tryz.underlying4
 a4:=Tryz.isAgg4
 z4:=Tryz.sizeOf4
 v4:=Tryz.zeroValue4
 t5:=Tryz.underlying5
 a5:=Tryz.isAgg5
 z5:=Tryz.sizeOf5
 v5:=Tryz.zeroValue5
 t9:=Tryz.underlying9
 a9:=Tryz.isAgg9
 z9:=Tryz.sizeOf9
 v9:=Tryz.zeroValue9
 t21:=Tryz.underlying21
 a21:=Tryz.isAgg21
 z21:=Tryz.sizeOf21
 v21:=Tryz.zeroValue21
 t46:=Tryz.underlying128
 a46:=Tryz.isAgg128
 z46:=Tryz.sizeOf128
 v46:=Tryz.zeroValue128}
end Go.Proofs.YtdoenpeadkoklaaGreatFmtBesafter