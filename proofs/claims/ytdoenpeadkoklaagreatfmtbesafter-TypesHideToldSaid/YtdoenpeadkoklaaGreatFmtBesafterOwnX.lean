/- What the program's functions compute, each shown once; and plain laws of it. -/
import Derived.Test.YtdoenpeadkoklaaGreatFmtBesafterOwnW
import Derived.Test.YtdoenpeadkoklaaGreatFmtBesafterOwnT
import Derived.Test.YtdoenpeadkoklaaGreatFmtBesafterOwnF
import Derived.Test.YtdoenpeadkoklaaGreatFmtBesafterOwnE
import Derived.Test.YtdoenpeadkoklaaGreatFmtBesafterPureB
import Derived.Test.YtdoenpeadkoklaaGreatFmtBesafterPureC
import Derived.Test.YtdoenpeadkoklaaGreatFmtBesafterCards
import Derived.Test.YtdoenpeadkoklaaGreatFmtBesafterTie
import Derived.Deep.DeepWitnessRef
import Derived.Stop.JoinedTold
import Derived.Lib.LaidRTabT
import Derived.Lib.LaidIn
import Derived.Lib.LaidU8T
import Derived.PinnedBridge
import Derived.ProofKit
import Derived.SizedLaws
import Derived.Stop.LaidErr
set_option maxRecDepth 100000
set_option maxHeartbeats 32000000
namespace Go.Proofs.YtdoenpeadkoklaaGreatFmtBesafter
open Go Go.Pure
attribute [local irreducible] PW POps POpsD PO PC Cond
def varsOf(s:List (ByteArray×TyP)):List VVar:=s.map fun p=>VVar.mk p.1 (tyP p.2)
theorem varsOf_g(s:List (ByteArray×TyP)):VVar.gs (varsOf s)=varsG s:=by
 unfold VVar.gs varsOf varsG
 rw[List.map_map]
 rfl
theorem varsE_ok{nm:ByteArray→Bool}: ∀{vs:List VVar},varsE nm vs=0→ ∃s,vs=varsOf s∧ ∀p∈s,baseK p.2.2
 |[],_=>⟨[],rfl,fun p hp=>absurd hp List.not_mem_nil⟩
 | .mk n ty::r,h=>by
  rw[varsE]at h
  split at h
  ·cases h
  ·split at h
   ·rename_i h1;exact absurd h h1
   ·rename_i h1
    obtain⟨s,hs,hb⟩:=varsE_ok h
    obtain⟨m,b,_,hbb,rfl⟩:=wrongT_ok ty 1 (by omega)
    refine⟨(n,(m,b))::s,by rw[hs];rfl,fun p hp=> ?_⟩
    rcases List.mem_cons.1 hp with rfl|hp
    ·exact hbb
    ·exact hb p hp
theorem tyL_inj{b c:Int}(hb:baseK b)(hc:baseK c): ∀{m n:Nat},tyL m b=tyL n c→m=n∧b=c
 |0,0,h=>by
  have:VTy.mk b []=VTy.mk c []:=h
  cases this
  exact⟨rfl,rfl⟩
 |0,n+1,h=>by
  have:VTy.mk b []=VTy.mk 5 [tyL n c]:=h
  cases this
 |m+1,0,h=>by
  have:VTy.mk 5 [tyL m b]=VTy.mk c []:=h
  cases this
 |m+1,n+1,h=>by
  have:VTy.mk 5 [tyL m b]=VTy.mk 5 [tyL n c]:=h
  injection this with _ h2
  injection h2 with h3 _
  obtain⟨e1,e2⟩:=tyL_inj hb hc h3
  exact⟨by rw[e1],e2⟩
theorem varsOf_inj: ∀{s s':List (ByteArray×TyP)},(∀p∈s,baseK p.2.2)→(∀p∈s',baseK p.2.2)→varsOf s=varsOf s'→s=s'
 |[],[],_,_,_=>rfl
 |[],_::_,_,_,h=>by simp[varsOf]at h
 |_::_,[],_,_,h=>by simp[varsOf]at h
 |(n,(m,b))::s,(n',(m',b'))::s',hb,hb',h=>by
  have h1:VVar.mk n (tyL m b)::varsOf s=VVar.mk n' (tyL m' b')::varsOf s':=h
  injection h1 with h2 h3
  injection h2 with h4 h5
  obtain⟨e1,e2⟩:=tyL_inj (hb _ List.mem_cons_self) (hb' _ List.mem_cons_self) h5
  have e2:b=b':=e2
  rw[h4,e1,e2,varsOf_inj (fun p hp=>hb p (List.mem_cons_of_mem _ hp)) (fun p hp=>hb' p (List.mem_cons_of_mem _ hp)) h3]
theorem type_ans{V nm:ByteArray→Bool}(hV: ∀s:ByteArray,s.size≤maxLen→PC Tryz.prog 59 [.g (.str s)] ⟨[],[],[]⟩ (.g (.bool (V s))) ⟨[],[],[]⟩)
  (hN: ∀s:ByteArray,PC Tryz.prog 9 [.g (.str s)] ⟨[],[],[]⟩ (.g (.bool (nm s))) ⟨[],[],[]⟩) (x:VExpr) (hz:gsz x.g) (vs:List VVar):
  ∃(T:VTy) (e:Int),PC Tryz.prog 5 [.g x.g, .g (.sl (VVar.gs vs))] ⟨[],[],[]⟩ (.tuple [.g T.g, .g (.int .i64 e)]) ⟨[],[],[]⟩∧(e=0→ ∃s,vs=varsOf s∧(∀p∈s,baseK p.2.2)∧(lookP x s).2=0∧T=tyP (lookP x s).1):=by
 by_cases hbad:(lookX V nm x 0 1).2≠0∨50<vs.length
 ·refine⟨_,_,type_bad hV hN x hz vs hbad,fun h=> ?_⟩
  exfalso
  split at h
  ·rename_i h1;exact h1 h
  ·cases h
 ·have h0:(lookX V nm x 0 1).2=0:=by omega
  have hl:vs.length≤50:=by omega
  have hok:=lookX_okL (V:=V) (nm:=nm) x 0 1 h0
  by_cases hE:varsE nm vs=0
  ·obtain⟨s,hs,hb⟩:=varsE_ok hE
   have hsl:s.length≤50:=by rw[hs]at hl;simpa[varsOf]using hl
   have hlk:=look_all x 1 s hok (by omega) hb
   refine⟨_,_,type_in hV hN x hz vs h0 hl (T:=(if(lookP x s).2≠0 then tyZ0 else tyP (lookP x s).1)) (e:=(lookP x s).2) (fun q=>absurd hE q) (fun _=>⟨s,by rw[hs,varsOf_g],hlk,rfl,rfl⟩),fun h=>⟨s,hs,hb,h,if_neg (fun q=>q h)⟩⟩
  ·exact⟨_,_,type_in hV hN x hz vs h0 hl (T:=tyZ0) (e:=varsE nm vs) (fun _=>⟨rfl,rfl⟩) (fun q=>absurd q hE),fun h=>absurd h hE⟩
theorem hide_pc{V nm:ByteArray→Bool}(hV: ∀s:ByteArray,s.size≤maxLen→PC Tryz.prog 59 [.g (.str s)] ⟨[],[],[]⟩ (.g (.bool (V s))) ⟨[],[],[]⟩)
  (hN: ∀s:ByteArray,PC Tryz.prog 9 [.g (.str s)] ⟨[],[],[]⟩ (.g (.bool (nm s))) ⟨[],[],[]⟩) (x:VExpr) (hz:gsz x.g) (vs:List VVar) (more:VVar):
  PC Tryz.prog 3 [.g x.g, .g (.sl (VVar.gs vs)), .g more.g] ⟨[],[],[]⟩ (.g (.bool true)) ⟨[],[],[]⟩:=by
 have hal:=alive_pc
 have hgl:(VVar.gs vs).length=vs.length:=by simp[VVar.gs]
 obtain⟨T1,e1,h1,g1⟩:=type_ans hV hN x hz vs
 obtain⟨T2,e2,h2,g2⟩:=type_ans hV hN x hz (more::vs)
 have hsame:e1=0→e2=0→PC Tryz.prog 6 [.g T1.g, .g T2.g] ⟨[],[],[]⟩ (.g (.bool true)) ⟨[],[],[]⟩:=fun q1 q2=>by
  obtain⟨s,hs,hb,hl1,rfl⟩:=g1 q1
  obtain⟨s2,hs2,hb2,hl2,rfl⟩:=g2 q2
  match s2,hs2,hb2,hl2 with
  |[],hs2,_,_=>simp[varsOf]at hs2
  |p::s',hs2,hb2,hl2=>
   have h3:more::vs=VVar.mk p.1 (tyP p.2)::varsOf s':=hs2
   injection h3 with _ h4
   have h5:s=s':=varsOf_inj hb (fun q hq=>hb2 q (List.mem_cons_of_mem _ hq)) (hs.symm.trans h4)
   subst h5
   rw[show lookP x (p::s)=lookP x s from lookT_more resP sgN p x s hl1]
   exact same9_pc _ _
 clear g1 g2 hV hN hz
 obtain⟨k,⟨y0,y1,y2,y3,y4,y5⟩,name,kids⟩:=x
 obtain⟨mn,⟨mk_,mes⟩⟩:=more
 obtain⟨tk1,tes1⟩:=T1
 obtain⟨tk2,tes2⟩:=T2
 refine eN Tryz.func3 ?_
 (repeat first|refine uE ?_|((first|apply oR rfl rfl|(apply dF rfl rfl rfl;intro _)|(apply dP rfl rfl rfl;intro _)|(apply dL rfl rfl rfl;intro _)|apply dC rfl rfl rfl rfl);(focus(first|exact cqP hal|exact cqP h1|exact mO));try exact kQ))
 refine sQ (fun h=> ?_) fun h=> ?_
 ·(try refine uD ?_)
  refine rT ?_
  rfl
 have hlen:vs.length<50:=by have:=of_decide_eq_false h;omega
 clear h
 have hxs: ∀x∈VVar.gs vs,x.cells.length=3:=fun x hx=>by
  obtain⟨p,_,rfl⟩:=List.mem_map.1 hx
  exact VVar.cells p
 (repeat first|refine uE ?_|((first|apply oR rfl rfl|(apply dF rfl rfl rfl;intro _)|(apply dP rfl rfl rfl;intro _)|(apply dL rfl rfl rfl;intro _)|apply dC rfl rfl rfl rfl);(focus(first|exact PO_buildSlice_lit rfl (EL rfl) (SZ rfl) (AG rfl) (ZR rfl) rfl rfl rfl rfl rfl rfl rfl|exact PO_append_lit (xs:=[(VVar.mk mn (VTy.mk mk_ mes)).g]) rfl (EL rfl) (SZ rfl) (BY rfl) (ZR rfl) rfl rfl rfl (fun x hx=>absurd hx List.not_mem_nil) (fun x hx=>by rw[List.mem_singleton.1 hx];rfl) (Nat.succ_pos 0) (by show(0+1) *_≤_;decide) (by show 0+1≤maxLen;decide)|exact aP (xs:=VVar.gs vs) rfl (EL rfl) (SZ rfl) (BY rfl) (ZR rfl) rfl rfl rfl rfl rfl hxs (by rw[hgl];show(1+vs.length) *_≤_;omega) (by rw[hgl];show 1+vs.length≤maxLen;unfold maxLen;omega)|exact cqP h2|exact mO));try exact kQ))
 refine sQ (fun h=> ?_) fun h=> ?_
 ·(try refine uD ?_)
  refine rT ?_
  rfl
 have q1:e1=0:=by simpa[bne]using h
 clear h
 (try refine uD ?_)
 refine sQ (fun h=> ?_) fun h=> ?_
 ·(try refine uD ?_)
  refine rT ?_
  rfl
 have q2:e2=0:=by simpa[bne]using h
 clear h
 have hS:=hsame q1 q2
 (repeat first|refine uE ?_|((first|apply oR rfl rfl|(apply dF rfl rfl rfl;intro _)|(apply dP rfl rfl rfl;intro _)|(apply dL rfl rfl rfl;intro _)|apply dC rfl rfl rfl rfl);(focus(first|exact cqP hS|exact mO));try exact kQ))
 refine rT ?_
 rfl
noncomputable def prS(u:ByteArray):Int×Int×Int:=
 open Classical in
 if h: ∃q:Int×Int×Int,PC Tryz.prog 31 [.g (.str u)] ⟨[],[],[]⟩ (.tuple [.g (.agg [.int .i64 q.1, .int .i64 q.2.1]), .g (.int .i64 q.2.2)]) ⟨[],[],[]⟩then h.choose else(0,0,0)
theorem prS_pc(t:ByteArray)(h0:0<t.size)(hd:digB (Utf8.decode t 0).1=true)(ht:t.size≤40):
  PC Tryz.prog 31 [.g (.str (uptoB t (numB t)))] ⟨[],[],[]⟩ (.tuple [.g (.agg [.int .i64 (prS (uptoB t (numB t))).1, .int .i64 (prS (uptoB t (numB t))).2.1]), .g (.int .i64 (prS (uptoB t (numB t))).2.2)]) ⟨[],[],[]⟩:=by
 obtain⟨a,b,r,h⟩:=parse_num h0 hd ht
 have e: ∃q:Int×Int×Int,PC Tryz.prog 31 [.g (.str (uptoB t (numB t)))] ⟨[],[],[]⟩ (.tuple [.g (.agg [.int .i64 q.1, .int .i64 q.2.1]), .g (.int .i64 q.2.2)]) ⟨[],[],[]⟩:=⟨(a,b,r),h⟩
 unfold prS
 rw[dif_pos e]
 exact e.choose_spec
theorem hide_all(x:VExpr)(hz:gsz x.g)(vs:List VVar)(more:VVar):
  PC Tryz.prog 3 [.g x.g, .g (.sl (VVar.gs vs)), .g more.g] ⟨[],[],[]⟩ (.g (.bool true)) ⟨[],[],[]⟩:=
 hide_pc (V:=fun s=>Lib.validD s.data.toList) (nm:=nameB prS) valid_pc (named_pc prS_pc) x hz vs more
end Go.Proofs.YtdoenpeadkoklaaGreatFmtBesafter
namespace Go.Proofs.YtdoenpeadkoklaaGreatFmtBesafter
open Go Go.Pure Go.Shelf Go.Lib
def renR:Ren:=⟨fun n=>n,fun|3=>3|49=>155|51=>132|141=>134|193=>151|194=>152|196=>154|198=>157|201=>160|n=>n,fun n=>n⟩
theorem tyR:RTypes Tryz.prog renR:=⟨Tryz.underlying3,Tryz.underlying155,Tryz.underlying132,Tryz.underlying134,Tryz.underlying151,Tryz.underlying152,Tryz.underlying154,Tryz.underlying157,Tryz.underlying160⟩
theorem xR:RExtra Tryz.prog renR:=⟨by kernel_rfl,by kernel_rfl,by kernel_rfl,by kernel_rfl,by kernel_rfl,by kernel_rfl,by kernel_rfl,by kernel_rfl⟩
def numsOf:DataW Unit→Array Value
 | .agg l=>(l.filterMap fun d=>match d with| .lit (.int k z)=>some (Value.int k z)|_=>none).toArray
 | .lit (.int k z)=> #[.int k z]
 |_=> #[]
noncomputable abbrev N0:Nat:=(World.settled Tryz.prog default).heap.size
noncomputable def laidWorld(os:Os):World:=
 let N:=(World.settled Tryz.prog os).heap.size
 let w0:=World.holding Tryz.prog os ⟨#[
  .cells (rgCells .u16 letterT.r16) 157, .cells (rgCells .u32 letterT.r32) 160,
  .cells #[.slice (some ⟨N,0,none⟩) letterT.r16.size letterT.r16.size, .slice (some ⟨N+1,0,none⟩) letterT.r32.size letterT.r32.size, .int .i64 letterT.off] 154,
  .cells #[.string ⟨#[69,79,70]⟩] 393,
  .cells #[.string ⟨#[110,117,109,98,101,114,32,104,97,115,32,110,111,32,100,105,103,105,116,115]⟩] 393,
  .cells #[.string ⟨#[39,95,39,32,109,117,115,116,32,115,101,112,97,114,97,116,101,32,115,117,99,99,101,115,115,105,118,101,32,100,105,103,105,116,115]⟩] 393], #[],[]⟩
 let put (h:Array Obj) (x:Nat×Array Value):Array Obj:=h.modify x.1 fun
  | .cells _ t frozen=> .cells x.2 t frozen
  |o=>o
 let h:=[(17,numsOf Rows.laid_math_bits_deBruijn32tab),(18,numsOf Rows.laid_math_bits_deBruijn64tab),(1,((List.range 16).flatMap fun i=>[Value.int .u8 (Lib.accLo i),Value.int .u8 (Lib.accHi i)]).toArray),
  (4, #[.iface 375 (.pointer (some ⟨N+3,0,none⟩))]),(2,numsOf Rows.laid_unicode_properties),(8, #[.iface 375 (.pointer (some ⟨N+4,0,none⟩))]),(7, #[.iface 375 (.pointer (some ⟨N+5,0,none⟩))]),
  (22, #[.int .i64 8]),(14, #[.int .i64 40]),(11, #[.int .i64 40]),(9, #[.int .i64 12]),(10, #[.int .i64 80]),(3, #[.pointer (some ⟨N+2,0,none⟩)]),(0,(Lib.firstTab.map fun z=>Value.int .u8 z).toArray)].foldl put w0.heap
 {w0 with heap:=h}
theorem piece0(os:Os)(args:Array Value):LaidIn Tryz.prog ((laidWorld os).forCall (fun _ _=>0) ⟨#[],args,[]⟩).memory [("math/bits.deBruijn32tab",Rows.laid_math_bits_deBruijn32tab),("math/bits.deBruijn64tab",Rows.laid_math_bits_deBruijn64tab),("unicode/utf8.acceptRanges",Rows.laid_unicode_utf8_acceptRanges),("io.EOF",Rows.laid_io_EOF),("unicode.properties",Rows.laid_unicode_properties),("math/big.errNoDigits",Rows.laid_math_big_errNoDigits),("math/big.errInvalSep",Rows.laid_math_big_errInvalSep),("math/big.leafSize",Rows.laid_math_big_leafSize),("math/big.divRecursiveThreshold",Rows.laid_math_big_divRecursiveThreshold),("math/big.karatsubaThreshold",Rows.laid_math_big_karatsubaThreshold),("math/big.basicSqrThreshold",Rows.laid_math_big_basicSqrThreshold),("math/big.karatsubaSqrThreshold",Rows.laid_math_big_karatsubaSqrThreshold)] [17,18,1,4,N0+3,2,8,N0+4,7,N0+5,22,14,11,9,10]:=
 LaidIn.of_run [17,18,1,4,N0+3,2,8,N0+4,7,N0+5,22,14,11,9,10] 8 (by kernel_rfl) (by kernel_rfl) (by kernel_rfl) (by kernel_rfl)
theorem piece1(os:Os)(args:Array Value):LaidIn Tryz.prog ((laidWorld os).forCall (fun _ _=>0) ⟨#[],args,[]⟩).memory [("unicode.Letter",Lib.rtabData letterT)] [3,N0+2,N0,N0+1]:=
 laidIn_rtabT (ρ:=renR) tyR xR (by kernel_rfl) (by kernel_rfl) letterT (N0+2) N0 (N0+1) 157 160
  (by kernel_rfl) (by kernel_rfl) (by kernel_rfl) (by kernel_rfl) (by kernel_rfl) (of_decide_eq_true (by kernel_rfl)) (of_decide_eq_true (by kernel_rfl)) (of_decide_eq_true (by kernel_rfl))
theorem piece2(os:Os)(args:Array Value):LaidIn Tryz.prog ((laidWorld os).forCall (fun _ _=>0) ⟨#[],args,[]⟩).memory [("unicode/utf8.first",Lib.firstData)] [0]:=
 LaidIn.of_run [0] 8 (by kernel_rfl) (by kernel_rfl) (by kernel_rfl) (by kernel_rfl)
theorem one_cell{W:World}{g:Nat}{v:Value}(h:W.cell? ⟨g,0,none⟩=some v): ∀(k:Nat) (u:Value),[v][k]? =some u→W.cell? ⟨g,k,none⟩=some u:=by
 intro k u hu
 cases k with
 |zero=>simp at hu;subst hu;exact h
 |succ k=>simp at hu
theorem star_es: "*" ++ "errors.errorString" = "*errors.errorString" :=by decide
theorem row_es(u:TypeId)(h:Tryz.prog.typeName? 3 u=some "*errors.errorString"):u=375:=
 typeName_ptr_named (nm:= "errors.errorString") (by rw[star_es];kernel_rfl) (by kernel_rfl) (by decide) u (by rw[star_es];exact h)
theorem eof_laid{W:World}(h:laidMet Tryz.prog Rows.typesHideRow.laid W): ∃a,W.cell? ⟨4,0,none⟩=some (.iface 375 (.pointer (some a))):=by
 have h3:=laidMet.tail (laidMet.tail (laidMet.tail h))
 have hg:Tryz.prog.globalNamed "io.EOF" =some 4:=by kernel_rfl
 obtain⟨a,s,hv,_⟩:=laid_sentinel (n:= "io.EOF") (g:=4) (ti:=121) (tp:=375) (te:=393) (ts:=9) h3 hg (by kernel_rfl) Tryz.underlying121 row_es Tryz.underlying375 Tryz.underlying393 rfl rfl Tryz.underlying9 (by kernel_rfl) (by kernel_rfl)
 refine⟨a, ?_⟩
 rw[World.var?_cell hg hv 0]
 rfl
theorem props_laid{W:World}(h:laidMet Tryz.prog Rows.typesHideRow.laid W)(k:Nat)(v:Value)(hk:(propertiesTab.map fun z=>Value.int .u8 z)[k]? =some v):W.cell? ⟨2,k,none⟩=some v:=by
 obtain⟨g',t',cs,fuel,p,h1,h2,h3,h4⟩:=Lib.laidMet.reads h (n:= "unicode.properties") (d:=tabData .u8 propertiesTab) (by repeat(first|exact .head _|apply List.Mem.tail))
 have hg:Tryz.prog.globalNamed "unicode.properties" =some 2:=by kernel_rfl
 obtain rfl:=Option.some.inj (hg.symm.trans h1)
 obtain rfl:=Option.some.inj ((show(Tryz.prog.globals[2]?).map (·.type)=some 127 from by kernel_rfl).symm.trans h2)
 have hcs:=cells_of_tab (k:= .u8) Tryz.underlying127 Tryz.underlying5 (by kernel_rfl) (by kernel_rfl) h4
 rw[World.var?_cell hg h3 k,←Array.getElem?_toList,hcs]
 exact hk
theorem letter_laid{W:World}(h:laidMet Tryz.prog Rows.typesHideRow.laid W):RVar 3 letterT W:=
 rvar_of_readsT (ρ:=renR) tyR xR (name:= "unicode.Letter") (by kernel_rfl) (by kernel_rfl) (Lib.laidMet.reads h (d:=rtabData letterT) (by rw[←Pinned.letter_eq];repeat(first|exact .head _|apply List.Mem.tail)))
theorem utf8_laid{W:World}(h:laidMet Tryz.prog Rows.typesHideRow.laid W):Lib.Utf8Tabs 0 1 W:=
 utf8Tabs_of_readsT (U8Types.of196 layValid) ⟨by kernel_rfl,by kernel_rfl,by kernel_rfl,by kernel_rfl,by kernel_rfl,by kernel_rfl,by kernel_rfl⟩ (Lib.laidMet.reads h (d:=Lib.firstData) (by rw[←Pinned.utf8First_eq];repeat(first|exact .head _|apply List.Mem.tail))) (Lib.laidMet.reads h (d:=Lib.acceptData) (by repeat(first|exact .head _|apply List.Mem.tail)))
theorem int_laid{W:World}(h:laidMet Tryz.prog Rows.typesHideRow.laid W):W.cell? ⟨9,0,none⟩=some (.int .i64 12)∧W.cell? ⟨10,0,none⟩=some (.int .i64 80)∧W.cell? ⟨11,0,none⟩=some (.int .i64 40)∧W.cell? ⟨14,0,none⟩=some (.int .i64 40):=
  ⟨var_int (t:=3) h (name:= "math/big.basicSqrThreshold") (by repeat(first|exact .head _|apply List.Mem.tail)) (by kernel_rfl) (by kernel_rfl) Tryz.underlying3,
   var_int (t:=3) h (name:= "math/big.karatsubaSqrThreshold") (by repeat(first|exact .head _|apply List.Mem.tail)) (by kernel_rfl) (by kernel_rfl) Tryz.underlying3,
   var_int (t:=3) h (name:= "math/big.karatsubaThreshold") (by repeat(first|exact .head _|apply List.Mem.tail)) (by kernel_rfl) (by kernel_rfl) Tryz.underlying3,
   var_int (t:=3) h (name:= "math/big.divRecursiveThreshold") (by repeat(first|exact .head _|apply List.Mem.tail)) (by kernel_rfl) (by kernel_rfl) Tryz.underlying3⟩
theorem gl_hide{W:World}(h:laidMet Tryz.prog Rows.typesHideRow.laid W):(∃β,gok β∧ ∀x∈gfacts β,∀(k:Nat) (v:Value),x.2[k]? =some v→W.cell? ⟨x.1,k,none⟩=some v)∧ ∀w':World,(∀(a:Addr) (v:Value),a.spot=none→W.cell? a=some v→w'.cell? a=some v)→gq w':=by
 obtain⟨a0,ha0⟩:=eof_laid h
 obtain⟨Tb,oT,hp,a16,a32,R16,o16,c16,R32,o32,c32,k0,k1,k2,e16,e32,t16,t32,hc⟩:=letter_laid h
 have e16:=e16 (of_decide_eq_true (by kernel_rfl))
 have e32:=e32 (of_decide_eq_true (by kernel_rfl))
 obtain⟨i1,i2,i3,i4⟩:=int_laid h
 have hu:=utf8_laid h
 refine⟨⟨fun i=>if i=0 then .iface 375 (.pointer (some a0))else .pointer (some ⟨Tb,oT,none⟩),⟨⟨a0,rfl⟩,⟨⟨Tb,oT,none⟩,rfl⟩⟩, ?_⟩,fun w' hw=> ?_⟩
 ·intro x hx
  simp only[gfacts,List.mem_cons,List.not_mem_nil,or_false]at hx
  rcases hx with rfl|rfl|rfl|rfl|rfl|rfl|rfl|rfl|rfl
  ·exact one_cell i1
  ·exact one_cell i2
  ·exact one_cell i3
  ·exact one_cell i4
  ·intro k v hv
   simp only[List.getElem?_map,Option.map_eq_some_iff]at hv
   obtain⟨c,hc,rfl⟩:=hv
   obtain⟨hlt,rfl⟩:=List.getElem?_eq_some_iff.1 hc
   simp only[List.length_range]at hlt
   simpa using hu.1 k hlt
  ·intro k v hv
   simp only[List.getElem?_map,Option.map_eq_some_iff]at hv
   obtain⟨c,hc,rfl⟩:=hv
   obtain⟨hlt,rfl⟩:=List.getElem?_eq_some_iff.1 hc
   simp only[List.length_range]at hlt
   have h2:=hu.2 (k/2) (by omega)
   simp only[List.getElem_range]
   by_cases he:k%2=0
   ·rw[if_pos he,←h2.1,show 2 *(k/2)=k by omega]
   ·rw[if_neg he,←h2.2,show 2 *(k/2)+1=k by omega]
  ·exact one_cell ha0
  ·exact one_cell hp
  ·exact fun k v hk=>props_laid h k v hk
 ·have tr: ∀{kk:IntKind} {b off:Nat} {T:Array (Nat×Nat×Nat)},RgTab kk b off T W→gRanges kk b off T w':=fun ht i hi=>by
   obtain⟨q1,q2,q3⟩:=ht i hi
   rw[Nat.mul_comm 3 i]
   exact⟨hw _ _ rfl q1,hw _ _ rfl q2,hw _ _ rfl q3⟩
  exact⟨Tb,oT,a16,a32,R16,o16,c16,R32,o32,c32,hw _ _ rfl hp,hw _ _ rfl k0,hw _ _ rfl k1,hw _ _ rfl k2,e16,e32,tr t16,tr t32,hc⟩
end Go.Proofs.YtdoenpeadkoklaaGreatFmtBesafter
namespace Go.Proofs.YtdoenpeadkoklaaGreatFmtBesafter
open Go Go.Pure Go.Shelf Go.Lib Go.ChangeShapes Go.WideShapes Go.ChangeAt Go.RowKit
open Go.Extern.Stop Go.Stop Go.Extern
theorem laid_all(os:Os)(args:Array Value):laidMet Tryz.prog Rows.typesHideRow.laid ((laidWorld os).forCall (fun _ _=>0) ⟨#[],args,[]⟩).memory:=by
 have h:=((piece0 os args).append (piece1 os args) (by kernel_rfl)).append (piece2 os args) (by kernel_rfl)
 rw[←Pinned.letter_eq,←Pinned.utf8First_eq]at h
 exact h.met
theorem stops_are:Tryz.pinned.checked.prog.stops=["fmt.Sprintf"]:=by kernel_rfl
theorem knobs_are:Tryz.pinned.checked.prog.stopKnobs=[]:=by kernel_rfl
theorem quiet_all(os:Os):Stop.quiet Tryz.pinned.checked.prog os:=by
 intro k hk
 rw[knobs_are]at hk
 cases hk
theorem valT_in{g:GV}(h:GT Tryz.prog 26 g): ∃v:VVal,g=v.g:=
 val_inv (ti:=3) (tj:=2) (tb:=4) (ts:=9) (TD:=23) (LV:=24) Tryz.underlying3 Tryz.underlying2 Tryz.underlying4 Tryz.underlying9 ⟨_,Tryz.underlying26,rfl⟩ ⟨_,Tryz.underlying23,rfl⟩ Tryz.underlying24 _ g (Nat.le_refl _) h
theorem tyT_in{g:GV}(h:GT Tryz.prog 33 g): ∃v:VTy,g=v.g:=
 ty_inv (ti:=3) (LY:=31) Tryz.underlying3 ⟨_,Tryz.underlying33,rfl⟩ Tryz.underlying31 _ g (Nat.le_refl _) h
theorem exprT_in{g:GV}(h:GT Tryz.prog 29 g): ∃v:VExpr,g=v.g:=
 expr_inv (ti:=3) (ts:=9) (TV:=26) (LE:=27) Tryz.underlying3 Tryz.underlying9 (fun _ q=>valT_in q) ⟨_,Tryz.underlying29,rfl⟩ Tryz.underlying27 _ g (Nat.le_refl _) h
theorem varT_in{g:GV}(h:GT Tryz.prog 35 g): ∃v:VVar,g=v.g:=by
 have hV:StructT Tryz.prog 35 [9,33]:=⟨_,Tryz.underlying35,rfl⟩
 obtain⟨xs,rfl,hx⟩:=hV.inv h
 obtain⟨a,xs,rfl,ha,hx⟩:=hx.one
 obtain⟨b,xs,rfl,hb,hx⟩:=hx.one
 obtain rfl:=hx.nil
 obtain⟨name,rfl,_⟩:=GT.str_inv Tryz.underlying9 ha
 obtain⟨⟨k,es⟩,rfl⟩:=tyT_in hb
 exact⟨.mk name (.mk k es),rfl⟩
theorem varsT_in{g:GV}(h:GT Tryz.prog 30 g): ∃l:List VVar,g= .sl (VVar.gs l):=by
 obtain⟨es,rfl,_,hl⟩:=GT.sl_inv Tryz.underlying30 h
 obtain⟨l,rfl⟩:=list_inv VVar.g es hl fun x _ hg=>varT_in hg
 exact⟨l,rfl⟩
def arg0:Array Value:= #[.agg #[.int .i64 0, .int .i64 0, .bool false, .int .i64 0, .int .i64 0, .string ⟨#[]⟩, .slice none 0 0, .string ⟨#[]⟩, .slice none 0 0], .slice none 0 0, .agg #[.string ⟨#[]⟩, .int .i64 0, .slice none 0 0]]
theorem reads0(os:Os){H:Type}(enc:TypeId×Value→H): ∃ds places,DataW.whole enc Tryz.prog ((laidWorld os).forCall (fun _ _=>0) ⟨#[],arg0,[]⟩).memory Tryz.f3.params.toList Rows.typesHideSpec.vars false arg0.toList 8=some (ds,[],places):=
 ⟨[.agg [.lit (.int .i64 0), .agg [.lit (.int .i64 0), .lit (.bool false), .agg [.lit (.int .i64 0), .lit (.int .i64 0)], .lit (.string []), .nil], .lit (.string []), .nil], .nil, .agg [.lit (.string []), .agg [.lit (.int .i64 0), .nil]]],[],by kernel_rfl⟩
theorem laid_plain{W:World}(h:laidMetH Tryz.prog Rows.typesHideRow.laid W):laidMet Tryz.prog Rows.typesHideRow.laid W:=by
 have e:(Rows.typesHideRow.laid.filter fun x=>x.2.handleName?.isSome)=[]:=by kernel_rfl
 unfold laidMetH at h
 rw[e]at h
 exact h
theorem typesHide_lifted(os:Os)(started:os.Started)(H:Type)(enc:TypeId×Value→H):
  ReturnsInTold none {} Tryz.checked os 3 .any Input.okWide ((OpenSpec.ofChange Rows.typesHideSpec).preRow enc Tryz.prog Tryz.f3 Rows.typesHideRow.domain false Rows.typesHideRow.laid) (fun F=>((OpenSpec.ofChange Rows.typesHideSpec).at F).post enc Tryz.prog Tryz.f3 false true false false) (aloneAtReturn Tryz.prog) nothingAlways:=by
 obtain⟨ds,places,hx⟩:=reads0 os enc
 refine returnsInTold_of_row (C:=Tryz.checked) (s:=OpenSpec.ofChange Rows.typesHideSpec) (by kernel_rfl) own started (by kernel_rfl) Tryz.func3
  (OpenSpec.witness_stopped_atRef (enc:=enc) (C:=Tryz.checked) false (laidWorld os) arg0 rfl (by kernel_rfl) (by kernel_rfl) (by kernel_rfl)
   (OpenSpec.preRow_of_cond 8 hx (by kernel_rfl) (fun k hk=>by cases hk) (by kernel_rfl) (laid_all os _))) ?_
 intro F W base args ds gs before _ _ hval hW _ _ _ hL0 _
 have hL:laidMet Tryz.prog Rows.typesHideRow.laid W:=laid_plain hL0
 refine law_calls (s:=Rows.typesHideSpec) (set:=[3,4,2,9,31,33,24,23,26,27,29,30,35]) (B:=4) (by kernel_rfl) (by kernel_rfl) laidOut rfl rfl Tryz.underlying4 (fun ds hl=> ?_) W base args ds gs before hval hW (fun xs hl hl2 hD hT=> ?_) ?_
 ·match ds,hl with
  |[d0,d1,d2],_=>rfl
 ·match xs,hl with
  |[a0,a1,a2],_=>
   have hz:=(hT 0 29 _ rfl rfl).gsz
   obtain⟨a,rfl⟩:=exprT_in (hT 0 29 _ rfl rfl)
   obtain⟨b,rfl⟩:=varsT_in (hT 1 30 _ rfl rfl)
   obtain⟨v,rfl⟩:=varT_in (hT 2 35 _ rfl rfl)
   exact hide_all a hz b v
 ·exact gl_hide hL
end Go.Proofs.YtdoenpeadkoklaaGreatFmtBesafter