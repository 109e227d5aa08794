/- What the program's functions compute, each shown once; and plain laws of it. -/
import Derived.Test.YtdoenpeadkoklaaGreatFmtBesafterOwnP
import Derived.Test.YtdoenpeadkoklaaGreatFmtBesafterPureC
import Derived.Test.YtdoenpeadkoklaaGreatFmtBesafterOwnJ
import Derived.Test.YtdoenpeadkoklaaGreatFmtBesafterPureB
set_option maxRecDepth 100000
set_option maxHeartbeats 32000000
namespace Go.Proofs.YtdoenpeadkoklaaGreatFmtBesafter
open Go Go.Pure
attribute [local irreducible] PW POps POpsD PO PC Cond
theorem newReader_pc{s:ByteArray}:PC Tryz.prog 72 [.g (.str s)] ⟨[],[],[]⟩ (.ptr 0 0) ⟨[[.g (.str s), .g (.int .i64 0), .g (.int .i64 (-1))]],[],[]⟩:=by
 refine eN Tryz.func72 ?_
 (try refine uN ?_)
 refine rB ?_ ?_ ?_
 all_goals rfl
theorem readByte_pc{s:ByteArray}{i:Nat}{c:UInt8}{p:Int}(hi:s[i]? =some c)(hs:s.size≤100000):PC Tryz.prog 314 [.ptr 0 0] ⟨[[.g (.str s), .g (.int .i64 i), .g (.int .i64 p)]],[],[]⟩ (.tuple [.g (.int .u8 c.toNat), .g (.raw .nilIface)]) ⟨[[.g (.str s), .g (.int .i64 (i+1:Nat)), .g (.int .i64 (-1))]],[],[]⟩:=by
 have hlt:i<s.size:=by
  rcases Nat.lt_or_ge i s.size with h|h
  ·exact h
  ·exfalso
   have h2:s[i]? =none:=getElem?_neg s i (by omega)
   rw[h2]at hi
   cases hi
 have hg:s[((i:Nat):Int).toNat]? =some c:=by rw[Int.toNat_natCast];exact hi
 have hw:IntKind.i64.wrap ((i:Int)+1)=((i+1:Nat):Int):=by rw[w64 (by omega)];omega
 rw[←hw]
 refine eN Tryz.func314 ?_
 (repeat first|refine uG ?_|((first|apply oR rfl rfl|(apply dF rfl rfl rfl;intro _)|(apply dP rfl rfl rfl;intro _)|(apply dL rfl rfl rfl;intro _)|apply dC rfl rfl rfl rfl);(focus(first|exact mO));try exact kQ)|refine xK false false [0] rfl mixed (by decide+kernel) ?_|refine xK false true [0] rfl mixed (by decide+kernel) ?_|refine xK true false [0] rfl mixed (by decide+kernel) ?_|refine xK true true [0] rfl mixed (by decide+kernel) ?_)
 refine sQ (fun h=> ?_) fun h=> ?_
 ·exfalso
  have h2:=of_decide_eq_true h
  simp at h2
  omega
 clear h
 (repeat first|refine uG ?_|((first|apply oR rfl rfl|(apply dF rfl rfl rfl;intro _)|(apply dP rfl rfl rfl;intro _)|(apply dL rfl rfl rfl;intro _)|apply dC rfl rfl rfl rfl);(focus(first|exact PO_index rfl (ST rfl) rfl rfl (Int.natCast_nonneg _) hg|exact mO));try exact kQ)|refine xK false false [0] rfl mixed (by decide+kernel) ?_|refine xK false true [0] rfl mixed (by decide+kernel) ?_|refine xK true false [0] rfl mixed (by decide+kernel) ?_|refine xK true true [0] rfl mixed (by decide+kernel) ?_)
 refine rB ?_ ?_ ?_
 all_goals rfl
theorem unreadByte_pc{s:ByteArray}{i:Nat}{p:Int}(hs:i≤100000):PC Tryz.prog 315 [.ptr 0 0] ⟨[[.g (.str s), .g (.int .i64 (i+1:Nat)), .g (.int .i64 p)]],[],[]⟩ (.g (.raw .nilIface)) ⟨[[.g (.str s), .g (.int .i64 i), .g (.int .i64 (-1))]],[],[]⟩:=by
 have hw:IntKind.i64.wrap (((i+1:Nat):Int)-1)=((i:Nat):Int):=by rw[w64 (by omega)];omega
 rw[show GV.int .i64 (i:Int)= .int .i64 (IntKind.i64.wrap (((i+1:Nat):Int)-1)) by rw[hw]]
 refine eN Tryz.func315 ?_
 (try refine uN ?_)
 refine rB ?_ ?_ ?_
 all_goals rfl
theorem pow_10{n:Nat}(hn:n<19):PC Tryz.prog 134 [.g (.int .u64 10), .g (.int .i64 n)] ⟨[],[],[]⟩ (.g (.int .u64 (10^n:Nat))) ⟨[],[],[]⟩:=by
 match n,hn with
 |0,_=>
  refine eN Tryz.func134 ?_
  (try refine uN ?_)
  refine PW_loop_n 6 ?_
  (repeat first|refine uA ?_|(apply oR rfl rfl;focus(first|exact PO_shr rfl rfl rfl (by decide)|exact mO)))
  refine rT ?_
  first|rfl|(refine congrArg (GV.int .u64) (?_:_=_);decide+kernel)|(refine congrArg (fun k=>PV.g (GV.int .u64 k)) (?_:_=_);decide+kernel)
 |1,_=>
  refine eN Tryz.func134 ?_
  (try refine uN ?_)
  refine PW_loop_n 6 ?_
  (repeat first|refine uA ?_|(apply oR rfl rfl;focus(first|exact PO_shr rfl rfl rfl (by decide)|exact mO)))
  refine rT ?_
  first|rfl|(refine congrArg (GV.int .u64) (?_:_=_);decide+kernel)|(refine congrArg (fun k=>PV.g (GV.int .u64 k)) (?_:_=_);decide+kernel)
 |2,_=>
  refine eN Tryz.func134 ?_
  (try refine uN ?_)
  refine PW_loop_n 6 ?_
  (repeat first|refine uA ?_|(apply oR rfl rfl;focus(first|exact PO_shr rfl rfl rfl (by decide)|exact mO)))
  refine rT ?_
  first|rfl|(refine congrArg (GV.int .u64) (?_:_=_);decide+kernel)|(refine congrArg (fun k=>PV.g (GV.int .u64 k)) (?_:_=_);decide+kernel)
 |3,_=>
  refine eN Tryz.func134 ?_
  (try refine uN ?_)
  refine PW_loop_n 6 ?_
  (repeat first|refine uA ?_|(apply oR rfl rfl;focus(first|exact PO_shr rfl rfl rfl (by decide)|exact mO)))
  refine rT ?_
  first|rfl|(refine congrArg (GV.int .u64) (?_:_=_);decide+kernel)|(refine congrArg (fun k=>PV.g (GV.int .u64 k)) (?_:_=_);decide+kernel)
 |4,_=>
  refine eN Tryz.func134 ?_
  (try refine uN ?_)
  refine PW_loop_n 6 ?_
  (repeat first|refine uA ?_|(apply oR rfl rfl;focus(first|exact PO_shr rfl rfl rfl (by decide)|exact mO)))
  refine rT ?_
  first|rfl|(refine congrArg (GV.int .u64) (?_:_=_);decide+kernel)|(refine congrArg (fun k=>PV.g (GV.int .u64 k)) (?_:_=_);decide+kernel)
 |5,_=>
  refine eN Tryz.func134 ?_
  (try refine uN ?_)
  refine PW_loop_n 6 ?_
  (repeat first|refine uA ?_|(apply oR rfl rfl;focus(first|exact PO_shr rfl rfl rfl (by decide)|exact mO)))
  refine rT ?_
  first|rfl|(refine congrArg (GV.int .u64) (?_:_=_);decide+kernel)|(refine congrArg (fun k=>PV.g (GV.int .u64 k)) (?_:_=_);decide+kernel)
 |6,_=>
  refine eN Tryz.func134 ?_
  (try refine uN ?_)
  refine PW_loop_n 6 ?_
  (repeat first|refine uA ?_|(apply oR rfl rfl;focus(first|exact PO_shr rfl rfl rfl (by decide)|exact mO)))
  refine rT ?_
  first|rfl|(refine congrArg (GV.int .u64) (?_:_=_);decide+kernel)|(refine congrArg (fun k=>PV.g (GV.int .u64 k)) (?_:_=_);decide+kernel)
 |7,_=>
  refine eN Tryz.func134 ?_
  (try refine uN ?_)
  refine PW_loop_n 6 ?_
  (repeat first|refine uA ?_|(apply oR rfl rfl;focus(first|exact PO_shr rfl rfl rfl (by decide)|exact mO)))
  refine rT ?_
  first|rfl|(refine congrArg (GV.int .u64) (?_:_=_);decide+kernel)|(refine congrArg (fun k=>PV.g (GV.int .u64 k)) (?_:_=_);decide+kernel)
 |8,_=>
  refine eN Tryz.func134 ?_
  (try refine uN ?_)
  refine PW_loop_n 6 ?_
  (repeat first|refine uA ?_|(apply oR rfl rfl;focus(first|exact PO_shr rfl rfl rfl (by decide)|exact mO)))
  refine rT ?_
  first|rfl|(refine congrArg (GV.int .u64) (?_:_=_);decide+kernel)|(refine congrArg (fun k=>PV.g (GV.int .u64 k)) (?_:_=_);decide+kernel)
 |9,_=>
  refine eN Tryz.func134 ?_
  (try refine uN ?_)
  refine PW_loop_n 6 ?_
  (repeat first|refine uA ?_|(apply oR rfl rfl;focus(first|exact PO_shr rfl rfl rfl (by decide)|exact mO)))
  refine rT ?_
  first|rfl|(refine congrArg (GV.int .u64) (?_:_=_);decide+kernel)|(refine congrArg (fun k=>PV.g (GV.int .u64 k)) (?_:_=_);decide+kernel)
 |10,_=>
  refine eN Tryz.func134 ?_
  (try refine uN ?_)
  refine PW_loop_n 6 ?_
  (repeat first|refine uA ?_|(apply oR rfl rfl;focus(first|exact PO_shr rfl rfl rfl (by decide)|exact mO)))
  refine rT ?_
  first|rfl|(refine congrArg (GV.int .u64) (?_:_=_);decide+kernel)|(refine congrArg (fun k=>PV.g (GV.int .u64 k)) (?_:_=_);decide+kernel)
 |11,_=>
  refine eN Tryz.func134 ?_
  (try refine uN ?_)
  refine PW_loop_n 6 ?_
  (repeat first|refine uA ?_|(apply oR rfl rfl;focus(first|exact PO_shr rfl rfl rfl (by decide)|exact mO)))
  refine rT ?_
  first|rfl|(refine congrArg (GV.int .u64) (?_:_=_);decide+kernel)|(refine congrArg (fun k=>PV.g (GV.int .u64 k)) (?_:_=_);decide+kernel)
 |12,_=>
  refine eN Tryz.func134 ?_
  (try refine uN ?_)
  refine PW_loop_n 6 ?_
  (repeat first|refine uA ?_|(apply oR rfl rfl;focus(first|exact PO_shr rfl rfl rfl (by decide)|exact mO)))
  refine rT ?_
  first|rfl|(refine congrArg (GV.int .u64) (?_:_=_);decide+kernel)|(refine congrArg (fun k=>PV.g (GV.int .u64 k)) (?_:_=_);decide+kernel)
 |13,_=>
  refine eN Tryz.func134 ?_
  (try refine uN ?_)
  refine PW_loop_n 6 ?_
  (repeat first|refine uA ?_|(apply oR rfl rfl;focus(first|exact PO_shr rfl rfl rfl (by decide)|exact mO)))
  refine rT ?_
  first|rfl|(refine congrArg (GV.int .u64) (?_:_=_);decide+kernel)|(refine congrArg (fun k=>PV.g (GV.int .u64 k)) (?_:_=_);decide+kernel)
 |14,_=>
  refine eN Tryz.func134 ?_
  (try refine uN ?_)
  refine PW_loop_n 6 ?_
  (repeat first|refine uA ?_|(apply oR rfl rfl;focus(first|exact PO_shr rfl rfl rfl (by decide)|exact mO)))
  refine rT ?_
  first|rfl|(refine congrArg (GV.int .u64) (?_:_=_);decide+kernel)|(refine congrArg (fun k=>PV.g (GV.int .u64 k)) (?_:_=_);decide+kernel)
 |15,_=>
  refine eN Tryz.func134 ?_
  (try refine uN ?_)
  refine PW_loop_n 6 ?_
  (repeat first|refine uA ?_|(apply oR rfl rfl;focus(first|exact PO_shr rfl rfl rfl (by decide)|exact mO)))
  refine rT ?_
  first|rfl|(refine congrArg (GV.int .u64) (?_:_=_);decide+kernel)|(refine congrArg (fun k=>PV.g (GV.int .u64 k)) (?_:_=_);decide+kernel)
 |16,_=>
  refine eN Tryz.func134 ?_
  (try refine uN ?_)
  refine PW_loop_n 6 ?_
  (repeat first|refine uA ?_|(apply oR rfl rfl;focus(first|exact PO_shr rfl rfl rfl (by decide)|exact mO)))
  refine rT ?_
  first|rfl|(refine congrArg (GV.int .u64) (?_:_=_);decide+kernel)|(refine congrArg (fun k=>PV.g (GV.int .u64 k)) (?_:_=_);decide+kernel)
 |17,_=>
  refine eN Tryz.func134 ?_
  (try refine uN ?_)
  refine PW_loop_n 6 ?_
  (repeat first|refine uA ?_|(apply oR rfl rfl;focus(first|exact PO_shr rfl rfl rfl (by decide)|exact mO)))
  refine rT ?_
  first|rfl|(refine congrArg (GV.int .u64) (?_:_=_);decide+kernel)|(refine congrArg (fun k=>PV.g (GV.int .u64 k)) (?_:_=_);decide+kernel)
 |18,_=>
  refine eN Tryz.func134 ?_
  (try refine uN ?_)
  refine PW_loop_n 6 ?_
  (repeat first|refine uA ?_|(apply oR rfl rfl;focus(first|exact PO_shr rfl rfl rfl (by decide)|exact mO)))
  refine rT ?_
  first|rfl|(refine congrArg (GV.int .u64) (?_:_=_);decide+kernel)|(refine congrArg (fun k=>PV.g (GV.int .u64 k)) (?_:_=_);decide+kernel)
 |n+19,h=>exact absurd h (by omega)
theorem lsh_nilsg:PC Tryz.prog 102 [.ptr 0 0, .ptr 0 0, .g (.int .u64 1)] ⟨[[.g (.bool false), .nils]],[],[]⟩ (.ptr 0 0) ⟨[[.g (.bool false), .g (.sl (wsG (dig 0)))]],[],[]⟩:=by
 rw[dig_zero]
 exact PC.post lsh_nils (show HLe _ _ ⟨[[.g (.bool false), .g (.sl [])]],[],[]⟩from HLe.packbx)
theorem add_nils:PC Tryz.prog 106 [.ptr 0 0, .ptr 0 0, .ptr 1 0] ⟨[[.g (.bool false), .nils],[.g (.bool false), .g (.sl (wsG [1]))]],[],[]⟩ (.ptr 0 0) ⟨[[.g (.bool false), .g (.sl (wsG [1]))],[.g (.bool false), .g (.sl (wsG [1]))]],[],[]⟩:=by
 have ha:=nadd_nils
 refine eN Tryz.func106 ?_
 (repeat' first|refine uG ?_|((first|apply oR rfl rfl|(apply dF rfl rfl rfl;intro _)|(apply dP rfl rfl rfl;intro _)|(apply dL rfl rfl rfl;intro _)|apply dC rfl rfl rfl rfl);(focus(first|exact cb [true,true,false] rfl rfl (EN rfl) (ha) rfl rfl rfl rfl rfl rfl rfl rfl rfl rfl rfl|exact mO));try exact kQ)|refine xK false false [0,1] rfl mixed (by decide+kernel) ?_|refine xK false true [0,1] rfl mixed (by decide+kernel) ?_|refine xK true false [0,1] rfl mixed (by decide+kernel) ?_|refine xK true true [0,1] rfl mixed (by decide+kernel) ?_|(refine sQ (fun h=> ?_) (fun h=> ?_)<;>fail_if_success (first|(have:true=true:=h)|(have:false=false:=h)))|fail)
 all_goals(refine rB ?_ ?_ ?_)
 all_goals rfl
theorem add_row{g c X:Nat}{W:List Nat}(hz:ZOk W c X)(hroom:(dig X).length≤1∨(dig X).length+1≤c):PC Tryz.prog 106 [.ptr 0 0, .ptr 0 0, .ptr 1 0] ⟨[[.g (.bool false), .vw 0 g 0 (dig X).length c],[.g (.bool false), .g (.sl (wsG [1]))]],[],[AR g W]⟩ (.ptr 0 0) ⟨[[.g (.bool false), .g (.sl (wsG (dig (X+1))))],[.g (.bool false), .g (.sl (wsG [1]))]],[],[.gone (g+1)]⟩:=by
 have ha:=nadd_row (g:=g) hz hroom
 generalize dig (X+1)=ds at *
 generalize(dig X).length=n at *
 refine eN Tryz.func106 ?_
 (repeat' first|refine uG ?_|((first|apply oR rfl rfl|(apply dF rfl rfl rfl;intro _)|(apply dP rfl rfl rfl;intro _)|(apply dL rfl rfl rfl;intro _)|apply dC rfl rfl rfl rfl);(focus(first|exact cd [] rfl rfl (EN rfl) (ha) rfl rfl rfl rfl rfl rfl rfl rfl rfl rfl rfl|exact mO));try exact kQ)|refine xK false false [0,1] rfl mixed (by decide+kernel) ?_|refine xK false true [0,1] rfl mixed (by decide+kernel) ?_|refine xK true false [0,1] rfl mixed (by decide+kernel) ?_|refine xK true true [0,1] rfl mixed (by decide+kernel) ?_|(refine sQ (fun h=> ?_) (fun h=> ?_)<;>fail_if_success (first|(have:true=true:=h)|(have:false=false:=h)))|fail)
 all_goals(refine rB ?_ ?_ ?_)
 all_goals rfl
theorem bit_nils:PC Tryz.prog 105 [.ptr 0 0, .g (.int .i64 0)] ⟨[[.g (.bool false), .nils]],[],[]⟩ (.g (wG 0)) ⟨[[.g (.bool false), .nils]],[],[]⟩:=by
 refine eN Tryz.func105 ?_
 (try refine uD ?_)
 refine rB ?_ ?_ ?_
 all_goals rfl
theorem and_one(n:Nat):IntKind.u64.wrap (((BitVec.ofInt IntKind.u64.bits (n:Int) &&& BitVec.ofInt IntKind.u64.bits 1).toNat:Nat):Int)=((n%2:Nat):Int):=by
 have e:(BitVec.ofInt IntKind.u64.bits (n:Int) &&& BitVec.ofInt IntKind.u64.bits 1).toNat=n%2:=by
  rw[BitVec.toNat_and,BitVec.toNat_ofInt,BitVec.toNat_ofInt]
  show((n:Int)%(2^64:Nat)).toNat &&& 1=n%2
  rw[Nat.and_one_is_mod]
  omega
 rw[e]
 exact u64_wrap rfl (by unfold WB;omega)
theorem bit_row{g c X:Nat}{W:List Nat}(hz:ZOk W c X):PC Tryz.prog 105 [.ptr 0 0, .g (.int .i64 0)] ⟨[[.g (.bool false), .vw 0 g 0 (dig X).length c]],[],[AR g W]⟩ (.g (wG (X%2))) ⟨[[.g (.bool false), .vw 0 g 0 (dig X).length c]],[],[AR g W]⟩:=by
 have htk:=hz.tk
 have hle:=hz.le
 have hcw:=hz.cw
 by_cases h0:X=0
 ·subst h0
  rw[dig_zero]
  refine eN Tryz.func105 ?_
  (repeat first|refine uE ?_|((first|apply oR rfl rfl|(apply dF rfl rfl rfl;intro _)|(apply dP rfl rfl rfl;intro _)|(apply dL rfl rfl rfl;intro _)|apply dC rfl rfl rfl rfl);(focus(first|exact PO_vlen rfl (EL rfl) rfl|exact mO));try exact kQ))
  refine rB ?_ ?_ ?_
  all_goals rfl
 ·have h1:=dig_len_pos h0
  rw[wsG_length]at h1
  have hv:=val_dig X
  generalize dig X=xs at *
  obtain⟨n,hn⟩: ∃n,xs.length=n:=⟨_,rfl⟩
  rw[hn]at htk hle h1⊢
  obtain⟨x0,r,rfl⟩: ∃x0 r,xs=x0::r:=by
   cases xs with
   |nil=>simp at hn;omega
   |cons a b=>exact⟨a,b,rfl⟩
  have hx0:(wsG W)[0+0]? =some (wG x0):=wsG_get (by
   have h2:(W.take n)[0]? =some x0:=by rw[htk];rfl
   rwa[List.getElem?_take,if_pos (by omega)]at h2)
  have hpar:X%2=x0%2:=by
   rw[←hv,val_cons]
   unfold WB
   omega
  rw[hpar]
  have hand:=and_one x0
  generalize x0%2=b at *
  refine eN Tryz.func105 ?_
  (repeat first|refine uE ?_|((first|apply oR rfl rfl|(apply dF rfl rfl rfl;intro _)|(apply dP rfl rfl rfl;intro _)|(apply dL rfl rfl rfl;intro _)|apply dC rfl rfl rfl rfl);(focus(first|exact PO_vlen rfl (EL rfl) rfl|exact mO));try exact kQ))
  refine sQ (fun h=> ?_) fun h=> ?_
  ·clear h
   (repeat first|refine uE ?_|((first|apply oR rfl rfl|(apply dF rfl rfl rfl;intro _)|(apply dP rfl rfl rfl;intro _)|(apply dL rfl rfl rfl;intro _)|apply dC rfl rfl rfl rfl);(focus(first|exact PO_vindex 0 rfl (EL rfl) (SZ rfl) rfl rfl rfl (by omega)|exact PO_load_mref_one rfl (AG rfl) rfl rfl hx0 rfl|exact mO));try exact kQ))
   rw[show wG b=GV.int .u64 _ from congrArg (GV.int .u64) hand.symm]
   refine rB ?_ ?_ ?_
   all_goals rfl
  ·exfalso;have h2:=of_decide_eq_false h;omega
theorem sign_pos{X:Nat}(h0:X≠0):PC Tryz.prog 107 [.ptr 0 0] ⟨[[.g (.bool false), .g (.sl (wsG (dig X)))]],[],[]⟩ (.g (.int .i64 1)) ⟨[[.g (.bool false), .g (.sl (wsG (dig X)))]],[],[]⟩:=by
 have h1:=dig_len_pos h0
 generalize dig X=xs at *
 have hl0:(((wsG xs).length:Int)==0)=false:=beq_eq_false_iff_ne.2 (by omega)
 refine eN Tryz.func107 ?_
 (try refine uN ?_)
 refine sQ (fun h=> ?_) fun h=> ?_
 ·exfalso;rw[hl0]at h;cases h
 clear h
 (try refine uN ?_)
 refine rB ?_ ?_ ?_
 all_goals rfl
def heN(X Y:Nat):Nat:=if Y<2 *(X%Y)then X/Y+1 else if 2 *(X%Y)=Y then(if X/Y%2=1 then X/Y+1 else X/Y)else X/Y
theorem cmp_nat{X Y:Nat}(hX:(dig X).length≤100000)(hY:(dig Y).length≤100000):PC Tryz.prog 104 [.ptr 0 0, .ptr 1 0] ⟨[[.g (.bool false), .g (.sl (wsG (dig X)))],[.g (.bool false), .g (.sl (wsG (dig Y)))]],[],[]⟩ (.g (.int .i64 (cmpZ X Y))) ⟨[[.g (.bool false), .g (.sl (wsG (dig X)))],[.g (.bool false), .g (.sl (wsG (dig Y)))]],[],[]⟩:=by
 have h:=intCmp_pc (x:=(X:Int)) (y:=(Y:Int)) (by rw[Int.natAbs_natCast];exact hX) (by rw[Int.natAbs_natCast];exact hY)
 rwa[intP_nat,intP_nat]at h
theorem newInt_1:PC Tryz.prog 52 [.g (.int .i64 1)] ⟨[],[],[]⟩ (.ptr 0 0) ⟨[[.g (.bool false), .g (.sl (wsG [1]))]],[],[]⟩:=by
 have h:=newInt_pc (z:=1) (by decide) (by decide)
 rwa[show intP (1:Int)=[.g (.bool false), .g (.sl (wsG [1]))]from by rw[show(1:Int)=((1:Nat):Int)from rfl,intP_nat,dig_one (by decide) (by decide)]]at h
theorem len2{Y:Nat}(hY:Y<WB *WB):(dig Y).length≤2:=dig_length_le (k:=2) (by rw[Nat.pow_succ,Nat.pow_one];exact hY)
theorem len2x{R Y:Nat}(hY:Y<WB *WB)(hR:R<Y):(dig (2 *R)).length≤3:=dig_length_le (by
 have h:WB *WB *2≤WB^3:=by decide
 omega)
theorem halfEven_zero{X Y:Nat}(h0:0<Y)(hY:Y<WB *WB)(hq:X/Y=0)(hr:X%Y=0)(hqr:PC Tryz.prog 101 [.ptr 0 0, .ptr 1 0, .ptr 2 0, .ptr 3 0] ⟨[[.g (.bool false), .nils],[.g (.bool false), .g (.sl (wsG (dig X)))],[.g (.bool false), .g (.sl (wsG (dig Y)))],[.g (.bool false), .nils]],[],[]⟩ (.tuple [.ptr 0 0, .ptr 3 0]) ⟨[[.g (.bool false), .nils],[.g (.bool false), .g (.sl (wsG (dig X)))],[.g (.bool false), .g (.sl (wsG (dig Y)))],[.g (.bool false), .nils]],[],[]⟩):
  PC Tryz.prog 76 [.ptr 0 0, .ptr 1 0] ⟨[[.g (.bool false), .g (.sl (wsG (dig X)))],[.g (.bool false), .g (.sl (wsG (dig Y)))]],[],[]⟩ (.ptr 2 0) ⟨[[.g (.bool false), .g (.sl (wsG (dig X)))],[.g (.bool false), .g (.sl (wsG (dig Y)))],[.g (.bool false), .g (.sl (wsG (dig (heN X Y))))]],[],[]⟩:=by
 have hRY:=Nat.mod_lt X h0
 have habsn:=abs_new (Y:=Y) (by omega) (Nat.le_trans (len2 hY) (by decide))
 have hcmp:=cmp_nat (X:=2 *(X%Y)) (Y:=Y) (Nat.le_trans (len2x hY hRY) (by decide)) (Nat.le_trans (len2 hY) (by decide))
 have hone:=newInt_1
 have hsd:=sign_pos (X:=Y) (by omega)
 have habs:=abs_nils
 have hlsh:=lsh_nilsg
 have hbit:=bit_nils
 have hadd:=add_nils
 rw[hr]at hcmp
 rw[show cmpZ ((2 *0:Nat):Int) (Y:Int)= -1 from by unfold cmpZ;rw[if_pos (by omega)],Nat.mul_zero]at hcmp
 have he:heN X Y=0:=by unfold heN;rw[hq,hr,if_neg (by omega),if_neg (by omega)]
 have hsn:=hsd
 rw[he,dig_zero]
 refine PC.post (H1:=⟨[[.g (.bool false), .g (.sl (wsG (dig X)))],[.g (.bool false), .g (.sl (wsG (dig Y)))],[.g (.bool false), .nils]],[],[]⟩) ?_ (show HLe _ _ ⟨[[.g (.bool false), .g (.sl (wsG (dig X)))],[.g (.bool false), .g (.sl (wsG (dig Y)))],[.g (.bool false), .g (.sl [])]],[],[]⟩from HLe.packbx)
 generalize dig 0=zs at *
 generalize dig X=xs at *
 generalize dig Y=ys at *
 refine eN Tryz.func76 ?_
 (repeat first|refine uA ?_|(apply oR rfl rfl;focus(first|exact cd [] rfl rfl (EN rfl) (hqr) rfl rfl rfl rfl rfl rfl rfl rfl rfl rfl rfl|exact cd [] rfl rfl (EN rfl) (habs) rfl rfl rfl rfl rfl rfl rfl rfl rfl rfl rfl|exact cd [] rfl rfl (EN rfl) (hlsh) rfl rfl rfl rfl rfl rfl rfl rfl rfl rfl rfl|exact cd [] rfl rfl (EN rfl) (habsn) rfl rfl rfl rfl rfl rfl rfl rfl rfl rfl rfl|exact cd [] rfl rfl (EN rfl) (hcmp) rfl rfl rfl rfl rfl rfl rfl rfl rfl rfl rfl|exact cd [] rfl rfl (EN rfl) (hbit) rfl rfl rfl rfl rfl rfl rfl rfl rfl rfl rfl|exact cd [] rfl rfl (EN rfl) (hsn) rfl rfl rfl rfl rfl rfl rfl rfl rfl rfl rfl|exact cd [] rfl rfl (EN rfl) (hsd) rfl rfl rfl rfl rfl rfl rfl rfl rfl rfl rfl|exact cb [] rfl rfl (EN rfl) (hone) rfl rfl rfl rfl rfl rfl rfl rfl rfl rfl rfl|exact cd [] rfl rfl (EN rfl) (hadd) rfl rfl rfl rfl rfl rfl rfl rfl rfl rfl rfl|exact mO)))
 refine rB ?_ ?_ ?_
 all_goals rfl
theorem halfEven_low{X Y:Nat}(h0:0<Y)(hY:Y<WB *WB){g c:Nat}{W:List Nat}(hq:X/Y=0)(hr:X%Y≠0)(hz:ZOk W c (X%Y))(hqr:PC Tryz.prog 101 [.ptr 0 0, .ptr 1 0, .ptr 2 0, .ptr 3 0] ⟨[[.g (.bool false), .nils],[.g (.bool false), .g (.sl (wsG (dig X)))],[.g (.bool false), .g (.sl (wsG (dig Y)))],[.g (.bool false), .nils]],[],[]⟩ (.tuple [.ptr 0 0, .ptr 3 0]) ⟨[[.g (.bool false), .nils],[.g (.bool false), .g (.sl (wsG (dig X)))],[.g (.bool false), .g (.sl (wsG (dig Y)))],[.g (.bool false), .vw 0 g 0 (dig (X%Y)).length c]],[],[AR g W]⟩):
  PC Tryz.prog 76 [.ptr 0 0, .ptr 1 0] ⟨[[.g (.bool false), .g (.sl (wsG (dig X)))],[.g (.bool false), .g (.sl (wsG (dig Y)))]],[],[]⟩ (.ptr 2 0) ⟨[[.g (.bool false), .g (.sl (wsG (dig X)))],[.g (.bool false), .g (.sl (wsG (dig Y)))],[.g (.bool false), .g (.sl (wsG (dig (heN X Y))))]],[],[]⟩:=by
 have hRY:=Nat.mod_lt X h0
 have habsn:=abs_new (Y:=Y) (by omega) (Nat.le_trans (len2 hY) (by decide))
 have hcmp:=cmp_nat (X:=2 *(X%Y)) (Y:=Y) (Nat.le_trans (len2x hY hRY) (by decide)) (Nat.le_trans (len2 hY) (by decide))
 have hone:=newInt_1
 have hsd:=sign_pos (X:=Y) (by omega)
 have habs:= @abs_row g (dig (X%Y)).length c W
 have hlsh:=lsh_row (g:=g) hz
 have hbit:=bit_nils
 have hadd:=add_nils
 have hsn:=sign_pos (X:=X) (fun h=>hr (by rw[h];exact Nat.zero_mod _))
 have hd1:dig 1=[1]:=dig_one (by decide) (by decide)
 rcases Nat.lt_trichotomy (2 *(X%Y)) Y with hc|hc|hc
 ·rw[show cmpZ ((2 *(X%Y):Nat):Int) (Y:Int)= -1 from by unfold cmpZ;rw[if_pos (by omega)]]at hcmp
  have he:heN X Y=0:=by unfold heN;rw[hq,if_neg (by omega),if_neg (by omega)]
  rw[he,dig_zero]
  refine PC.post (H1:=⟨[[.g (.bool false), .g (.sl (wsG (dig X)))],[.g (.bool false), .g (.sl (wsG (dig Y)))],[.g (.bool false), .nils]],[],[]⟩) ?_ (show HLe _ _ ⟨[[.g (.bool false), .g (.sl (wsG (dig X)))],[.g (.bool false), .g (.sl (wsG (dig Y)))],[.g (.bool false), .g (.sl [])]],[],[]⟩from HLe.packbx)
  clear hz hd1
  generalize dig (2 *(X%Y))=ts at *
  generalize dig X=xs at *
  generalize dig Y=ys at *
  generalize(dig (X%Y)).length=n at *
  refine eN Tryz.func76 ?_
  (repeat first|refine uA ?_|(apply oR rfl rfl;focus(first|exact cd [] rfl rfl (EN rfl) (hqr) rfl rfl rfl rfl rfl rfl rfl rfl rfl rfl rfl|exact cd [] rfl rfl (EN rfl) (habs) rfl rfl rfl rfl rfl rfl rfl rfl rfl rfl rfl|exact cd [] rfl rfl (EN rfl) (hlsh) rfl rfl rfl rfl rfl rfl rfl rfl rfl rfl rfl|exact cd [] rfl rfl (EN rfl) (habsn) rfl rfl rfl rfl rfl rfl rfl rfl rfl rfl rfl|exact cd [] rfl rfl (EN rfl) (hcmp) rfl rfl rfl rfl rfl rfl rfl rfl rfl rfl rfl|exact cd [] rfl rfl (EN rfl) (hbit) rfl rfl rfl rfl rfl rfl rfl rfl rfl rfl rfl|exact cd [] rfl rfl (EN rfl) (hsn) rfl rfl rfl rfl rfl rfl rfl rfl rfl rfl rfl|exact cd [] rfl rfl (EN rfl) (hsd) rfl rfl rfl rfl rfl rfl rfl rfl rfl rfl rfl|exact cb [] rfl rfl (EN rfl) (hone) rfl rfl rfl rfl rfl rfl rfl rfl rfl rfl rfl|exact cd [] rfl rfl (EN rfl) (hadd) rfl rfl rfl rfl rfl rfl rfl rfl rfl rfl rfl|exact mO)))
  refine rB ?_ ?_ ?_
  all_goals rfl
 ·rw[show cmpZ ((2 *(X%Y):Nat):Int) (Y:Int)=0 from by unfold cmpZ;rw[if_neg (by omega),if_neg (by omega)]]at hcmp
  have he:heN X Y=0:=by unfold heN;rw[hq,if_neg (by omega),if_pos hc];rfl
  rw[he,dig_zero]
  refine PC.post (H1:=⟨[[.g (.bool false), .g (.sl (wsG (dig X)))],[.g (.bool false), .g (.sl (wsG (dig Y)))],[.g (.bool false), .nils]],[],[]⟩) ?_ (show HLe _ _ ⟨[[.g (.bool false), .g (.sl (wsG (dig X)))],[.g (.bool false), .g (.sl (wsG (dig Y)))],[.g (.bool false), .g (.sl [])]],[],[]⟩from HLe.packbx)
  clear hz hd1
  generalize dig (2 *(X%Y))=ts at *
  generalize dig X=xs at *
  generalize dig Y=ys at *
  generalize(dig (X%Y)).length=n at *
  refine eN Tryz.func76 ?_
  (repeat first|refine uA ?_|(apply oR rfl rfl;focus(first|exact cd [] rfl rfl (EN rfl) (hqr) rfl rfl rfl rfl rfl rfl rfl rfl rfl rfl rfl|exact cd [] rfl rfl (EN rfl) (habs) rfl rfl rfl rfl rfl rfl rfl rfl rfl rfl rfl|exact cd [] rfl rfl (EN rfl) (hlsh) rfl rfl rfl rfl rfl rfl rfl rfl rfl rfl rfl|exact cd [] rfl rfl (EN rfl) (habsn) rfl rfl rfl rfl rfl rfl rfl rfl rfl rfl rfl|exact cd [] rfl rfl (EN rfl) (hcmp) rfl rfl rfl rfl rfl rfl rfl rfl rfl rfl rfl|exact cd [] rfl rfl (EN rfl) (hbit) rfl rfl rfl rfl rfl rfl rfl rfl rfl rfl rfl|exact cd [] rfl rfl (EN rfl) (hsn) rfl rfl rfl rfl rfl rfl rfl rfl rfl rfl rfl|exact cd [] rfl rfl (EN rfl) (hsd) rfl rfl rfl rfl rfl rfl rfl rfl rfl rfl rfl|exact cb [] rfl rfl (EN rfl) (hone) rfl rfl rfl rfl rfl rfl rfl rfl rfl rfl rfl|exact cd [] rfl rfl (EN rfl) (hadd) rfl rfl rfl rfl rfl rfl rfl rfl rfl rfl rfl|exact mO)))
  refine rB ?_ ?_ ?_
  all_goals rfl
 ·rw[show cmpZ ((2 *(X%Y):Nat):Int) (Y:Int)=1 from by unfold cmpZ;rw[if_neg (by omega),if_pos (by omega)]]at hcmp
  have he:heN X Y=1:=by unfold heN;rw[hq,if_pos hc]
  rw[he,hd1]
  clear hz hd1
  generalize dig (2 *(X%Y))=ts at *
  generalize dig X=xs at *
  generalize dig Y=ys at *
  generalize(dig (X%Y)).length=n at *
  refine eN Tryz.func76 ?_
  (repeat first|refine uA ?_|(apply oR rfl rfl;focus(first|exact cd [] rfl rfl (EN rfl) (hqr) rfl rfl rfl rfl rfl rfl rfl rfl rfl rfl rfl|exact cd [] rfl rfl (EN rfl) (habs) rfl rfl rfl rfl rfl rfl rfl rfl rfl rfl rfl|exact cd [] rfl rfl (EN rfl) (hlsh) rfl rfl rfl rfl rfl rfl rfl rfl rfl rfl rfl|exact cd [] rfl rfl (EN rfl) (habsn) rfl rfl rfl rfl rfl rfl rfl rfl rfl rfl rfl|exact cd [] rfl rfl (EN rfl) (hcmp) rfl rfl rfl rfl rfl rfl rfl rfl rfl rfl rfl|exact cd [] rfl rfl (EN rfl) (hbit) rfl rfl rfl rfl rfl rfl rfl rfl rfl rfl rfl|exact cd [] rfl rfl (EN rfl) (hsn) rfl rfl rfl rfl rfl rfl rfl rfl rfl rfl rfl|exact cd [] rfl rfl (EN rfl) (hsd) rfl rfl rfl rfl rfl rfl rfl rfl rfl rfl rfl|exact cb [] rfl rfl (EN rfl) (hone) rfl rfl rfl rfl rfl rfl rfl rfl rfl rfl rfl|exact cd [] rfl rfl (EN rfl) (hadd) rfl rfl rfl rfl rfl rfl rfl rfl rfl rfl rfl|exact mO)))
  refine rB ?_ ?_ ?_
  all_goals rfl
theorem halfEven_exact{X Y:Nat}(h0:0<Y)(hY:Y<WB *WB){g c:Nat}{W:List Nat}(hr:X%Y=0)(hz:ZOk W c (X/Y))(hqr:PC Tryz.prog 101 [.ptr 0 0, .ptr 1 0, .ptr 2 0, .ptr 3 0] ⟨[[.g (.bool false), .nils],[.g (.bool false), .g (.sl (wsG (dig X)))],[.g (.bool false), .g (.sl (wsG (dig Y)))],[.g (.bool false), .nils]],[],[]⟩ (.tuple [.ptr 0 0, .ptr 3 0]) ⟨[[.g (.bool false), .vw 0 g 0 (dig (X/Y)).length c],[.g (.bool false), .g (.sl (wsG (dig X)))],[.g (.bool false), .g (.sl (wsG (dig Y)))],[.g (.bool false), .nils]],[],[AR g W]⟩):
  PC Tryz.prog 76 [.ptr 0 0, .ptr 1 0] ⟨[[.g (.bool false), .g (.sl (wsG (dig X)))],[.g (.bool false), .g (.sl (wsG (dig Y)))]],[],[]⟩ (.ptr 2 0) ⟨[[.g (.bool false), .g (.sl (wsG (dig X)))],[.g (.bool false), .g (.sl (wsG (dig Y)))],[.g (.bool false), .g (.sl (wsG (dig (heN X Y))))]],[],[]⟩:=by
 have hRY:=Nat.mod_lt X h0
 have habsn:=abs_new (Y:=Y) (by omega) (Nat.le_trans (len2 hY) (by decide))
 have hcmp:=cmp_nat (X:=2 *(X%Y)) (Y:=Y) (Nat.le_trans (len2x hY hRY) (by decide)) (Nat.le_trans (len2 hY) (by decide))
 have hone:=newInt_1
 have hsd:=sign_pos (X:=Y) (by omega)
 have habs:=abs_nils
 have hlsh:=lsh_nilsg
 have hbit:=bit_nils
 have hadd:=add_nils
 rw[hr]at hcmp
 rw[show cmpZ ((2 *0:Nat):Int) (Y:Int)= -1 from by unfold cmpZ;rw[if_pos (by omega)],Nat.mul_zero]at hcmp
 have he:heN X Y=X/Y:=by unfold heN;rw[hr,if_neg (by omega),if_neg (by omega)]
 have hsn:=hsd
 rw[he]
 have hfz:=fz_take hz.tk
 clear hz
 generalize dig 0=zs at *
 generalize dig X=xs at *
 generalize dig Y=ys at *
 generalize dig (X/Y)=ds at *
 refine eN Tryz.func76 ?_
 (repeat first|refine uC ?_|(apply oR rfl rfl;focus(first|exact cd [] rfl rfl (EN rfl) (hqr) rfl rfl rfl rfl rfl rfl rfl rfl rfl rfl rfl|exact cd [] rfl rfl (EN rfl) (habs) rfl rfl rfl rfl rfl rfl rfl rfl rfl rfl rfl|exact cd [] rfl rfl (EN rfl) (hlsh) rfl rfl rfl rfl rfl rfl rfl rfl rfl rfl rfl|exact cd [] rfl rfl (EN rfl) (habsn) rfl rfl rfl rfl rfl rfl rfl rfl rfl rfl rfl|exact cd [] rfl rfl (EN rfl) (hcmp) rfl rfl rfl rfl rfl rfl rfl rfl rfl rfl rfl|exact cd [] rfl rfl (EN rfl) (hbit) rfl rfl rfl rfl rfl rfl rfl rfl rfl rfl rfl|exact cd [] rfl rfl (EN rfl) (hsn) rfl rfl rfl rfl rfl rfl rfl rfl rfl rfl rfl|exact cd [] rfl rfl (EN rfl) (hsd) rfl rfl rfl rfl rfl rfl rfl rfl rfl rfl rfl|exact cb [] rfl rfl (EN rfl) (hone) rfl rfl rfl rfl rfl rfl rfl rfl rfl rfl rfl|exact cd [] rfl rfl (EN rfl) (hadd) rfl rfl rfl rfl rfl rfl rfl rfl rfl rfl rfl|exact mO))|refine xU [5] rfl ?_)
 refine PW_freeze 0 rfl (PW_weak (env':=slots [(5, .ptr 2 0)]) (H':=⟨[[.g (.bool false), .g (.sl (wsG xs))],[.g (.bool false), .g (.sl (wsG ys))],[.g (.bool false), .g (.sl (wsG ds))],[.g (.bool false), .g (.sl (wsG zs))],[.g (.bool false), .g (.sl (wsG ys))]],[],[.gone (g+1)]⟩) (SlotsOk.le ⟨.inl rfl,trivial⟩) (HLe.of_eq ?_) ?_)
 ·simp only[frzB,frzL,frz_vw,hfz]
  rfl
 (try refine uN ?_)
 refine rB ?_ ?_ ?_
 all_goals rfl
theorem halfEven_both{X Y:Nat}(h0:0<Y)(hY:Y<WB *WB){g1 g2 c1 c2:Nat}{W1 W2:List Nat}(hX:X≠0)(hz:ZOk W1 c1 (X/Y))(hz2:ZOk W2 c2 (X%Y))(hroom:(dig (X/Y)).length≤1∨(dig (X/Y)).length+1≤c1)(hqr:PC Tryz.prog 101 [.ptr 0 0, .ptr 1 0, .ptr 2 0, .ptr 3 0] ⟨[[.g (.bool false), .nils],[.g (.bool false), .g (.sl (wsG (dig X)))],[.g (.bool false), .g (.sl (wsG (dig Y)))],[.g (.bool false), .nils]],[],[]⟩ (.tuple [.ptr 0 0, .ptr 3 0]) ⟨[[.g (.bool false), .vw 0 g1 0 (dig (X/Y)).length c1],[.g (.bool false), .g (.sl (wsG (dig X)))],[.g (.bool false), .g (.sl (wsG (dig Y)))],[.g (.bool false), .vw 1 g2 0 (dig (X%Y)).length c2]],[],[AR g1 W1,AR g2 W2]⟩):
  PC Tryz.prog 76 [.ptr 0 0, .ptr 1 0] ⟨[[.g (.bool false), .g (.sl (wsG (dig X)))],[.g (.bool false), .g (.sl (wsG (dig Y)))]],[],[]⟩ (.ptr 2 0) ⟨[[.g (.bool false), .g (.sl (wsG (dig X)))],[.g (.bool false), .g (.sl (wsG (dig Y)))],[.g (.bool false), .g (.sl (wsG (dig (heN X Y))))]],[],[]⟩:=by
 have hRY:=Nat.mod_lt X h0
 have habsn:=abs_new (Y:=Y) (by omega) (Nat.le_trans (len2 hY) (by decide))
 have hcmp:=cmp_nat (X:=2 *(X%Y)) (Y:=Y) (Nat.le_trans (len2x hY hRY) (by decide)) (Nat.le_trans (len2 hY) (by decide))
 have hone:=newInt_1
 have hsd:=sign_pos (X:=Y) (by omega)
 have habs:= @abs_row g2 (dig (X%Y)).length c2 W2
 have hlsh:=lsh_row (g:=g2) hz2
 have hbit:=bit_row (g:=g1) hz
 have hadd:=add_row (g:=g1) hz hroom
 have hsn:=sign_pos (X:=X) hX
 rcases Nat.lt_trichotomy (2 *(X%Y)) Y with hc|hc|hc
 ·rw[show cmpZ ((2 *(X%Y):Nat):Int) (Y:Int)= -1 from by unfold cmpZ;rw[if_pos (by omega)]]at hcmp
  have he:heN X Y=X/Y:=by unfold heN;rw[if_neg (by omega),if_neg (by omega)]
  rw[he]
  have hfz:=fz_take hz.tk
  clear hz hz2 hroom
  generalize dig (2 *(X%Y))=ts at *
  generalize dig X=xs at *
  generalize dig Y=ys at *
  generalize dig (X/Y)=ds at *
  generalize(dig (X%Y)).length=n at *
  refine eN Tryz.func76 ?_
  (repeat first|refine uC ?_|(apply oR rfl rfl;focus(first|exact cd [] rfl rfl (EN rfl) (hqr) rfl rfl rfl rfl rfl rfl rfl rfl rfl rfl rfl|exact cd [] rfl rfl (EN rfl) (habs) rfl rfl rfl rfl rfl rfl rfl rfl rfl rfl rfl|exact cd [] rfl rfl (EN rfl) (hlsh) rfl rfl rfl rfl rfl rfl rfl rfl rfl rfl rfl|exact cd [] rfl rfl (EN rfl) (habsn) rfl rfl rfl rfl rfl rfl rfl rfl rfl rfl rfl|exact cd [] rfl rfl (EN rfl) (hcmp) rfl rfl rfl rfl rfl rfl rfl rfl rfl rfl rfl|exact cd [] rfl rfl (EN rfl) (hbit) rfl rfl rfl rfl rfl rfl rfl rfl rfl rfl rfl|exact cd [] rfl rfl (EN rfl) (hsn) rfl rfl rfl rfl rfl rfl rfl rfl rfl rfl rfl|exact cd [] rfl rfl (EN rfl) (hsd) rfl rfl rfl rfl rfl rfl rfl rfl rfl rfl rfl|exact cb [] rfl rfl (EN rfl) (hone) rfl rfl rfl rfl rfl rfl rfl rfl rfl rfl rfl|exact cd [] rfl rfl (EN rfl) (hadd) rfl rfl rfl rfl rfl rfl rfl rfl rfl rfl rfl|exact mO))|refine xU [5] rfl ?_)
  refine PW_freeze 0 rfl (PW_weak (env':=slots [(5, .ptr 2 0)]) (H':=⟨[[.g (.bool false), .g (.sl (wsG xs))],[.g (.bool false), .g (.sl (wsG ys))],[.g (.bool false), .g (.sl (wsG ds))],[.g (.bool false), .g (.sl (wsG ts))],[.g (.bool false), .g (.sl (wsG ys))]],[],[.gone (g1+1), .gone (g2+1)]⟩) (SlotsOk.le ⟨.inl rfl,trivial⟩) (HLe.of_eq ?_) ?_)
  ·simp only[frzB,frzL,frz_vw,hfz]
   rfl
  (try refine uN ?_)
  refine rB ?_ ?_ ?_
  all_goals rfl
 ·rw[show cmpZ ((2 *(X%Y):Nat):Int) (Y:Int)=0 from by unfold cmpZ;rw[if_neg (by omega),if_neg (by omega)]]at hcmp
  rcases Nat.mod_two_eq_zero_or_one (X/Y)with e|e
  ·have he:heN X Y=X/Y:=by unfold heN;rw[if_neg (by omega),if_pos hc,if_neg (by omega)]
   rw[e]at hbit
   rw[he]
   have hfz:=fz_take hz.tk
   clear hz hz2 hroom
   generalize dig (2 *(X%Y))=ts at *
   generalize dig X=xs at *
   generalize dig Y=ys at *
   generalize dig (X/Y)=ds at *
   generalize(dig (X%Y)).length=n at *
   refine eN Tryz.func76 ?_
   (repeat first|refine uC ?_|(apply oR rfl rfl;focus(first|exact cd [] rfl rfl (EN rfl) (hqr) rfl rfl rfl rfl rfl rfl rfl rfl rfl rfl rfl|exact cd [] rfl rfl (EN rfl) (habs) rfl rfl rfl rfl rfl rfl rfl rfl rfl rfl rfl|exact cd [] rfl rfl (EN rfl) (hlsh) rfl rfl rfl rfl rfl rfl rfl rfl rfl rfl rfl|exact cd [] rfl rfl (EN rfl) (habsn) rfl rfl rfl rfl rfl rfl rfl rfl rfl rfl rfl|exact cd [] rfl rfl (EN rfl) (hcmp) rfl rfl rfl rfl rfl rfl rfl rfl rfl rfl rfl|exact cd [] rfl rfl (EN rfl) (hbit) rfl rfl rfl rfl rfl rfl rfl rfl rfl rfl rfl|exact cd [] rfl rfl (EN rfl) (hsn) rfl rfl rfl rfl rfl rfl rfl rfl rfl rfl rfl|exact cd [] rfl rfl (EN rfl) (hsd) rfl rfl rfl rfl rfl rfl rfl rfl rfl rfl rfl|exact cb [] rfl rfl (EN rfl) (hone) rfl rfl rfl rfl rfl rfl rfl rfl rfl rfl rfl|exact cd [] rfl rfl (EN rfl) (hadd) rfl rfl rfl rfl rfl rfl rfl rfl rfl rfl rfl|exact mO))|refine xU [5] rfl ?_)
   refine PW_freeze 0 rfl (PW_weak (env':=slots [(5, .ptr 2 0)]) (H':=⟨[[.g (.bool false), .g (.sl (wsG xs))],[.g (.bool false), .g (.sl (wsG ys))],[.g (.bool false), .g (.sl (wsG ds))],[.g (.bool false), .g (.sl (wsG ts))],[.g (.bool false), .g (.sl (wsG ys))]],[],[.gone (g1+1), .gone (g2+1)]⟩) (SlotsOk.le ⟨.inl rfl,trivial⟩) (HLe.of_eq ?_) ?_)
   ·simp only[frzB,frzL,frz_vw,hfz]
    rfl
   (try refine uN ?_)
   refine rB ?_ ?_ ?_
   all_goals rfl
  ·have he:heN X Y=X/Y+1:=by unfold heN;rw[if_neg (by omega),if_pos hc,if_pos e]
   rw[e]at hbit
   rw[he]
   clear hz hz2 hroom
   generalize dig (2 *(X%Y))=ts at *
   generalize dig X=xs at *
   generalize dig Y=ys at *
   generalize dig (X/Y+1)=es at *
   generalize(dig (X/Y)).length=m at *
   generalize(dig (X%Y)).length=n at *
   refine eN Tryz.func76 ?_
   (repeat first|refine uA ?_|(apply oR rfl rfl;focus(first|exact cd [] rfl rfl (EN rfl) (hqr) rfl rfl rfl rfl rfl rfl rfl rfl rfl rfl rfl|exact cd [] rfl rfl (EN rfl) (habs) rfl rfl rfl rfl rfl rfl rfl rfl rfl rfl rfl|exact cd [] rfl rfl (EN rfl) (hlsh) rfl rfl rfl rfl rfl rfl rfl rfl rfl rfl rfl|exact cd [] rfl rfl (EN rfl) (habsn) rfl rfl rfl rfl rfl rfl rfl rfl rfl rfl rfl|exact cd [] rfl rfl (EN rfl) (hcmp) rfl rfl rfl rfl rfl rfl rfl rfl rfl rfl rfl|exact cd [] rfl rfl (EN rfl) (hbit) rfl rfl rfl rfl rfl rfl rfl rfl rfl rfl rfl|exact cd [] rfl rfl (EN rfl) (hsn) rfl rfl rfl rfl rfl rfl rfl rfl rfl rfl rfl|exact cd [] rfl rfl (EN rfl) (hsd) rfl rfl rfl rfl rfl rfl rfl rfl rfl rfl rfl|exact cb [] rfl rfl (EN rfl) (hone) rfl rfl rfl rfl rfl rfl rfl rfl rfl rfl rfl|exact cd [] rfl rfl (EN rfl) (hadd) rfl rfl rfl rfl rfl rfl rfl rfl rfl rfl rfl|exact mO)))
   refine rB ?_ ?_ ?_
   all_goals rfl
 ·rw[show cmpZ ((2 *(X%Y):Nat):Int) (Y:Int)=1 from by unfold cmpZ;rw[if_neg (by omega),if_pos (by omega)]]at hcmp
  have he:heN X Y=X/Y+1:=by unfold heN;rw[if_pos hc]
  rw[he]
  clear hz hz2 hroom
  generalize dig (2 *(X%Y))=ts at *
  generalize dig X=xs at *
  generalize dig Y=ys at *
  generalize dig (X/Y+1)=es at *
  generalize(dig (X/Y)).length=m at *
  generalize(dig (X%Y)).length=n at *
  refine eN Tryz.func76 ?_
  (repeat first|refine uA ?_|(apply oR rfl rfl;focus(first|exact cd [] rfl rfl (EN rfl) (hqr) rfl rfl rfl rfl rfl rfl rfl rfl rfl rfl rfl|exact cd [] rfl rfl (EN rfl) (habs) rfl rfl rfl rfl rfl rfl rfl rfl rfl rfl rfl|exact cd [] rfl rfl (EN rfl) (hlsh) rfl rfl rfl rfl rfl rfl rfl rfl rfl rfl rfl|exact cd [] rfl rfl (EN rfl) (habsn) rfl rfl rfl rfl rfl rfl rfl rfl rfl rfl rfl|exact cd [] rfl rfl (EN rfl) (hcmp) rfl rfl rfl rfl rfl rfl rfl rfl rfl rfl rfl|exact cd [] rfl rfl (EN rfl) (hbit) rfl rfl rfl rfl rfl rfl rfl rfl rfl rfl rfl|exact cd [] rfl rfl (EN rfl) (hsn) rfl rfl rfl rfl rfl rfl rfl rfl rfl rfl rfl|exact cd [] rfl rfl (EN rfl) (hsd) rfl rfl rfl rfl rfl rfl rfl rfl rfl rfl rfl|exact cb [] rfl rfl (EN rfl) (hone) rfl rfl rfl rfl rfl rfl rfl rfl rfl rfl rfl|exact cd [] rfl rfl (EN rfl) (hadd) rfl rfl rfl rfl rfl rfl rfl rfl rfl rfl rfl|exact mO)))
  refine rB ?_ ?_ ?_
  all_goals rfl
theorem halfEven_pc{X Y:Nat}(h0:0<Y)(hY:Y<WB *WB)(hm:(dig X).length≤800):PC Tryz.prog 76 [.ptr 0 0, .ptr 1 0] ⟨[[.g (.bool false), .g (.sl (wsG (dig X)))],[.g (.bool false), .g (.sl (wsG (dig Y)))]],[],[]⟩ (.ptr 2 0) ⟨[[.g (.bool false), .g (.sl (wsG (dig X)))],[.g (.bool false), .g (.sl (wsG (dig Y)))],[.g (.bool false), .g (.sl (wsG (dig (heN X Y))))]],[],[]⟩:=by
 obtain⟨vq,vr,M,hD,hq⟩:=quoRem_pc h0 hY hm
 cases hD with
 |zero e1 e2=>exact halfEven_zero h0 hY e1 e2 hq
 |low e1 e2 z=>exact halfEven_low h0 hY e1 e2 z hq
 |exact e2 z=>exact halfEven_exact h0 hY e2 z hq
 |both e1 z1 z2 hr=>exact halfEven_both h0 hY e1 z1 z2 hr hq
theorem cmpAbs_pc{X Y:Nat}(hX:(dig X).length≤100000)(hY:(dig Y).length≤100000):PC Tryz.prog 77 [.ptr 0 0, .ptr 1 0] ⟨[[.g (.bool false), .g (.sl (wsG (dig X)))],[.g (.bool false), .g (.sl (wsG (dig Y)))]],[],[]⟩ (.g (.int .i64 (cmpZ X Y))) ⟨[[.g (.bool false), .g (.sl (wsG (dig X)))],[.g (.bool false), .g (.sl (wsG (dig Y)))]],[],[]⟩:=by
 have h:=cmp_pc hX hY
 generalize dig X=xs at *
 generalize dig Y=ys at *
 generalize cmpZ X Y=r at *
 refine eN Tryz.func77 ?_
 (repeat first|refine uG ?_|((first|apply oR rfl rfl|(apply dF rfl rfl rfl;intro _)|(apply dP rfl rfl rfl;intro _)|(apply dL rfl rfl rfl;intro _)|apply dC rfl rfl rfl rfl);(focus(first|exact cqP h|exact mO));try exact kQ)|refine xK false false [0,1] rfl mixed (by decide+kernel) ?_|refine xK false true [0,1] rfl mixed (by decide+kernel) ?_|refine xK true false [0,1] rfl mixed (by decide+kernel) ?_|refine xK true true [0,1] rfl mixed (by decide+kernel) ?_)
 refine rB ?_ ?_ ?_
 all_goals rfl
theorem low64_pc{X:Nat}(hX:X<WB):PC Tryz.prog 109 [.g (.sl (wsG (dig X)))] ⟨[],[],[]⟩ (.g (.int .u64 X)) ⟨[],[],[]⟩:=by
 by_cases h0:X=0
 ·subst h0
  rw[dig_zero]
  refine eN Tryz.func109 ?_
  (try refine uN ?_)
  refine rT ?_
  rfl
 ·rw[dig_one h0 hX]
  have hw:IntKind.u64.wrap (X:Int)=(X:Int):=u64_wrap rfl hX
  refine eN Tryz.func109 ?_
  (repeat first|refine uA ?_|(apply oR rfl rfl;focus(first|exact iA (g:=wG X) rfl (EL rfl) (SZ rfl) rfl rfl (by decide) rfl rfl|exact mO)))
  refine rT ?_
  first|rfl|exact congrArg (GV.int .u64) hw
theorem int64_pc{X:Nat}(hX:X<9223372036854775808):PC Tryz.prog 79 [.ptr 0 0] ⟨[[.g (.bool false), .g (.sl (wsG (dig X)))]],[],[]⟩ (.g (.int .i64 X)) ⟨[[.g (.bool false), .g (.sl (wsG (dig X)))]],[],[]⟩:=by
 have h:=low64_pc (X:=X) (by unfold WB;omega)
 have hw:IntKind.i64.wrap (X:Int)=(X:Int):=w64 (by omega)
 generalize dig X=xs at *
 rw[show GV.int .i64 (X:Int)= .int .i64 (IntKind.i64.wrap (X:Int)) by rw[hw]]
 refine eN Tryz.func79 ?_
 (repeat first|refine uA ?_|(apply oR rfl rfl;focus(first|exact cqP h|exact mO)))
 refine rB ?_ ?_ ?_
 all_goals rfl
theorem noughts: ∀{n:Nat},n≠0→ ∃k,(∀i,i<k→n/10^i%10=0)∧n/10^k%10≠0∧k≤n:=fun{n}=>by
 induction n using Nat.strongRecOn with
 |ind n ih=>
  intro h
  by_cases h0:n%10=0
  ·obtain⟨k,h1,h2,h3⟩:=ih (n/10) (by omega) (by omega)
   refine⟨k+1,fun i hi=> ?_, ?_,by omega⟩
   ·cases i with
    |zero=>simpa using h0
    |succ i=>
     rw[Nat.pow_succ,Nat.mul_comm,←Nat.div_div_eq_div_mul]
     exact h1 i (by omega)
   ·rw[Nat.pow_succ,Nat.mul_comm,←Nat.div_div_eq_div_mul]
    exact h2
  ·exact⟨0,fun i hi=>absurd hi (by omega),by simpa using h0,Nat.zero_le _⟩
theorem normal_pc{n:Nat}{e:Int}(hn:n≤999999999999999999)(he: -1000≤e∧e≤1000): ∃a b r:Int,PC Tryz.prog 78 [.g (.int .i64 n), .g (.int .i64 e)] ⟨[],[],[]⟩ (.tuple [.g (.agg [.int .i64 a, .int .i64 b]), .g (.int .i64 r)]) ⟨[],[],[]⟩:=by
 by_cases h0:n=0
 ·subst h0
  refine⟨0,0,0, ?_⟩
  refine eN Tryz.func78 ?_
  (try refine uN ?_)
  refine rE ?_ ?_
  all_goals rfl
 ·obtain⟨k,h1,h2,h3⟩:=noughts h0
  have hk:k<18:=by
   refine Classical.byContradiction fun hc=>h2 ?_
   have h4:10^18≤10^k:=Nat.pow_le_pow_right (by decide) (by omega)
   rw[Nat.div_eq_of_lt (by omega)]
  have hq: ∀i,IntKind.i64.wrap (((n/10^i:Nat):Int).tdiv 10)=((n/10^(i+1):Nat):Int):=fun i=>by
   have h5:=Nat.div_le_self n (10^i *10)
   rw[show(10:Int)=((10:Nat):Int)from rfl,←Int.ofNat_tdiv,Nat.div_div_eq_div_mul,show 10^(i+1)=10^i *10 from Nat.pow_succ ..]
   generalize n/(10^i *10)=m at h5⊢
   exact w64 (by omega)
  have hr: ∀i,(((n/10^i:Nat):Int).tmod 10)=((n/10^i%10:Nat):Int):=fun i=>by
   rw[show(10:Int)=((10:Nat):Int)from rfl,←Int.ofNat_tmod]
  have hn0:((n:Int)==0)=false:=beq_eq_false_iff_ne.2 (by omega)
  refine⟨if 40<e+k then 0 else(n/10^k:Nat),if 40<e+k then 0 else e+k,if 40<e+k then 4 else 0, ?_⟩
  refine eN Tryz.func78 ?_
  (try refine uN ?_)
  refine sQ (fun h=> ?_) fun h=> ?_
  ·exfalso;rw[hn0]at h;cases h
  clear h
  (try refine uN ?_)
  refine PW_loop (S:=Nat) (fun i=>slots [(0, .g (.int .i64 (n/10^i:Nat))),(1, .g (.int .i64 (e+i))),(4, .ptr 0 0)]) (fun _=>⟨[[.g (.int .i64 0), .g (.int .i64 0)]],[],[]⟩) (fun i=>i≤k) (fun i=>k-i) 0 (Nat.zero_le _)
   (SlotsOk.le ⟨.inl (congrArg (fun z:Nat=>PV.g (.int .i64 z)) (by rw[Nat.pow_zero,Nat.div_one])), .inl (congrArg (fun z=>PV.g (.int .i64 z)) (by simp)), .inl rfl,trivial⟩) (HLe.of_eq rfl) (fun i hi=> ?_)
  have hri:=hr i
  (repeat first|refine uA ?_|(apply oR rfl rfl;focus(first|exact PO_as (PO_rem rfl rfl rfl (by decide)) (congrArg (fun z=>PV.g (.int .i64 z)) hri)|exact mO)))
  refine sQ (fun h=> ?_) fun h=> ?_
  ·have hik:i<k:=by
    rcases Nat.lt_or_ge i k with h4|h4
    ·exact h4
    ·exfalso
     have h5:i=k:=by omega
     subst h5
     have h6:=beq_iff_eq.1 h
     omega
   have hqi:=hq i
   clear h
   (repeat first|refine uA ?_|(apply oR rfl rfl;focus(first|exact PO_as (PO_quo rfl rfl rfl (by decide)) (congrArg (fun z=>PV.g (.int .i64 z)) hqi)|exact mO)))
   exact⟨i+1,hik,by omega,SlotsOk.le ⟨.inl rfl, .inl (congrArg (fun z=>PV.g (.int .i64 z)) (by rw[w64 (by omega)];omega)), .inl rfl,trivial⟩,HLe.of_eq rfl⟩
  ·have hik:i=k:=by
    rcases Nat.lt_or_ge i k with h4|h4
    ·exfalso
     have h5:=h1 i h4
     rw[h5]at h
     cases h
    ·omega
   clear h
   subst hik
   (try refine uN ?_)
   refine sQ (fun h=> ?_) fun h=> ?_
   ·have h4:=of_decide_eq_true h
    rw[if_pos h4,if_pos h4,if_pos h4]
    clear h
    (try refine uN ?_)
    refine rE ?_ ?_
    all_goals rfl
   ·have h4:=of_decide_eq_false h
    rw[if_neg h4,if_neg h4,if_neg h4]
    clear h
    (try refine uN ?_)
    refine rE ?_ ?_
    all_goals rfl
theorem mulN_pc{X Y:Nat}(hX:(dig X).length≤30)(hY:(dig Y).length≤30):PC Tryz.prog 74 [.ptr 0 0, .ptr 1 0, .ptr 2 0] ⟨[[.g (.bool false), .nils],[.g (.bool false), .g (.sl (wsG (dig X)))],[.g (.bool false), .g (.sl (wsG (dig Y)))]],[],[]⟩ (.ptr 0 0) ⟨[[.g (.bool false), .g (.sl (wsG (dig (X *Y))))],[.g (.bool false), .g (.sl (wsG (dig X)))],[.g (.bool false), .g (.sl (wsG (dig Y)))]],[],[]⟩:=by
 have h:=Mul_pc (x:=(X:Int)) (y:=(Y:Int)) (by rw[Int.natAbs_natCast];exact hX) (by rw[Int.natAbs_natCast];exact hY)
 rwa[←Int.natCast_mul,intP_nat,intP_nat,intP_nat]at h
theorem tenN_pc{n:Nat}(hn:n<256):PC Tryz.prog 75 [.g (.int .i64 n)] ⟨[],[],[]⟩ (.ptr 0 0) ⟨[[.g (.bool false), .g (.sl (wsG (dig (10^n))))]],[],[]⟩:=by
 have h:=ten_pc hn
 rwa[intP_nat]at h
theorem least{p:Nat→Prop}: ∀{n:Nat},p n→ ∃k,k≤n∧p k∧ ∀m,m<k→ ¬p m:=fun{n}=>by
 induction n using Nat.strongRecOn with
 |ind n ih=>
  intro h
  by_cases hc: ∃m,m<n∧p m
  ·obtain⟨m,h1,h2⟩:=hc
   obtain⟨k,a,b,c⟩:=ih m h1 h2
   exact⟨k,by omega,b,c⟩
  ·exact⟨n,Nat.le_refl _,h,fun m hm hp=>hc ⟨m,hm,hp⟩⟩
theorem heN_le{X Y:Nat}:heN X Y≤X/Y+1:=by
 unfold heN
 split
 ·exact Nat.le_refl _
 ·split
  ·split
   ·exact Nat.le_refl _
   ·exact Nat.le_succ _
  ·exact Nat.le_succ _
def nearQ(X k i:Nat):Nat:=if i<k then heN (X *10^(k-i)) 1 else heN X (10^(i-k))
theorem len_ten{n:Nat}(h:n≤127):(dig (10^n)).length≤12:=Nat.le_of_lt (ten_len h)
theorem ten_two{n:Nat}(h:n≤38):10^n<WB *WB:=by
 have h1:10^n≤10^38:=Nat.pow_le_pow_right (by decide) h
 have h2:(10:Nat)^38<WB *WB:=by decide+kernel
 omega
theorem near_pc{X k:Nat}(hX:X<10^40)(hk:k≤40): ∃a b r:Int,PC Tryz.prog 51 [.ptr 0 0, .ptr 1 0, .g (.int .i64 ((k:Int)-40))] ⟨[[.g (.bool false), .g (.sl (wsG (dig X)))],[.g (.bool false), .g (.sl (wsG (dig 1)))]],[],[]⟩ (.tuple [.g (.agg [.int .i64 a, .int .i64 b]), .g (.int .i64 r)]) ⟨[[.g (.bool false), .g (.sl (wsG (dig X)))],[.g (.bool false), .g (.sl (wsG (dig 1)))]],[],[]⟩:=by
 have hlast:nearQ X k (k+23)≤999999999999999999:=by
  unfold nearQ
  rw[if_neg (by omega),Nat.add_sub_cancel_left]
  have h1:= @heN_le X (10^23)
  have h2:X/10^23<10^17:=(Nat.div_lt_iff_lt_mul (by decide)).2 (by rw[←Nat.pow_add];exact hX)
  omega
 obtain⟨i0,j1,j2,j3⟩:=least (p:=fun i=>nearQ X k i≤999999999999999999) hlast
 obtain⟨a,b,r,hno⟩:=normal_pc (n:=nearQ X k i0) (e:=(i0:Int)-40) j2 (by omega)
 refine⟨a,b,r, ?_⟩
 have hmost:=newInt_pc (z:=999999999999999999) (by decide) (by decide)
 rw[show(999999999999999999:Int)=((999999999999999999:Nat):Int)from rfl,intP_nat]at hmost
 have hXl:(dig X).length≤30:=dig_length_le (Nat.lt_trans hX (by decide+kernel))
 have hi64:=int64_pc (X:=nearQ X k i0) (by omega)
 have hd1:dig 1=[1]:=dig_one (by decide) (by decide)
 have hca:=fun i=>cmpAbs_pc (X:=nearQ X k i) (Y:=999999999999999999)
 have hround: ∀i,i≤i0→nearQ X k i<WB^12:=fun i hi=>by
  unfold nearQ
  split
  ·have h1:= @heN_le (X *10^(k-i)) 1
   rw[Nat.div_one]at h1
   have h2:10^(k-i)≤10^40:=Nat.pow_le_pow_right (by decide) (by omega)
   have h3:X *10^(k-i)≤10^40 *10^40:=Nat.mul_le_mul (Nat.le_of_lt hX) h2
   have h4:(10:Nat)^40 *10^40+1<WB^12:=by decide+kernel
   omega
  ·have h1:= @heN_le X (10^(i-k))
   have h2:=Nat.div_le_self X (10^(i-k))
   have h4:(10:Nat)^40+1<WB^12:=by decide+kernel
   omega
 have hmd:(dig 999999999999999999).length≤100000:=Nat.le_trans (dig_length_le (k:=1) (by unfold WB;omega)) (by decide)
 have hcr: ∀i,i≤i0→ ∃q:Int,(i=i0→q≤0)∧(i<i0→ ¬q≤0)∧PC Tryz.prog 77 [.ptr 0 0, .ptr 1 0] ⟨[[.g (.bool false), .g (.sl (wsG (dig (nearQ X k i))))],[.g (.bool false), .g (.sl (wsG (dig 999999999999999999)))]],[],[]⟩ (.g (.int .i64 q)) ⟨[[.g (.bool false), .g (.sl (wsG (dig (nearQ X k i))))],[.g (.bool false), .g (.sl (wsG (dig 999999999999999999)))]],[],[]⟩:=fun i hi=>by
  refine⟨_,fun h=> ?_,fun h=> ?_,hca i (Nat.le_trans (dig_length_le (hround i hi)) (by decide)) hmd⟩
  ·subst h
   unfold cmpZ
   split
   ·decide
   ·rw[if_neg (by omega)];decide
  ·have:=j3 i h
   unfold cmpZ
   rw[if_neg (by omega),if_pos (by omega)]
   decide
 clear hca hmd
 generalize dig 999999999999999999=ms at *
 refine eN Tryz.func51 ?_
 (repeat first|refine uA ?_|(apply oR rfl rfl;focus(first|exact cb [] rfl rfl (EN rfl) (hmost) rfl rfl rfl rfl rfl rfl rfl rfl rfl rfl rfl|exact mO)))
 refine PW_loop_cut (S:=Nat) (fun i=>[(0, .ptr 0 0),(1, .ptr 1 0),(2, .g (.int .i64 ((k:Int)-40))),(6, .ptr 2 0),(8, .ptr 3 0),(9, .g (.int .i64 ((i:Int)-40)))]) (fun _=>⟨[[.g (.bool false), .g (.sl (wsG (dig X)))],[.g (.bool false), .g (.sl (wsG (dig 1)))],[.g (.int .i64 0), .g (.int .i64 0)],[.g (.bool false), .g (.sl (wsG ms))]],[],[]⟩) (fun i=>i≤i0) (fun i=>i0-i) 0 (Nat.zero_le _)
  (SlotsOk.le ⟨.inl rfl, .inl rfl, .inl rfl, .inl rfl, .inl rfl, .inl rfl,trivial⟩) (HLe.of_eq rfl) (fun _=>rfl) (fun i hi=> ?_)
 obtain⟨q,hq1,hq2,hcm⟩:=hcr i hi
 have hend: ∀v,v=nearQ X k i→i=i0→nearQ X k i0=v:=fun v h1 h2=>by rw[h1,h2]
 (try refine uN ?_)
 refine sQ (fun h=> ?_) fun h=> ?_
 ·clear h
  by_cases hik:i<k
  ·have hraw:IntKind.i64.wrap (((k:Int)-40)-((i:Int)-40))=((k-i:Nat):Int):=by rw[w64 (by omega)];omega
   have hten:=tenN_pc (n:=k-i) (by omega)
   rw[←hraw]at hten
   have hmul:=mulN_pc (X:=X) (Y:=10^(k-i)) hXl (Nat.le_trans (len_ten (by omega)) (by decide))
   have hnl:(dig (X *10^(k-i))).length≤800:=by
    have h2:10^(k-i)≤10^40:=Nat.pow_le_pow_right (by decide) (by omega)
    have h3:X *10^(k-i)≤10^40 *10^40:=Nat.mul_le_mul (Nat.le_of_lt hX) h2
    have h4:(10:Nat)^40 *10^40<WB^12:=by decide+kernel
    exact Nat.le_trans (dig_length_le (Nat.lt_of_le_of_lt h3 h4)) (by decide)
   have hhe:=halfEven_pc (X:=X *10^(k-i)) (Y:=1) (by decide) (by decide) hnl
   rw[show heN (X *10^(k-i)) 1=nearQ X k i from by unfold nearQ;rw[if_pos hik]]at hhe
   generalize dig (X *10^(k-i))=ps at *
   generalize dig (10^(k-i))=ts at *
   generalize dig X=xs at *
   generalize dig 1=os at *
   obtain⟨qs,hqs⟩: ∃l,l=dig (nearQ X k i):=⟨_,rfl⟩
   rw[←hqs]at hhe hcm
   (try refine uN ?_)
   refine sQ (fun h=> ?_) fun h=> ?_
   ·clear h
    (repeat first|refine uA ?_|(apply oR rfl rfl;focus(first|exact cb [] rfl rfl (EN rfl) (hten) rfl rfl rfl rfl rfl rfl rfl rfl rfl rfl rfl|exact cd [] rfl rfl (EN rfl) (hmul) rfl rfl rfl rfl rfl rfl rfl rfl rfl rfl rfl|exact cd [] rfl rfl (EN rfl) (hhe) rfl rfl rfl rfl rfl rfl rfl rfl rfl rfl rfl|exact cd [] rfl rfl (EN rfl) (hcm) rfl rfl rfl rfl rfl rfl rfl rfl rfl rfl rfl|exact mO)))
    refine sQ (fun h=> ?_) fun h=> ?_
    ·have hii:i=i0:=by
      have h2:=of_decide_eq_true h
      rcases Nat.lt_or_ge i i0 with h3|h3
      ·exact absurd h2 (hq2 h3)
      ·omega
     clear h
     subst hii
     rw[←hqs]at hi64
     (repeat first|refine uA ?_|(apply oR rfl rfl;focus(first|exact cd [] rfl rfl (EN rfl) (hi64) rfl rfl rfl rfl rfl rfl rfl rfl rfl rfl rfl|exact cqP hno|exact mO)))
     refine rP ?_ ?_ ?_
     all_goals rfl
    ·have hii:i<i0:=by
      have h2:=of_decide_eq_false h
      rcases Nat.lt_or_ge i i0 with h3|h3
      ·exact h3
      ·exact absurd (hq1 (by omega)) h2
     clear h
     (try refine uN ?_)
     exact⟨i+1,hii,by omega,SlotsOk.le ⟨.inl rfl, .inl rfl, .inl rfl, .inl rfl, .inl rfl, .inl (congrArg (fun z=>PV.g (.int .i64 z)) (by rw[w64 (by omega)];omega)),trivial⟩,Drops.mk [_,_,_] [] [] rfl⟩
   ·exfalso;have h2:=of_decide_eq_false h;omega
  ·have hraw:IntKind.i64.wrap (((i:Int)-40)-((k:Int)-40))=((i-k:Nat):Int):=by rw[w64 (by omega)];omega
   have hten:=tenN_pc (n:=i-k) (by omega)
   rw[←hraw]at hten
   have hmul:=mulN_pc (X:=1) (Y:=10^(i-k)) (by rw[hd1];decide) (Nat.le_trans (len_ten (by omega)) (by decide))
   rw[Nat.one_mul]at hmul
   have hhe:=halfEven_pc (X:=X) (Y:=10^(i-k)) (Nat.pow_pos (by decide)) (ten_two (by omega)) (Nat.le_trans hXl (by decide))
   rw[show heN X (10^(i-k))=nearQ X k i from by unfold nearQ;rw[if_neg hik]]at hhe
   generalize dig (10^(i-k))=ts at *
   generalize dig X=xs at *
   generalize dig 1=os at *
   obtain⟨qs,hqs⟩: ∃l,l=dig (nearQ X k i):=⟨_,rfl⟩
   rw[←hqs]at hhe hcm
   (try refine uN ?_)
   refine sQ (fun h=> ?_) fun h=> ?_
   ·exfalso;have h2:=of_decide_eq_true h;omega
   ·clear h
    (repeat first|refine uA ?_|(apply oR rfl rfl;focus(first|exact cb [] rfl rfl (EN rfl) (hten) rfl rfl rfl rfl rfl rfl rfl rfl rfl rfl rfl|exact cd [] rfl rfl (EN rfl) (hmul) rfl rfl rfl rfl rfl rfl rfl rfl rfl rfl rfl|exact cd [] rfl rfl (EN rfl) (hhe) rfl rfl rfl rfl rfl rfl rfl rfl rfl rfl rfl|exact cd [] rfl rfl (EN rfl) (hcm) rfl rfl rfl rfl rfl rfl rfl rfl rfl rfl rfl|exact mO)))
    refine sQ (fun h=> ?_) fun h=> ?_
    ·have hii:i=i0:=by
      have h2:=of_decide_eq_true h
      rcases Nat.lt_or_ge i i0 with h3|h3
      ·exact absurd h2 (hq2 h3)
      ·omega
     clear h
     subst hii
     rw[←hqs]at hi64
     (repeat first|refine uA ?_|(apply oR rfl rfl;focus(first|exact cd [] rfl rfl (EN rfl) (hi64) rfl rfl rfl rfl rfl rfl rfl rfl rfl rfl rfl|exact cqP hno|exact mO)))
     refine rP ?_ ?_ ?_
     all_goals rfl
    ·have hii:i<i0:=by
      have h2:=of_decide_eq_false h
      rcases Nat.lt_or_ge i i0 with h3|h3
      ·exact h3
      ·exact absurd (hq1 (by omega)) h2
     clear h
     (try refine uN ?_)
     exact⟨i+1,hii,by omega,SlotsOk.le ⟨.inl rfl, .inl rfl, .inl rfl, .inl rfl, .inl rfl, .inl (congrArg (fun z=>PV.g (.int .i64 z)) (by rw[w64 (by omega)];omega)),trivial⟩,Drops.mk [_,_,_] [] [] rfl⟩
 ·exfalso
  have h2:=of_decide_eq_false h
  omega
end Go.Proofs.YtdoenpeadkoklaaGreatFmtBesafter