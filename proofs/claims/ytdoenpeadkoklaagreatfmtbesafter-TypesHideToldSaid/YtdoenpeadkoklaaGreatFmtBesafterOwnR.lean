/- What the program's functions compute, each shown once; and plain laws of it. -/
import Derived.Test.YtdoenpeadkoklaaGreatFmtBesafterOwnQ
import Derived.Test.YtdoenpeadkoklaaGreatFmtBesafterPureC
import Derived.Test.YtdoenpeadkoklaaGreatFmtBesafterPureD
set_option maxRecDepth 100000
set_option maxHeartbeats 32000000
namespace Go.Proofs.YtdoenpeadkoklaaGreatFmtBesafter
open Go Go.Pure
attribute [local irreducible] PW POps POpsD PO PC Cond
theorem hasPrefix_no{s:ByteArray}{b:UInt8}(hb:((s.extract 0 1).toList==(⟨#[b]⟩:ByteArray).toList)=false)(hs:s.size≤100000):PC Tryz.prog 61 [.g (.str s), .g (.str ⟨#[b]⟩)] ⟨[],[],[]⟩ (.g (.bool false)) ⟨[],[],[]⟩:=by
 rcases Nat.lt_or_ge s.size 1 with h1|h1
 ·have hd:decide ((s.size:Int)≥((1:Nat):Int))=false:=decide_eq_false (by omega)
  refine eN Tryz.func61 ?_
  (try refine uN ?_)
  refine sQ (fun h=> ?_) fun h=> ?_
  ·exfalso
   change decide ((s.size:Int)≥((1:Nat):Int))=true at h
   rw[hd]at h
   cases h
  ·clear h
   (try refine uN ?_)
   refine rT ?_
   rfl
 ·have hd:decide ((s.size:Int)≥((1:Nat):Int))=true:=decide_eq_true (by omega)
  rw[show GV.bool false=GV.bool ((s.extract 0 1).toList==(⟨#[b]⟩:ByteArray).toList) by rw[hb]]
  refine eN Tryz.func61 ?_
  (try refine uN ?_)
  refine sQ (fun h=> ?_) fun h=> ?_
  ·clear h
   (repeat first|refine uA ?_|(apply oR rfl rfl;focus(first|exact PO_slice_str rfl (ST rfl) rfl rfl rfl (by decide) (show(0:Int)≤((1:Nat):Int) by decide) (show((1:Nat):Int)≤(s.size:Int) by omega)|exact mO)))
   refine rT ?_
   rfl
  ·exfalso
   change decide ((s.size:Int)≥((1:Nat):Int))=false at h
   rw[hd]at h
   cases h
theorem ENhp:enterB Tryz.prog 61=true:=by kernel_rfl
theorem ENtp:enterB Tryz.prog 62=true:=by kernel_rfl
theorem trimPrefix_no{s:ByteArray}{b:UInt8}(hb:((s.extract 0 1).toList==(⟨#[b]⟩:ByteArray).toList)=false)(hs:s.size≤100000):PC Tryz.prog 46 [.g (.str s), .g (.str ⟨#[b]⟩)] ⟨[],[],[]⟩ (.g (.str s)) ⟨[],[],[]⟩:=by
 have h1:=hasPrefix_no hb hs
 have h2:PC Tryz.prog 62 [.g (.str s), .g (.str ⟨#[b]⟩)] ⟨[],[],[]⟩ (.g (.str s)) ⟨[],[],[]⟩:=by
  refine eN Tryz.func62 ?_
  (repeat first|refine uA ?_|(apply oR rfl rfl;focus(first|exact cl rfl rfl ENhp h1 rfl rfl rfl|exact mO)))
  refine rT ?_
  rfl
 refine eN Tryz.func46 ?_
 (repeat first|refine uA ?_|(apply oR rfl rfl;focus(first|exact cl rfl rfl ENtp h2 rfl rfl rfl|exact mO)))
 refine rT ?_
 rfl
def digSet:List GV:=(List.range 256).map (fun k=> .bool (decide (48≤k∧k<58)))
theorem asciiSet_pc:PC Tryz.prog 92 [.g (.str ⟨#[48,49,50,51,52,53,54,55,56,57]⟩)] ⟨[],[],[]⟩ (.tuple [.g (.agg digSet), .g (.bool true)]) ⟨[],[],[]⟩:=by
 refine eN Tryz.func92 ?_
 (try refine uN ?_)
 refine PW_loop_n 11 ?_
 (repeat first|refine uA ?_|(apply oR rfl rfl;focus(first|exact PO_index (b:=48) rfl (ST rfl) rfl rfl (by decide) rfl|exact PO_index (b:=49) rfl (ST rfl) rfl rfl (by decide) rfl|exact PO_index (b:=50) rfl (ST rfl) rfl rfl (by decide) rfl|exact PO_index (b:=51) rfl (ST rfl) rfl rfl (by decide) rfl|exact PO_index (b:=52) rfl (ST rfl) rfl rfl (by decide) rfl|exact PO_index (b:=53) rfl (ST rfl) rfl rfl (by decide) rfl|exact PO_index (b:=54) rfl (ST rfl) rfl rfl (by decide) rfl|exact PO_index (b:=55) rfl (ST rfl) rfl rfl (by decide) rfl|exact PO_index (b:=56) rfl (ST rfl) rfl rfl (by decide) rfl|exact PO_index (b:=57) rfl (ST rfl) rfl rfl (by decide) rfl|exact PO_bindex 48 rfl Tryz.underlying164 (SZ rfl) rfl rfl rfl (by decide)|exact PO_bindex 49 rfl Tryz.underlying164 (SZ rfl) rfl rfl rfl (by decide)|exact PO_bindex 50 rfl Tryz.underlying164 (SZ rfl) rfl rfl rfl (by decide)|exact PO_bindex 51 rfl Tryz.underlying164 (SZ rfl) rfl rfl rfl (by decide)|exact PO_bindex 52 rfl Tryz.underlying164 (SZ rfl) rfl rfl rfl (by decide)|exact PO_bindex 53 rfl Tryz.underlying164 (SZ rfl) rfl rfl rfl (by decide)|exact PO_bindex 54 rfl Tryz.underlying164 (SZ rfl) rfl rfl rfl (by decide)|exact PO_bindex 55 rfl Tryz.underlying164 (SZ rfl) rfl rfl rfl (by decide)|exact PO_bindex 56 rfl Tryz.underlying164 (SZ rfl) rfl rfl rfl (by decide)|exact PO_bindex 57 rfl Tryz.underlying164 (SZ rfl) rfl rfl rfl (by decide)|exact mO)))
 refine rE ?_ ?_
 all_goals rfl
def digSetP:List PV:=digSet.map PV.g
theorem bstr_take{l:List UInt8}{k:Nat}:(bstr l).extract 0 k=bstr (l.take k):=by
 apply ByteArray.ext
 simp[bstr,ByteArray.data_extract]
theorem bstr_get{l:List UInt8}{k:Nat}{c:UInt8}(h:l[k]? =some c):(bstr l)[((k:Nat):Int).toNat]? =some c:=by
 have hk:=(List.getElem?_eq_some_iff.1 h).1
 rw[Int.toNat_natCast,getElem?_def,dif_pos (by rw[bstr_size];exact hk)]
 rw[List.getElem?_eq_getElem hk]at h
 rw[←h]
 rfl
theorem contains_pc{c:Nat}(h1:48≤c)(h2:c<58):PC Tryz.prog 114 [.ptr 0 0, .g (.int .u8 c)] ⟨[digSetP],[],[]⟩ (.g (.bool true)) ⟨[digSetP],[],[]⟩:=by
 have hc:c=48∨c=49∨c=50∨c=51∨c=52∨c=53∨c=54∨c=55∨c=56∨c=57:=by omega
 rcases hc with rfl|rfl|rfl|rfl|rfl|rfl|rfl|rfl|rfl|rfl
 ·refine eN Tryz.func114 ?_
  (repeat first|refine uA ?_|(apply oR rfl rfl;focus(first|exact PO_bindex 48 rfl Tryz.underlying164 (SZ rfl) rfl rfl rfl (by decide)|exact mO)))
  refine rB ?_ ?_ ?_
  all_goals rfl
 ·refine eN Tryz.func114 ?_
  (repeat first|refine uA ?_|(apply oR rfl rfl;focus(first|exact PO_bindex 49 rfl Tryz.underlying164 (SZ rfl) rfl rfl rfl (by decide)|exact mO)))
  refine rB ?_ ?_ ?_
  all_goals rfl
 ·refine eN Tryz.func114 ?_
  (repeat first|refine uA ?_|(apply oR rfl rfl;focus(first|exact PO_bindex 50 rfl Tryz.underlying164 (SZ rfl) rfl rfl rfl (by decide)|exact mO)))
  refine rB ?_ ?_ ?_
  all_goals rfl
 ·refine eN Tryz.func114 ?_
  (repeat first|refine uA ?_|(apply oR rfl rfl;focus(first|exact PO_bindex 51 rfl Tryz.underlying164 (SZ rfl) rfl rfl rfl (by decide)|exact mO)))
  refine rB ?_ ?_ ?_
  all_goals rfl
 ·refine eN Tryz.func114 ?_
  (repeat first|refine uA ?_|(apply oR rfl rfl;focus(first|exact PO_bindex 52 rfl Tryz.underlying164 (SZ rfl) rfl rfl rfl (by decide)|exact mO)))
  refine rB ?_ ?_ ?_
  all_goals rfl
 ·refine eN Tryz.func114 ?_
  (repeat first|refine uA ?_|(apply oR rfl rfl;focus(first|exact PO_bindex 53 rfl Tryz.underlying164 (SZ rfl) rfl rfl rfl (by decide)|exact mO)))
  refine rB ?_ ?_ ?_
  all_goals rfl
 ·refine eN Tryz.func114 ?_
  (repeat first|refine uA ?_|(apply oR rfl rfl;focus(first|exact PO_bindex 54 rfl Tryz.underlying164 (SZ rfl) rfl rfl rfl (by decide)|exact mO)))
  refine rB ?_ ?_ ?_
  all_goals rfl
 ·refine eN Tryz.func114 ?_
  (repeat first|refine uA ?_|(apply oR rfl rfl;focus(first|exact PO_bindex 55 rfl Tryz.underlying164 (SZ rfl) rfl rfl rfl (by decide)|exact mO)))
  refine rB ?_ ?_ ?_
  all_goals rfl
 ·refine eN Tryz.func114 ?_
  (repeat first|refine uA ?_|(apply oR rfl rfl;focus(first|exact PO_bindex 56 rfl Tryz.underlying164 (SZ rfl) rfl rfl rfl (by decide)|exact mO)))
  refine rB ?_ ?_ ?_
  all_goals rfl
 ·refine eN Tryz.func114 ?_
  (repeat first|refine uA ?_|(apply oR rfl rfl;focus(first|exact PO_bindex 57 rfl Tryz.underlying164 (SZ rfl) rfl rfl rfl (by decide)|exact mO)))
  refine rB ?_ ?_ ?_
  all_goals rfl
theorem ENct:enterB Tryz.prog 114=true:=by kernel_rfl
theorem trimRight_pc{l:List UInt8}(hl:l.length≤100000)(hd: ∀c∈l,48≤c.toNat∧c.toNat<58):PC Tryz.prog 94 [.g (.str (bstr l)), .ptr 0 0] ⟨[digSetP],[],[]⟩ (.g (.str (bstr []))) ⟨[digSetP],[],[]⟩:=by
 refine eN Tryz.func94 ?_
 (try refine uN ?_)
 refine PW_loop (S:=Nat) (fun k=>slots [(0, .g (.str (bstr (l.take k)))),(1, .ptr 0 0)]) (fun _=>⟨[digSetP],[],[]⟩) (fun k=>k≤l.length) (fun k=>k) l.length (Nat.le_refl _)
  (SlotsOk.le ⟨.inl (by rw[List.take_length];rfl), .inl rfl,trivial⟩) (HLe.of_eq rfl) (fun k hk=> ?_)
 have hsz:(bstr (l.take k)).size=k:=by rw[bstr_size,List.length_take];omega
 cases k with
 |zero=>
  rw[List.take_zero]at *
  (try refine uN ?_)
  refine rB ?_ ?_ ?_
  all_goals rfl
 |succ n=>
  have hgt:decide (((bstr (l.take (n+1))).size:Int)>0)=true:=by rw[hsz];exact decide_eq_true (by omega)
  have hw:IntKind.i64.wrap (((bstr (l.take (n+1))).size:Int)-1)=((n:Nat):Int):=by rw[hsz,w64 (by omega)];omega
  have hln:l[n]? =some (l[n]'(by omega)):=List.getElem?_eq_getElem (by omega)
  obtain⟨c,hc⟩: ∃c,c=l[n]'(by omega):=⟨_,rfl⟩
  have hcm:c∈l:=by rw[hc];exact List.getElem_mem _
  rw[←hc]at hln
  obtain⟨d1,d2⟩:=hd c hcm
  have hg:(bstr (l.take (n+1)))[(IntKind.i64.wrap (((bstr (l.take (n+1))).size:Int)-1)).toNat]? =some c:=by
   rw[hw]
   exact bstr_get (by rw[List.getElem?_take,if_pos (by omega)];exact hln)
  have hcn:=contains_pc d1 d2
  have hex:(bstr (l.take (n+1))).extract 0 (IntKind.i64.wrap (((bstr (l.take (n+1))).size:Int)-1)).toNat=bstr (l.take n):=by
   rw[hw,Int.toNat_natCast,bstr_take,List.take_take,Nat.min_eq_left (by omega)]
  obtain⟨B,hB⟩: ∃B,B=bstr (l.take (n+1)):=⟨_,rfl⟩
  rw[←hB]at hsz hgt hw hg hex
  refine PW_weak (env':=slots [(0, .g (.str B)),(1, .ptr 0 0)]) (H':=⟨[digSetP],[],[]⟩) (SlotsOk.le ⟨.inl (by rw[hB];rfl), .inl rfl,trivial⟩) (HLe.of_eq rfl) ?_
  (try refine uN ?_)
  refine sQ (fun h=> ?_) fun h=> ?_
  ·clear h
   (repeat first|refine uA ?_|(apply oR rfl rfl;focus(first|exact PO_index rfl (ST rfl) rfl rfl (by rw[hw];exact Int.natCast_nonneg _) hg|exact cd [] rfl rfl ENct (hcn) rfl rfl rfl rfl rfl rfl rfl rfl rfl rfl rfl|exact PO_slice_str rfl (ST rfl) rfl rfl rfl (by decide) (show(0:Int)≤IntKind.i64.wrap ((B.size:Int)-1) by rw[hw];omega) (show IntKind.i64.wrap ((B.size:Int)-1)≤(B.size:Int) by rw[hw,hsz];omega)|exact mO)))
   exact⟨n,by omega,by omega,SlotsOk.le ⟨.inl (congrArg (fun z=>PV.g (.str z)) hex), .inl rfl,trivial⟩,HLe.of_eq rfl⟩
  ·exfalso;rw[hgt]at h;cases h
theorem trimLeft_pc:PC Tryz.prog 93 [.g (.str (bstr [])), .ptr 0 0] ⟨[digSetP],[],[]⟩ (.g (.str (bstr []))) ⟨[digSetP],[],[]⟩:=by
 refine eN Tryz.func93 ?_
 (try refine uN ?_)
 refine PW_loop_none ?_
 (try refine uN ?_)
 refine rB ?_ ?_ ?_
 all_goals rfl
theorem eof_cell: ∀β,gok β→ ∃v,lkG (gfacts β) 4 0=some v∧v.oneCell'=true:=fun β h=>by
 obtain⟨⟨a,h⟩,_⟩:=h
 exact⟨β 0,rfl,by rw[h];rfl⟩
theorem eof_nil:NilI (.kv 4 0) false:=NilI.kv fun β h=>by
 obtain⟨⟨a,h⟩,_⟩:=h
 exact⟨_,_,(show lkG (gfacts β) 4 0=some (β 0)from rfl).trans (congrArg some h)⟩
theorem eof_same: ∀β,gok β→ ∃a,lkG (gfacts β) 4 0=some (.iface 375 (.pointer (some a))):=fun β h=>by
 obtain⟨⟨a,h⟩,_⟩:=h
 exact⟨a,(show lkG (gfacts β) 4 0=some (β 0)from rfl).trans (congrArg some h)⟩
theorem ENrb:enterB Tryz.prog 314=true:=by kernel_rfl
theorem ENub:enterB Tryz.prog 315=true:=by kernel_rfl
theorem MTrb:mthB Tryz.prog 136 "ReadByte" =some 314:=by kernel_rfl
theorem MTub:mthB Tryz.prog 136 "UnreadByte" =some 315:=by kernel_rfl
theorem readEnd_pc{s:ByteArray}{i:Nat}{p:Int}(hi:s.size≤i):PC Tryz.prog 314 [.ptr 0 0] ⟨[[.g (.str s), .g (.int .i64 i), .g (.int .i64 p)]],[],[]⟩ (.tuple [.g (.int .u8 0), .kv 4 0]) ⟨[[.g (.str s), .g (.int .i64 i), .g (.int .i64 (-1))]],[],[]⟩:=by
 refine eN Tryz.func314 ?_
 (repeat first|refine uG ?_|((first|apply oR rfl rfl|(apply dF rfl rfl rfl;intro _)|(apply dP rfl rfl rfl;intro _)|(apply dL rfl rfl rfl;intro _)|apply dC rfl rfl rfl rfl);(focus(first|exact mO));try exact kQ)|refine xK false false [0] rfl mixed (by decide+kernel) ?_|refine xK false true [0] rfl mixed (by decide+kernel) ?_|refine xK true false [0] rfl mixed (by decide+kernel) ?_|refine xK true true [0] rfl mixed (by decide+kernel) ?_)
 refine sQ (fun h=> ?_) fun h=> ?_
 ·clear h
  (repeat first|refine uG ?_|((first|apply oR rfl rfl|(apply dF rfl rfl rfl;intro _)|(apply dP rfl rfl rfl;intro _)|(apply dL rfl rfl rfl;intro _)|apply dC rfl rfl rfl rfl);(focus(first|exact PO_loadkv rfl (AG rfl) rfl eof_cell|exact mO));try exact kQ)|refine xK false false [0] rfl mixed (by decide+kernel) ?_|refine xK false true [0] rfl mixed (by decide+kernel) ?_|refine xK true false [0] rfl mixed (by decide+kernel) ?_|refine xK true true [0] rfl mixed (by decide+kernel) ?_)
  refine rB ?_ ?_ ?_
  all_goals rfl
 ·exfalso
  have h2:=of_decide_eq_false h
  simp at h2
  omega
theorem scanSign_pc{s:ByteArray}{c:UInt8}(hc:s[0]? =some c)(hs:s.size≤100000)(h1:c≠45)(h2:c≠43):PC Tryz.prog 117 [.ifc 136 (.ptr 0 0)] ⟨[[.g (.str s), .g (.int .i64 0), .g (.int .i64 (-1))]],[],[]⟩ (.tuple [.g (.bool false), .g (.raw .nilIface)]) ⟨[[.g (.str s), .g (.int .i64 0), .g (.int .i64 (-1))]],[],[]⟩:=by
 have hr:=readByte_pc (i:=0) (p:= -1) hc hs
 have hu:=unreadByte_pc (s:=s) (i:=0) (p:= -1) (by omega)
 have e1:((c.toNat:Int)==45)=false:=beq_eq_false_iff_ne.2 fun e=>h1 (UInt8.toNat_inj.1 (by show c.toNat=45;omega))
 have e2:((c.toNat:Int)==43)=false:=beq_eq_false_iff_ne.2 fun e=>h2 (UInt8.toNat_inj.1 (by show c.toNat=43;omega))
 generalize(c.toNat:Int)=x at *
 have hr:PC Tryz.prog 314 [.ptr 0 0] ⟨[[.g (.str s), .g (.int .i64 0), .g (.int .i64 (-1))]],[],[]⟩ (.tuple [.g (.int .u8 x), .g (.raw .nilIface)]) ⟨[[.g (.str s), .g (.int .i64 (0+1:Nat)), .g (.int .i64 (-1))]],[],[]⟩:=hr
 have hu:PC Tryz.prog 315 [.ptr 0 0] ⟨[[.g (.str s), .g (.int .i64 (0+1:Nat)), .g (.int .i64 (-1))]],[],[]⟩ (.g (.raw .nilIface)) ⟨[[.g (.str s), .g (.int .i64 0), .g (.int .i64 (-1))]],[],[]⟩:=hu
 refine eN Tryz.func117 ?_
 (repeat first|refine uA ?_|(apply oR rfl rfl;focus(first|exact inv_box [] rfl rfl MTrb ENrb hr rfl rfl rfl rfl rfl rfl rfl rfl rfl rfl rfl|exact PO_inil rfl Tryz.underlying121 (.inr rfl) NilI.nil rfl|exact mO)))
 refine sQ (fun h=> ?_) fun h=> ?_
 ·exfalso;rw[e1]at h;cases h
 clear h
 (try refine uN ?_)
 refine sQ (fun h=> ?_) fun h=> ?_
 ·exfalso;rw[e2]at h;cases h
 clear h
 (repeat first|refine uA ?_|(apply oR rfl rfl;focus(first|exact inv_box [] rfl rfl MTub ENub hu rfl rfl rfl rfl rfl rfl rfl rfl rfl rfl rfl|exact mO)))
 refine rB ?_ ?_ ?_
 all_goals rfl
end Go.Proofs.YtdoenpeadkoklaaGreatFmtBesafter