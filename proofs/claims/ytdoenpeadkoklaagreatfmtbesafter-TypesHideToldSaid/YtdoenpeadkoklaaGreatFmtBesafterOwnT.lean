/- What the program's functions compute, each shown once; and plain laws of it. -/
import Derived.Test.YtdoenpeadkoklaaGreatFmtBesafterOwnS
import Derived.Test.YtdoenpeadkoklaaGreatFmtBesafterPureD
import Derived.Test.YtdoenpeadkoklaaGreatFmtBesafterOwnG
set_option maxRecDepth 100000
set_option maxHeartbeats 32000000
namespace Go.Proofs.YtdoenpeadkoklaaGreatFmtBesafter
open Go Go.Pure
attribute [local irreducible] PW POps POpsD PO PC Cond
theorem idx_none: ∀{l:List UInt8},(∀c∈l,48≤c.toNat∧c.toNat<58)→Lib.indexByte l 46= -1
 |[],_=>rfl
 |c::l,h=>by
  have h1:=(h c (by simp)).1
  have h2:=idx_none (l:=l) fun x hx=>h x (by simp[hx])
  have h3:(c==46)=false:=beq_eq_false_iff_ne.2 fun e=>by subst e;simp at h1
  unfold Lib.indexByte
  rw[h3,h2]
  rfl
theorem idx_at: ∀{l p:List UInt8},(∀c∈l,48≤c.toNat∧c.toNat<58)→Lib.indexByte (l++46::p) 46=(l.length:Int)
 |[],_,_=>rfl
 |c::l,p,h=>by
  have h1:=(h c (by simp)).1
  have h2:=idx_at (l:=l) (p:=p) fun x hx=>h x (by simp[hx])
  have h3:(c==46)=false:=beq_eq_false_iff_ne.2 fun e=>by subst e;simp at h1
  show Lib.indexByte (c::(l++46::p)) 46=_
  unfold Lib.indexByte
  rw[h3,h2]
  have h4:((l.length:Int)== -1)=false:=beq_eq_false_iff_ne.2 (by omega)
  rw[h4]
  simp
theorem ENtpp:enterB Tryz.prog 46=true:=by kernel_rfl
theorem ENcut:enterB Tryz.prog 47=true:=by kernel_rfl
theorem parse_of{S:ByteArray}{c:UInt8}{w p:List UInt8}{X:Nat}(hsz:S.size≤100)(htp:PC Tryz.prog 46 [.g (.str S), .g (.str ⟨#[45]⟩)] ⟨[],[],[]⟩ (.g (.str S)) ⟨[],[],[]⟩)
  (hcut:PC Tryz.prog 47 [.g (.str S), .g (.str ⟨#[46]⟩)] ⟨[],[],[]⟩ (.tuple [.g (.str (bstr (c::w))), .g (.str (bstr p)), .g (.bool false)]) ⟨[],[],[]⟩)
  (hdw:PC Tryz.prog 48 [.g (.str (bstr (c::w)))] ⟨[],[],[]⟩ (.g (.bool true)) ⟨[],[],[]⟩)
  (hset:PC Tryz.prog 49 [.ptr 0 0, .g (.str (bstr (c::w)++bstr p)), .g (.int .i64 10)] ⟨[[.g (.bool false), .nils]],[],[]⟩ (.tuple [.ptr 0 0, .g (.bool true)]) ⟨[[.g (.bool false), .g (.sl (wsG (dig X)))]],[],[]⟩) (hX:X<10^40) (hp:p.length≤40) (hwl:w.length≤1000):
  ∃a b r:Int,PC Tryz.prog 31 [.g (.str S)] ⟨[],[],[]⟩ (.tuple [.g (.agg [.int .i64 a, .int .i64 b]), .g (.int .i64 r)]) ⟨[],[],[]⟩:=by
 have hg:=bstr_head c w
 have hcat:(bstr (c::w)).size+(bstr p).size≤9223372036854775807:=by rw[bstr_size,bstr_size,List.length_cons];omega
 have hone:=newInt_1
 have hd1:dig 1=[1]:=dig_one (by decide) (by decide)
 obtain⟨a,b,r,hnr⟩:=near_pc (k:=40-p.length) hX (by omega)
 have hraw:IntKind.i64.wrap (0-((bstr p).size:Int))=((40-p.length:Nat):Int)-40:=by rw[bstr_size,w64 (by omega)];omega
 rw[←hraw,hd1]at hnr
 generalize dig X=xs at *
 by_cases hbad:1<(bstr (c::w)).size∧c=48
 ·obtain⟨hb1,hb2⟩:=hbad
  subst hb2
  refine⟨0,0,2, ?_⟩
  refine eN Tryz.func31 ?_
  (try refine uN ?_)
  refine sQ (fun h=> ?_) fun h=> ?_
  ·exfalso;have h2:=of_decide_eq_true h;omega
  clear h
  (repeat first|refine uA ?_|(apply oR rfl rfl;focus(first|exact cl rfl rfl ENtpp htp rfl rfl rfl|exact cl rfl rfl ENcut hcut rfl rfl rfl|exact cqP hdw|exact mO)))
  refine sQ (fun h=> ?_) fun h=> ?_
  ·clear h
   (repeat first|refine uA ?_|(apply oR rfl rfl;focus(first|exact PO_index rfl (ST rfl) rfl rfl (by decide) hg|exact mO)))
   refine rE ?_ ?_
   all_goals rfl
  ·exfalso;have h2:=of_decide_eq_false h;omega
 ·refine⟨a,b,r, ?_⟩
  refine eN Tryz.func31 ?_
  (try refine uN ?_)
  refine sQ (fun h=> ?_) fun h=> ?_
  ·exfalso;have h2:=of_decide_eq_true h;omega
  clear h
  (repeat first|refine uA ?_|(apply oR rfl rfl;focus(first|exact cl rfl rfl ENtpp htp rfl rfl rfl|exact cl rfl rfl ENcut hcut rfl rfl rfl|exact cqP hdw|exact mO)))
  have hself:(!(S.toList==S.toList))=false:=by simp
  refine sQ (fun h=> ?_) fun h=> ?_
  ·have h1:=of_decide_eq_true h
   have hc48:(((c.toNat:Nat):Int)==48)=false:=beq_eq_false_iff_ne.2 fun e=>hbad ⟨by omega,by
    have h3:c.toNat=48:=by omega
    exact UInt8.toNat_inj.1 h3⟩
   clear h
   (repeat first|refine uA ?_|(apply oR rfl rfl;focus(first|exact PO_index rfl (ST rfl) rfl rfl (by decide) hg|exact mO)))
   refine sQ (fun h=> ?_) fun h=> ?_
   ·exfalso;rw[hc48]at h;cases h
   clear h
   (repeat first|refine uA ?_|(apply oR rfl rfl;focus(first|exact PO_concat rfl rfl rfl hcat|exact cd [] rfl rfl (EN rfl) (hset) rfl rfl rfl rfl rfl rfl rfl rfl rfl rfl rfl|exact mO)))
   refine sQ (fun h=> ?_) fun h=> ?_
   ·exfalso;first|(simp at h;done)|(rw[hself]at h;cases h)
   clear h
   (repeat first|refine uA ?_|(apply oR rfl rfl;focus(first|exact cb [] rfl rfl (EN rfl) (hone) rfl rfl rfl rfl rfl rfl rfl rfl rfl rfl rfl|exact cd [] rfl rfl (EN rfl) (hnr) rfl rfl rfl rfl rfl rfl rfl rfl rfl rfl rfl|exact mO)))
   refine rE ?_ ?_
   all_goals rfl
  ·clear h
   (repeat first|refine uA ?_|(apply oR rfl rfl;focus(first|exact PO_concat rfl rfl rfl hcat|exact cd [] rfl rfl (EN rfl) (hset) rfl rfl rfl rfl rfl rfl rfl rfl rfl rfl rfl|exact mO)))
   refine sQ (fun h=> ?_) fun h=> ?_
   ·exfalso;first|(simp at h;done)|(rw[hself]at h;cases h)
   clear h
   (repeat first|refine uA ?_|(apply oR rfl rfl;focus(first|exact cb [] rfl rfl (EN rfl) (hone) rfl rfl rfl rfl rfl rfl rfl rfl rfl rfl rfl|exact cd [] rfl rfl (EN rfl) (hnr) rfl rfl rfl rfl rfl rfl rfl rfl rfl rfl rfl|exact mO)))
   refine rE ?_ ?_
   all_goals rfl
theorem parse_pt{S:ByteArray}{c:UInt8}{w p:List UInt8}{X:Nat}(hsz:S.size≤100)(htp:PC Tryz.prog 46 [.g (.str S), .g (.str ⟨#[45]⟩)] ⟨[],[],[]⟩ (.g (.str S)) ⟨[],[],[]⟩)
  (hcut:PC Tryz.prog 47 [.g (.str S), .g (.str ⟨#[46]⟩)] ⟨[],[],[]⟩ (.tuple [.g (.str (bstr (c::w))), .g (.str (bstr p)), .g (.bool true)]) ⟨[],[],[]⟩)
  (hdp:PC Tryz.prog 48 [.g (.str (bstr p))] ⟨[],[],[]⟩ (.g (.bool true)) ⟨[],[],[]⟩)
  (hdw:PC Tryz.prog 48 [.g (.str (bstr (c::w)))] ⟨[],[],[]⟩ (.g (.bool true)) ⟨[],[],[]⟩)
  (hset:PC Tryz.prog 49 [.ptr 0 0, .g (.str (bstr (c::w)++bstr p)), .g (.int .i64 10)] ⟨[[.g (.bool false), .nils]],[],[]⟩ (.tuple [.ptr 0 0, .g (.bool true)]) ⟨[[.g (.bool false), .g (.sl (wsG (dig X)))]],[],[]⟩) (hX:X<10^40) (hp:p.length≤40) (hwl:w.length≤1000):
  ∃a b r:Int,PC Tryz.prog 31 [.g (.str S)] ⟨[],[],[]⟩ (.tuple [.g (.agg [.int .i64 a, .int .i64 b]), .g (.int .i64 r)]) ⟨[],[],[]⟩:=by
 have hg:=bstr_head c w
 have hcat:(bstr (c::w)).size+(bstr p).size≤9223372036854775807:=by rw[bstr_size,bstr_size,List.length_cons];omega
 have hone:=newInt_1
 have hd1:dig 1=[1]:=dig_one (by decide) (by decide)
 obtain⟨a,b,r,hnr⟩:=near_pc (k:=40-p.length) hX (by omega)
 have hraw:IntKind.i64.wrap (0-((bstr p).size:Int))=((40-p.length:Nat):Int)-40:=by rw[bstr_size,w64 (by omega)];omega
 rw[←hraw,hd1]at hnr
 generalize dig X=xs at *
 by_cases hbad:1<(bstr (c::w)).size∧c=48
 ·obtain⟨hb1,hb2⟩:=hbad
  subst hb2
  refine⟨0,0,2, ?_⟩
  refine eN Tryz.func31 ?_
  (try refine uN ?_)
  refine sQ (fun h=> ?_) fun h=> ?_
  ·exfalso;have h2:=of_decide_eq_true h;omega
  clear h
  (repeat first|refine uA ?_|(apply oR rfl rfl;focus(first|exact cl rfl rfl ENtpp htp rfl rfl rfl|exact cl rfl rfl ENcut hcut rfl rfl rfl|exact cqP hdw|exact cqP hdp|exact mO)))
  refine sQ (fun h=> ?_) fun h=> ?_
  ·clear h
   (repeat first|refine uA ?_|(apply oR rfl rfl;focus(first|exact PO_index rfl (ST rfl) rfl rfl (by decide) hg|exact mO)))
   refine rE ?_ ?_
   all_goals rfl
  ·exfalso;have h2:=of_decide_eq_false h;omega
 ·refine⟨a,b,r, ?_⟩
  refine eN Tryz.func31 ?_
  (try refine uN ?_)
  refine sQ (fun h=> ?_) fun h=> ?_
  ·exfalso;have h2:=of_decide_eq_true h;omega
  clear h
  (repeat first|refine uA ?_|(apply oR rfl rfl;focus(first|exact cl rfl rfl ENtpp htp rfl rfl rfl|exact cl rfl rfl ENcut hcut rfl rfl rfl|exact cqP hdw|exact cqP hdp|exact mO)))
  have hself:(!(S.toList==S.toList))=false:=by simp
  refine sQ (fun h=> ?_) fun h=> ?_
  ·have h1:=of_decide_eq_true h
   have hc48:(((c.toNat:Nat):Int)==48)=false:=beq_eq_false_iff_ne.2 fun e=>hbad ⟨by omega,by
    have h3:c.toNat=48:=by omega
    exact UInt8.toNat_inj.1 h3⟩
   clear h
   (repeat first|refine uA ?_|(apply oR rfl rfl;focus(first|exact PO_index rfl (ST rfl) rfl rfl (by decide) hg|exact mO)))
   refine sQ (fun h=> ?_) fun h=> ?_
   ·exfalso;rw[hc48]at h;cases h
   clear h
   (repeat first|refine uA ?_|(apply oR rfl rfl;focus(first|exact PO_concat rfl rfl rfl hcat|exact cd [] rfl rfl (EN rfl) (hset) rfl rfl rfl rfl rfl rfl rfl rfl rfl rfl rfl|exact mO)))
   refine sQ (fun h=> ?_) fun h=> ?_
   ·exfalso;first|(simp at h;done)|(rw[hself]at h;cases h)
   clear h
   (repeat first|refine uA ?_|(apply oR rfl rfl;focus(first|exact cb [] rfl rfl (EN rfl) (hone) rfl rfl rfl rfl rfl rfl rfl rfl rfl rfl rfl|exact cd [] rfl rfl (EN rfl) (hnr) rfl rfl rfl rfl rfl rfl rfl rfl rfl rfl rfl|exact mO)))
   refine rE ?_ ?_
   all_goals rfl
  ·clear h
   (repeat first|refine uA ?_|(apply oR rfl rfl;focus(first|exact PO_concat rfl rfl rfl hcat|exact cd [] rfl rfl (EN rfl) (hset) rfl rfl rfl rfl rfl rfl rfl rfl rfl rfl rfl|exact mO)))
   refine sQ (fun h=> ?_) fun h=> ?_
   ·exfalso;first|(simp at h;done)|(rw[hself]at h;cases h)
   clear h
   (repeat first|refine uA ?_|(apply oR rfl rfl;focus(first|exact cb [] rfl rfl (EN rfl) (hone) rfl rfl rfl rfl rfl rfl rfl rfl rfl rfl rfl|exact cd [] rfl rfl (EN rfl) (hnr) rfl rfl rfl rfl rfl rfl rfl rfl rfl rfl rfl|exact mO)))
   refine rE ?_ ?_
   all_goals rfl
theorem iscan_pc{l:List UInt8}(hd: ∀c∈l,isDig c)(h1:1≤l.length)(hl:l.length≤40):PC Tryz.prog 97 [.ptr 0 0, .ifc 136 (.ptr 1 0), .g (.int .i64 10)] ⟨[[.g (.bool false), .nils],[.g (.str (bstr l)), .g (.int .i64 0), .g (.int .i64 (-1))]],[],[]⟩
  (.tuple [.ptr 0 0, .g (.int .i64 10), .g (.raw .nilIface)]) ⟨[[.g (.bool false), .g (.sl (wsG (dig (dval l))))],[.g (.str (bstr l)), .g (.int .i64 l.length), .g (.int .i64 (-1))]],[],[]⟩:=by
 have hlen:(bstr l).size=l.length:=bstr_size l
 have hc0:l[0]? =some (l[0]'(by omega)):=List.getElem?_eq_getElem (by omega)
 have hcd:=hd _ (List.mem_of_getElem? hc0)
 have hss:=scanSign_pc (s:=bstr l) (bstr_get hc0) (by omega) (fun e=>by rw[e]at hcd;unfold isDig at hcd;revert hcd;decide) (fun e=>by rw[e]at hcd;unfold isDig at hcd;revert hcd;decide)
 have hsc:=scan_pc hd h1 hl
 generalize wsG (dig (dval l))=xs at *
 clear hc0 hcd hd
 refine eN Tryz.func97 ?_
 (repeat first|refine uA ?_|(apply oR rfl rfl;focus(first|exact cd [] rfl rfl (EN rfl) (hss) rfl rfl rfl rfl rfl rfl rfl rfl rfl rfl rfl|exact PO_inil rfl Tryz.underlying121 (.inr rfl) NilI.nil rfl|exact cd [true] rfl rfl (EN rfl) (hsc) rfl rfl rfl rfl rfl rfl rfl rfl rfl rfl rfl|exact mO)))
 refine sQ (fun h=> ?_) fun h=> ?_
 ·(try refine uN ?_)
  refine Ret_box (wC vT (wC vT (wC vT wN))) rfl rfl rfl rfl rfl rfl rfl rfl rfl ?_ ?_ ?_ rfl
  all_goals rfl
 ·(try refine uN ?_)
  refine Ret_box (wC vT (wC vT (wC vT wN))) rfl rfl rfl rfl rfl rfl rfl rfl rfl ?_ ?_ ?_ rfl
  all_goals rfl
theorem setFrom_pc{l:List UInt8}(hd: ∀c∈l,isDig c)(h1:1≤l.length)(hl:l.length≤40):PC Tryz.prog 71 [.ptr 0 0, .ifc 136 (.ptr 1 0), .g (.int .i64 10)] ⟨[[.g (.bool false), .nils],[.g (.str (bstr l)), .g (.int .i64 0), .g (.int .i64 (-1))]],[],[]⟩
  (.tuple [.ptr 0 0, .g (.bool true)]) ⟨[[.g (.bool false), .g (.sl (wsG (dig (dval l))))],[.g (.str (bstr l)), .g (.int .i64 l.length), .g (.int .i64 (-1))]],[],[]⟩:=by
 have hsc:=iscan_pc hd h1 hl
 have hre:=readEnd_pc (s:=bstr l) (i:=l.length) (p:= -1) (by rw[bstr_size];exact Nat.le_refl _)
 generalize wsG (dig (dval l))=xs at *
 refine eN Tryz.func71 ?_
 (repeat first|refine uA ?_|(apply oR rfl rfl;focus(first|exact cd [] rfl rfl (EN rfl) (hsc) rfl rfl rfl rfl rfl rfl rfl rfl rfl rfl rfl|exact PO_inil rfl Tryz.underlying121 (.inr rfl) NilI.nil rfl|exact inv_box [] rfl rfl MTrb ENrb hre rfl rfl rfl rfl rfl rfl rfl rfl rfl rfl rfl|exact PO_loadkv rfl (AG rfl) rfl eof_cell|exact PO_isame rfl Tryz.underlying121 (.inr rfl) Tryz.underlying375 (inf_at infT) cmpT (inf_at infE) rfl rfl eof_same|exact mO)))
 refine rB ?_ ?_ ?_
 all_goals rfl
theorem ENnr:enterB Tryz.prog 72=true:=by kernel_rfl
theorem setString_pc{l:List UInt8}(hd: ∀c∈l,isDig c)(h1:1≤l.length)(hl:l.length≤40):PC Tryz.prog 49 [.ptr 0 0, .g (.str (bstr l)), .g (.int .i64 10)] ⟨[[.g (.bool false), .nils]],[],[]⟩
  (.tuple [.ptr 0 0, .g (.bool true)]) ⟨[[.g (.bool false), .g (.sl (wsG (dig (dval l))))]],[],[]⟩:=by
 have hnr:=newReader_pc (s:=bstr l)
 have hsf:=setFrom_pc hd h1 hl
 generalize wsG (dig (dval l))=xs at *
 refine eN Tryz.func49 ?_
 (repeat first|refine uA ?_|(apply oR rfl rfl;focus(first|exact cd [] rfl rfl ENnr (hnr) rfl rfl rfl rfl rfl rfl rfl rfl rfl rfl rfl|exact PO_mkifc rfl Tryz.underlying136 rfl|exact cd [] rfl rfl (EN rfl) (hsf) rfl rfl rfl rfl rfl rfl rfl rfl rfl rfl rfl|exact mO)))
 refine rB ?_ ?_ ?_
 all_goals rfl
theorem bstr_append(a b:List UInt8):bstr (a++b)=bstr a++bstr b:=by
 apply ByteArray.ext
 simp[bstr,ByteArray.data_append]
theorem of_bytes{t:ByteArray}{l:List UInt8}(h:t.data.toList=l):t=bstr l:=by
 apply ByteArray.ext
 rw[←h]
 simp[bstr]
theorem head_ne{c x:UInt8}{w:List UInt8}(hc:c≠x):(((bstr (c::w)).extract 0 1).toList==(⟨#[x]⟩:ByteArray).toList)=false:=by
 rw[bstr_take,bstr_toList,show(⟨#[x]⟩:ByteArray).toList=[x]from bstr_toList [x]]
 exact beq_eq_false_iff_ne.2 fun h=>hc (List.head_eq_of_cons_eq h)
theorem first_ne{c x:UInt8}{w:List UInt8}(hc:c≠x):((⟨#[x]⟩:ByteArray).toList==(bstr (c::w)).toList)=false:=by
 rw[bstr_toList,show(⟨#[x]⟩:ByteArray).toList=[x]from bstr_toList [x]]
 exact beq_eq_false_iff_ne.2 fun h=>hc (List.head_eq_of_cons_eq h).symm
theorem dig_not{c:UInt8}(h:isDig c){n:Nat}(hn:n<48)(x:UInt8)(hx:x.toNat=n):c≠x:=fun e=>by
 subst e
 unfold isDig at h
 omega
theorem bstr_drop{l:List UInt8}{k:Nat}:(bstr l).extract k l.length=bstr (l.drop k):=by
 apply ByteArray.ext
 simp[bstr,ByteArray.data_extract,List.extract,List.take_of_length_le]
theorem parse_digs{c:UInt8}{w:List UInt8}(hd: ∀x∈c::w,isDig x)(hl:(c::w).length≤40):
  ∃a b r:Int,PC Tryz.prog 31 [.g (.str (bstr (c::w)))] ⟨[],[],[]⟩ (.tuple [.g (.agg [.int .i64 a, .int .i64 b]), .g (.int .i64 r)]) ⟨[],[],[]⟩:=by
 have hc:=hd c (by simp)
 have hsz:(bstr (c::w)).size≤100:=by rw[bstr_size];omega
 have hset:=setString_pc hd (by simp) hl
 have h0:bstr (c::w)++bstr []=bstr (c::w):=by rw[←bstr_append,List.append_nil]
 refine parse_of (c:=c) (w:=w) (p:=[]) (X:=dval (c::w)) hsz (trimPrefix_no (head_ne (dig_not hc (by decide) 45 rfl)) (by omega)) (cut_none (first_ne (dig_not hc (by decide) 46 rfl)) (idx_none (l:=c::w) hd)) (digits_pc (by simp) (by omega) hd) (by rw[h0];exact hset) (Nat.lt_of_lt_of_le (dval_all hd) (pow10_le hl)) (by simp) ?_
 rw[List.length_cons]at hl
 omega
theorem parse_point{c:UInt8}{w p:List UInt8}(hd: ∀x∈c::w,isDig x)(hp: ∀x∈p,isDig x)(hp1:1≤p.length)(hl:(c::w).length+1+p.length≤40):
  ∃a b r:Int,PC Tryz.prog 31 [.g (.str (bstr ((c::w)++46::p)))] ⟨[],[],[]⟩ (.tuple [.g (.agg [.int .i64 a, .int .i64 b]), .g (.int .i64 r)]) ⟨[],[],[]⟩:=by
 have hc:=hd c (by simp)
 have hln:((c::w)++46::p).length=(c::w).length+1+p.length:=by rw[List.length_append,List.length_cons (a:=46)];omega
 have hsz:(bstr ((c::w)++46::p)).size≤100:=by rw[bstr_size,hln];omega
 have hall: ∀x∈(c::w)++p,isDig x:=fun x hx=>by
  rcases List.mem_append.1 hx with h|h
  ·exact hd x h
  ·exact hp x h
 have hal:((c::w)++p).length≤40:=by rw[List.length_append];omega
 have hset:=setString_pc hall (by simp) hal
 rw[bstr_append]at hset
 have hb:(bstr ((c::w)++46::p)).extract ((c::w).length+1) (bstr ((c::w)++46::p)).size=bstr p:=by
  rw[bstr_size,bstr_drop]
  refine congrArg bstr ?_
  rw[show(c::w)++46::p=((c::w)++[46])++p by simp,show(c::w).length+1=((c::w)++[46]).length by simp,List.drop_left]
 have ha:(bstr ((c::w)++46::p)).extract 0 (c::w).length=bstr (c::w):=by rw[bstr_take,List.take_left]
 refine parse_pt (c:=c) (w:=w) (p:=p) (X:=dval ((c::w)++p)) hsz (trimPrefix_no (s:=bstr ((c::w)++46::p)) (head_ne (w:=w++46::p) (dig_not hc (by decide) 45 rfl)) (by omega)) (cut_at (n:=(c::w).length) (first_ne (w:=w++46::p) (dig_not hc (by decide) 46 rfl)) (idx_at (l:=c::w) hd) (by rw[bstr_size,hln];omega) (by omega) ha hb) (digits_pc (fun h=>by rw[h]at hp1;simp at hp1) (by omega) hp) (digits_pc (by simp) (by omega) hd) hset (Nat.lt_of_lt_of_le (dval_all hall) (pow10_le hal)) (by omega) ?_
 rw[List.length_cons]at hl
 omega
theorem parse_num{s:ByteArray}(h0:0<s.size)(hd:digB (Utf8.decode s 0).1=true)(hs:s.size≤40):
  ∃a b r:Int,PC Tryz.prog 31 [.g (.str (uptoB s (numB s)))] ⟨[],[],[]⟩ (.tuple [.g (.agg [.int .i64 a, .int .i64 b]), .g (.int .i64 r)]) ⟨[],[],[]⟩:=by
 have hsz:=uptoB_size (numB_le s)
 have hle:=numB_le s
 have hln:(uptoB s (numB s)).data.toList.length=(uptoB s (numB s)).size:=Array.length_toList
 rcases num_shape h0 hd with⟨c,w,hcw,hdg⟩|⟨c,w,p,hcw,hdg,hp,hp1⟩
 ·rw[of_bytes hcw]
  refine parse_digs hdg ?_
  rw[←hcw];omega
 ·rw[of_bytes hcw]
  refine parse_point hdg hp hp1 ?_
  have:=congrArg List.length hcw
  rw[List.length_append,List.length_cons (a:=46)]at this
  omega
theorem quoted_pc{s:ByteArray}(hs:s.size≤10000)(h1:1≤s.size):PC Tryz.prog 32 [.g (.str s)] ⟨[],[],[]⟩
  (.tuple [.g (.str ⟨(quotB (fromB s 1) 0 false []).1.toArray⟩), .g (.int .i64 (quotB (fromB s 1) 0 false []).2.1), .g (.int .i64 (quotB (fromB s 1) 0 false []).2.2)]) ⟨[],[],[]⟩:=by
 unfold PC
 intro c vs hr ha
 obtain⟨hl,hv⟩:=ha
 obtain⟨v,rfl⟩: ∃v,vs= #[v]:=by
  obtain⟨l⟩:=vs
  match l,hl with
  |[v],_=>exact⟨v,rfl⟩
 have h2:=RV_str (hv 0 _ v rfl rfl)
 subst h2
 refine(quoted_calls hr (s1:=fromB s 1) rfl rfl hs h1).mono ?_
 rintro e w' ⟨rfl,hb⟩
 obtain⟨r1,r2⟩:=hr.grow ⟨hb.os,⟨hb.tape,fun h=>h.elim⟩,hb.output,hb.size,hb.block⟩
 refine⟨_,⟨c.σ,c.τ,c.μ,c.hid,w'⟩,rfl,rfl,r1,r2, .tuple _ _ rfl ?_⟩
 intro i p v hp hv
 match i with
 |0=>simp at hp hv;subst hp;subst hv;exact .g _ _ (.str _)
 |1=>simp at hp hv;subst hp;subst hv;exact .g _ _ (.int _ _)
 |2=>simp at hp hv;subst hp;subst hv;exact .g _ _ (.int _ _)
 |i+3=>simp at hp
theorem ENdr:enterB Tryz.prog 25=true:=by kernel_rfl
def rwB(s:ByteArray):Nat:=(Lib.decodeGo s).2
theorem wadd{a b:Nat}(h:a+b≤100000):IntKind.i64.wrap ((a:Int)+(b:Int))=((a+b:Nat):Int):=by rw[i64w (by omega)];omega
theorem signB_pre(s:List UInt8): ∀l:List (List UInt8),(signB s l).length≤s.length
 |[]=>by simp[signB]
 |x::l=>by
  unfold signB
  split
  ·rename_i h
   unfold Lib.hasPrefix at h
   exact(List.isPrefixOf_iff_prefix.1 h).length_le
  ·exact signB_pre s l
theorem tokens_pc{pr:ByteArray→Int×Int×Int}(hpr: ∀t:ByteArray,0<t.size→digB (Utf8.decode t 0).1=true→t.size≤40→PC Tryz.prog 31 [.g (.str (uptoB t (numB t)))] ⟨[],[],[]⟩ (.tuple [.g (.agg [.int .i64 (pr (uptoB t (numB t))).1, .int .i64 (pr (uptoB t (numB t))).2.1]), .g (.int .i64 (pr (uptoB t (numB t))).2.2)]) ⟨[],[],[]⟩)
  {s:ByteArray} (hs:s.size≤40):PC Tryz.prog 15 [.g (.str s)] ⟨[],[],[]⟩ (.tuple [.g (.sl (VTok.gs (cutB rwB letB pr s).1)), .g (.agg [.int .i64 (cutB rwB letB pr s).2.1, .int .i64 (cutB rwB letB pr s).2.2])]) ⟨[],[],[]⟩:=by
 generalize hR:cutB rwB letB pr s=R
 unfold cutB at hR
 refine eN Tryz.func15 ?_
 (try refine uD ?_)
 refine sQ (fun h=> ?_) fun h=> ?_
 ·exfalso
  have:=of_decide_eq_true h
  omega
 clear h
 (repeat first|refine uE ?_|((first|apply oR rfl rfl|(apply dF rfl rfl rfl;intro _)|(apply dP rfl rfl rfl;intro _)|(apply dL rfl rfl rfl;intro _)|apply dC rfl rfl rfl rfl);(focus(first|exact PO_range rfl (ST rfl) rfl|exact mO));try exact kQ))
 refine PW_loop (S:=Nat) (fun pos=>slots [(0, .g (.str s)),(3, .ptr 0 0),(26, .mref 0 0 0 0)]) (fun pos=>⟨[[.g (.int .i64 0), .g (.int .i64 0)]],[],[.iter 0 s pos]⟩) (fun pos=>badB rwB s pos=badB rwB s 0) (fun pos=>s.size-pos) 0 rfl
  (SlotsOk.le ⟨.inl rfl, .inl rfl, .inl rfl,trivial⟩) (HLe.of_eq rfl) (fun pos hpos=> ?_)
 by_cases hlt:pos<s.size
 ·have hdc:=decode_pc (fromB s pos)
  have hw:=decode_wide hlt
  have hrw:rwB (fromB s pos)=(Lib.decodeGo (fromB s pos)).2:=rfl
  rw[badB,dif_pos hlt]at hpos
  rw[←hpos]at hR
  rw[hrw]at hR hpos
  generalize(Lib.decodeGo (fromB s pos)).2=n at *
  generalize(Lib.decodeGo (fromB s pos)).1=r2 at *
  obtain⟨z,hz⟩: ∃z:Int,z=((Utf8.decode s pos).1:Nat):=⟨_,rfl⟩
  (repeat first|refine uE ?_|((first|apply oR rfl rfl|(apply dF rfl rfl rfl;intro _)|(apply dP rfl rfl rfl;intro _)|(apply dL rfl rfl rfl;intro _)|apply dC rfl rfl rfl rfl);(focus(first|exact PO_as (PO_next rfl rfl rfl hlt) (congrArg (fun k=>PV.tuple [.g (.bool true), .g (.int .i64 pos), .g (.int .i32 k)]) hz.symm)|exact PO_slice_str rfl (ST rfl) rfl rfl rfl (Int.natCast_nonneg _) (show(pos:Int)≤(s.size:Int) by omega) (Int.le_refl _)|exact cl rfl rfl ENdr hdc rfl rfl rfl|exact mO));try exact kQ))
  refine sQ (fun h=> ?_) fun h=> ?_
  ·have hz2:(Utf8.decode s pos).1=65533:=by have:=eq_of_beq h;omega
   clear h
   (try refine uD ?_)
   refine sQ (fun h=> ?_) fun h=> ?_
   ·have hn:n=1:=by have:=eq_of_beq h;omega
    clear h
    rw[if_pos ⟨hz2,hn⟩]at hR
    subst hR
    (try refine uD ?_)
    refine Ret_boxp (vC vT (vC (vA (AG rfl) (SZ rfl) rfl rfl (lB rfl)) vN)) rfl rfl rfl rfl rfl rfl rfl rfl rfl ?_ ?_ ?_ rfl
    all_goals rfl
   ·have hn: ¬n=1:=by have:=ne_of_beq_false h;omega
    clear h
    rw[if_neg (fun q=>hn q.2)]at hpos
    (try refine uD ?_)
    exact⟨_,hpos,by omega,SlotsOk.le ⟨.inl rfl, .inl rfl, .inl rfl,trivial⟩,HLe.of_eq rfl⟩
  ·have hz2: ¬(Utf8.decode s pos).1=65533:=by have:=ne_of_beq_false h;omega
   clear h
   rw[if_neg (fun q=>hz2 q.1)]at hpos
   (try refine uD ?_)
   exact⟨_,hpos,by omega,SlotsOk.le ⟨.inl rfl, .inl rfl, .inl rfl,trivial⟩,HLe.of_eq rfl⟩
 ·rw[badB,dif_neg hlt]at hpos
  rw[←hpos]at hR
  dsimp only at hR
  clear hpos
  (repeat first|refine uF ?_|((first|apply oR rfl rfl|(apply dF rfl rfl rfl;intro _)|(apply dP rfl rfl rfl;intro _)|(apply dL rfl rfl rfl;intro _)|apply dC rfl rfl rfl rfl);(focus(first|exact PO_next_end rfl rfl rfl (Nat.le_of_not_lt hlt)|exact mO));try exact kQ)|refine xU [10] rfl ?_)
  refine PW_buf 8 62 (SZ rfl) rfl ?_
  (try refine uD ?_)
  refine PW_loop_cut (S:=Nat×List VTok×Nat) (fun s'=>[(0, .g (.str s)),(3, .ptr 0 0),(8, .own (VTok.gs s'.2.1) 0),(9, .g (.int .i64 s'.1))]) (fun s'=>⟨[[.g (.int .i64 0), .g (.int .i64 0)]],[(62,s'.2.1.length)],[.iter 0 s pos]⟩)
   (fun s'=>toksB letB pr s s'.2.2 s'.1 s'.2.1=R∧s'.1≤s.size∧s.size-s'.1<s'.2.2∧s'.2.1.length≤s'.1) (fun s'=>s.size-s'.1) (0,[],s.size+1) ⟨hR,by dsimp only;omega,by dsimp only;omega,Nat.le_refl _⟩
   (SlotsOk.le ⟨.inl rfl, .inl rfl, .inl rfl, .inl rfl,trivial⟩) (HLe.of_eq rfl) (fun _=>rfl) (fun s' hs'=> ?_)
  obtain⟨a,out,fuel⟩:=s'
  obtain⟨hgo,ha,hfu,hol⟩:=hs'
  dsimp only at hgo ha hfu hol
  clear hR
  obtain⟨fuel,rfl⟩: ∃n,fuel=n+1:=⟨fuel-1,by omega⟩
  rw[toksB]at hgo
  (try refine uD ?_)
  refine sQ (fun h=> ?_) fun h=> ?_
  ·have hlt:a<s.size:=by have:=of_decide_eq_true h;omega
   clear h
   rw[if_pos hlt]at hgo
   have hrs:(fromB s a).size=s.size-a:=fromB_size s a
   have hdc:=decode_pc (fromB s a)
   have hd0:Lib.decodeGo (fromB s a)=Utf8.decode (fromB s a) 0:=by simp only[Lib.decodeGo];rw[if_neg (by omega)]
   have hrl:=rune_le (fromB s a) 0
   rw[hd0]at hdc
   obtain⟨st,hst⟩: ∃st,stepB letB pr s a=st:=⟨_,rfl⟩
   rw[hst]at hgo
   unfold stepB at hst
   dsimp only at hst
   obtain⟨z,hz⟩: ∃z:Int,z=((Utf8.decode (fromB s a) 0).1:Nat):=⟨_,rfl⟩
   have hlt2:=letter_pc (r:=z) (by omega) (by omega)
   have hdg:=digit_pc z
   rw[←hz]at hdc hst
   dsimp only
   by_cases h32:z=32
   ·subst h32
    rw[if_pos (by decide)]at hst
    subst hst
    dsimp only at hgo
    (repeat first|refine uE ?_|((first|apply oR rfl rfl|(apply dF rfl rfl rfl;intro _)|(apply dP rfl rfl rfl;intro _)|(apply dL rfl rfl rfl;intro _)|apply dC rfl rfl rfl rfl);(focus(first|exact PO_slice_str rfl (ST rfl) rfl rfl rfl (Int.natCast_nonneg _) (show(a:Int)≤(s.size:Int) by omega) (Int.le_refl _)|exact cl rfl rfl ENdr hdc rfl rfl rfl|exact mO));try exact kQ))
    exact⟨(a+1,out,fuel),⟨hgo,by dsimp only;omega,by dsimp only;omega,by dsimp only;omega⟩,by dsimp only;omega,SlotsOk.le ⟨.inl rfl, .inl rfl, .inl rfl, .inl (congrArg (fun k=>PV.g (.int .i64 k)) (wadd (b:=1) (by omega))),trivial⟩,Drops.mk [[.g (.int .i64 0), .g (.str ⟨#[]⟩), .g (.int .i64 0), .g (.int .i64 0), .g (.int .i64 a)]] [] [] rfl⟩
   by_cases h9:z=9
   ·subst h9
    rw[if_pos (by decide)]at hst
    subst hst
    dsimp only at hgo
    (repeat first|refine uE ?_|((first|apply oR rfl rfl|(apply dF rfl rfl rfl;intro _)|(apply dP rfl rfl rfl;intro _)|(apply dL rfl rfl rfl;intro _)|apply dC rfl rfl rfl rfl);(focus(first|exact PO_slice_str rfl (ST rfl) rfl rfl rfl (Int.natCast_nonneg _) (show(a:Int)≤(s.size:Int) by omega) (Int.le_refl _)|exact cl rfl rfl ENdr hdc rfl rfl rfl|exact mO));try exact kQ))
    exact⟨(a+1,out,fuel),⟨hgo,by dsimp only;omega,by dsimp only;omega,by dsimp only;omega⟩,by dsimp only;omega,SlotsOk.le ⟨.inl rfl, .inl rfl, .inl rfl, .inl (congrArg (fun k=>PV.g (.int .i64 k)) (wadd (b:=1) (by omega))),trivial⟩,Drops.mk [[.g (.int .i64 0), .g (.str ⟨#[]⟩), .g (.int .i64 0), .g (.int .i64 0), .g (.int .i64 a)]] [] [] rfl⟩
   by_cases h10:z=10
   ·subst h10
    rw[if_pos (by decide)]at hst
    subst hst
    dsimp only at hgo
    (repeat first|refine uE ?_|((first|apply oR rfl rfl|(apply dF rfl rfl rfl;intro _)|(apply dP rfl rfl rfl;intro _)|(apply dL rfl rfl rfl;intro _)|apply dC rfl rfl rfl rfl);(focus(first|exact PO_slice_str rfl (ST rfl) rfl rfl rfl (Int.natCast_nonneg _) (show(a:Int)≤(s.size:Int) by omega) (Int.le_refl _)|exact cl rfl rfl ENdr hdc rfl rfl rfl|exact mO));try exact kQ))
    exact⟨(a+1,out,fuel),⟨hgo,by dsimp only;omega,by dsimp only;omega,by dsimp only;omega⟩,by dsimp only;omega,SlotsOk.le ⟨.inl rfl, .inl rfl, .inl rfl, .inl (congrArg (fun k=>PV.g (.int .i64 k)) (wadd (b:=1) (by omega))),trivial⟩,Drops.mk [[.g (.int .i64 0), .g (.str ⟨#[]⟩), .g (.int .i64 0), .g (.int .i64 0), .g (.int .i64 a)]] [] [] rfl⟩
   rw[if_neg (fun q=>by rcases q with q|q|q<;>omega)]at hst
   (repeat first|refine uE ?_|((first|apply oR rfl rfl|(apply dF rfl rfl rfl;intro _)|(apply dP rfl rfl rfl;intro _)|(apply dL rfl rfl rfl;intro _)|apply dC rfl rfl rfl rfl);(focus(first|exact PO_slice_str rfl (ST rfl) rfl rfl rfl (Int.natCast_nonneg _) (show(a:Int)≤(s.size:Int) by omega) (Int.le_refl _)|exact cl rfl rfl ENdr hdc rfl rfl rfl|exact mO));try exact kQ))
   refine sQ (fun h=> ?_) fun h=> ?_
   ·exact absurd (eq_of_beq h) h32
   clear h
   (try refine uD ?_)
   refine sQ (fun h=> ?_) fun h=> ?_
   ·exact absurd (eq_of_beq h) h9
   clear h
   (try refine uD ?_)
   refine sQ (fun h=> ?_) fun h=> ?_
   ·exact absurd (eq_of_beq h) h10
   clear h
   (repeat first|refine uE ?_|((first|apply oR rfl rfl|(apply dF rfl rfl rfl;intro _)|(apply dP rfl rfl rfl;intro _)|(apply dL rfl rfl rfl;intro _)|apply dC rfl rfl rfl rfl);(focus(first|exact cqP hlt2|exact mO));try exact kQ))
   refine sQ (fun h=> ?_) fun h=> ?_
   ·have hlb:letB z=true:=h
    rw[if_pos hlb]at hst
    clear h
    subst hst
    dsimp only at hgo
    have hwl:=whLet_pc (fromB s a)
    have hL1:1≤whileB (fun r=>letB r||digB r) (fromB s a) 0:=whileB_pos (by omega) (by show(letB ((Utf8.decode (fromB s a) 0).1:Nat)||digB _)=true;rw[←hz,hlb];rfl)
    have hL2:=whileB_le (fun r=>letB r||digB r) (fromB s a) 0
    rw[hrs]at hL2
    generalize whileB (fun r=>letB r||digB r) (fromB s a) 0=L at *
    (repeat first|refine uE ?_|((first|apply oR rfl rfl|(apply dF rfl rfl rfl;intro _)|(apply dP rfl rfl rfl;intro _)|(apply dL rfl rfl rfl;intro _)|apply dC rfl rfl rfl rfl);(focus(first|exact cqP hwl|exact PO_slice_str rfl (ST rfl) rfl rfl rfl (by decide) (Int.natCast_nonneg L) (show(L:Int)≤((fromB s a).size:Int) by omega)|exact aP (xs:=[(VTok.mk 1 (uptoB (fromB s a) L) 0 0 a).g]) rfl (EL rfl) (SZ rfl) (BY rfl) (ZR rfl) rfl rfl rfl rfl (by unfold VTok.gs;rw[List.length_map]) (fun x hx=>by rw[List.mem_singleton.1 hx];rfl) (by show(out.length+1) *_≤_;omega) (by show out.length+1≤maxLen;unfold maxLen;omega)|exact mO));try exact kQ))
    exact⟨(a+L,out++[⟨1,uptoB (fromB s a) L,0,0,a⟩],fuel),⟨hgo,by dsimp only;omega,by dsimp only;omega,by dsimp only;rw[List.length_append];show out.length+1≤_;omega⟩,by dsimp only;omega,SlotsOk.le ⟨.inl rfl, .inl rfl, .inl (by unfold VTok.gs;rw[List.map_append];rfl), .inl (congrArg (fun k=>PV.g (.int .i64 k)) (wadd (by omega))),trivial⟩,Drops.mk [[.g (.int .i64 1), .g (.str (uptoB (fromB s a) L)), .g (.int .i64 0), .g (.int .i64 0), .g (.int .i64 a)]] [] [] (by rw[List.length_append];rfl)⟩
   ·have hlb: ¬letB z=true:=by rw[show letB z=false from h];decide
    rw[if_neg hlb]at hst
    clear h
    (repeat first|refine uE ?_|((first|apply oR rfl rfl|(apply dF rfl rfl rfl;intro _)|(apply dP rfl rfl rfl;intro _)|(apply dL rfl rfl rfl;intro _)|apply dC rfl rfl rfl rfl);(focus(first|exact cqP hdg|exact mO));try exact kQ))
    refine sQ (fun h=> ?_) fun h=> ?_
    ·have hdb:digB z=true:=h
     rw[if_pos hdb]at hst
     clear h
     have hnm:=number_pc (s:=fromB s a) (by omega)
     have hdb0:digB ((Utf8.decode (fromB s a) 0).1:Nat)=true:=by rw[←hz];exact hdb
     have hL1:1≤numB (fromB s a):=Nat.le_trans (whileB_pos (by omega) hdb0) (numB_ge _)
     have hL2:=numB_le (fromB s a)
     have hps:=hpr (fromB s a) (by omega) hdb0 (by omega)
     rw[hrs]at hL2
     generalize numB (fromB s a)=L at *
     generalize pr (uptoB (fromB s a) L)=v at *
     obtain⟨c,e,err⟩:=v
     dsimp only at hps hst
     (repeat first|refine uE ?_|((first|apply oR rfl rfl|(apply dF rfl rfl rfl;intro _)|(apply dP rfl rfl rfl;intro _)|(apply dL rfl rfl rfl;intro _)|apply dC rfl rfl rfl rfl);(focus(first|exact cqP hnm|exact PO_slice_str rfl (ST rfl) rfl rfl rfl (by decide) (Int.natCast_nonneg L) (show(L:Int)≤((fromB s a).size:Int) by omega)|exact cqP hps|exact mO));try exact kQ))
     refine sQ (fun h=> ?_) fun h=> ?_
     ·have he:err≠0:=by simpa[bne]using h
      rw[if_pos he]at hst
      clear h
      subst hst
      dsimp only at hgo
      subst hgo
      (try refine uD ?_)
      refine Ret_boxp (vC vT (vC (vA (AG rfl) (SZ rfl) rfl rfl (lB rfl)) vN)) rfl rfl rfl rfl rfl rfl rfl rfl rfl ?_ ?_ ?_ rfl
      all_goals rfl
     ·have he: ¬err≠0:=by simpa[bne]using h
      rw[if_neg he]at hst
      clear h
      subst hst
      dsimp only at hgo
      (repeat first|refine uG ?_|((first|apply oR rfl rfl|(apply dF rfl rfl rfl;intro _)|(apply dP rfl rfl rfl;intro _)|(apply dL rfl rfl rfl;intro _)|apply dC rfl rfl rfl rfl);(focus(first|exact PO_slice_str rfl (ST rfl) rfl rfl rfl (by decide) (Int.natCast_nonneg L) (show(L:Int)≤((fromB s a).size:Int) by omega)|exact aP (xs:=[(VTok.mk 2 (uptoB (fromB s a) L) c e a).g]) rfl (EL rfl) (SZ rfl) (BY rfl) (ZR rfl) rfl rfl rfl rfl (by unfold VTok.gs;rw[List.length_map]) (fun x hx=>by rw[List.mem_singleton.1 hx];rfl) (by show(out.length+1) *_≤_;omega) (by show out.length+1≤maxLen;unfold maxLen;omega)|exact mO));try exact kQ)|refine xK false false [1,2,20002,30114] rfl mixed (by decide+kernel) ?_|refine xK false true [1,2,20002,30114] rfl mixed (by decide+kernel) ?_|refine xK true false [1,2,20002,30114] rfl mixed (by decide+kernel) ?_|refine xK true true [1,2,20002,30114] rfl mixed (by decide+kernel) ?_)
      exact⟨(a+L,out++[⟨2,uptoB (fromB s a) L,c,e,a⟩],fuel),⟨hgo,by dsimp only;omega,by dsimp only;omega,by dsimp only;rw[List.length_append];show out.length+1≤_;omega⟩,by dsimp only;omega,SlotsOk.le ⟨.inl rfl, .inl rfl, .inl (by unfold VTok.gs;rw[List.map_append];rfl), .inl (congrArg (fun k=>PV.g (.int .i64 k)) (wadd (by omega))),trivial⟩,Drops.mk [[.g (.int .i64 2), .g (.str (uptoB (fromB s a) L)), .g (.int .i64 c), .g (.int .i64 e), .g (.int .i64 a)],[.g (.int .i64 c), .g (.int .i64 e)]] [] [] (by rw[List.length_append];rfl)⟩
    ·have hdb: ¬digB z=true:=by rw[show digB z=false from h];decide
     rw[if_neg hdb]at hst
     clear h
     (try refine uD ?_)
     refine sQ (fun h=> ?_) fun h=> ?_
     ·have h34:z=34:=eq_of_beq h
      rw[if_pos h34]at hst
      clear h
      have hqu:=quoted_pc (s:=fromB s a) (by omega) (by omega)
      have hql:=(quotB_le (fromB (fromB s a) 1) 0 false []).1
      have hqb:=(quotB_le (fromB (fromB s a) 1) 0 false []).2
      rw[fromB_size,hrs]at hql hqb
      generalize quotB (fromB (fromB s a) 1) 0 false []=v at *
      obtain⟨txt,L,bad⟩:=v
      dsimp only at hqu hst hql hqb
      (repeat first|refine uE ?_|((first|apply oR rfl rfl|(apply dF rfl rfl rfl;intro _)|(apply dP rfl rfl rfl;intro _)|(apply dL rfl rfl rfl;intro _)|apply dC rfl rfl rfl rfl);(focus(first|exact cqP hqu|exact mO));try exact kQ))
      refine sQ (fun h=> ?_) fun h=> ?_
      ·have hL:L=0:=by have:=eq_of_beq h;omega
       rw[if_pos hL]at hst
       clear h
       subst hst
       dsimp only at hgo
       subst hgo
       (try refine uD ?_)
       refine Ret_boxp (vC vT (vC (vA (AG rfl) (SZ rfl) rfl rfl (lB rfl)) vN)) rfl rfl rfl rfl rfl rfl rfl rfl rfl ?_ ?_ ?_ rfl
       all_goals first|rfl|(refine congrArg (fun k=>PV.tuple [.g (.sl []), .g (.agg [.int .i64 2, .int .i64 k])]) ?_;exact wadd (by omega))
      ·have hL: ¬L=0:=by have:=ne_of_beq_false h;omega
       rw[if_neg hL]at hst
       clear h
       subst hst
       dsimp only at hgo
       (repeat first|refine uE ?_|((first|apply oR rfl rfl|(apply dF rfl rfl rfl;intro _)|(apply dP rfl rfl rfl;intro _)|(apply dL rfl rfl rfl;intro _)|apply dC rfl rfl rfl rfl);(focus(first|exact aP (xs:=[(VTok.mk 3 ⟨txt.toArray⟩ 0 0 a).g]) rfl (EL rfl) (SZ rfl) (BY rfl) (ZR rfl) rfl rfl rfl rfl (by unfold VTok.gs;rw[List.length_map]) (fun x hx=>by rw[List.mem_singleton.1 hx];rfl) (by show(out.length+1) *_≤_;omega) (by show out.length+1≤maxLen;unfold maxLen;omega)|exact mO));try exact kQ))
       exact⟨(a+L,out++[⟨3,⟨txt.toArray⟩,0,0,a⟩],fuel),⟨hgo,by dsimp only;omega,by dsimp only;omega,by dsimp only;rw[List.length_append];show out.length+1≤_;omega⟩,by dsimp only;omega,SlotsOk.le ⟨.inl rfl, .inl rfl, .inl (by unfold VTok.gs;rw[List.map_append];rfl), .inl (congrArg (fun k=>PV.g (.int .i64 k)) (wadd (by omega))),trivial⟩,Drops.mk [[.g (.int .i64 3), .g (.str ⟨txt.toArray⟩), .g (.int .i64 0), .g (.int .i64 0), .g (.int .i64 a)]] [] [] (by rw[List.length_append];rfl)⟩
     ·have h34: ¬z=34:=ne_of_beq_false h
      rw[if_neg h34]at hst
      clear h
      have hsg:=sign_pc' (s:=fromB s a) (by omega)
      have hpre:=signB_pre (fromB s a).data.toList signsB
      rw[show(fromB s a).data.toList.length=s.size-a by rw[Array.length_toList];exact hrs]at hpre
      generalize signB (fromB s a).data.toList signsB=W at *
      have hWs:(bstr W).size=W.length:=bstr_size W
      by_cases hW:W=[]
      ·have heq:((bstr W).toList==(⟨#[]⟩:ByteArray).toList)=true:=by rw[bstr_toList,hW,show(⟨#[]⟩:ByteArray).toList=[]from bstr_toList []];rfl
       rw[if_pos hW]at hst
       subst hst
       dsimp only at hgo
       subst hgo
       (repeat first|refine uE ?_|((first|apply oR rfl rfl|(apply dF rfl rfl rfl;intro _)|(apply dP rfl rfl rfl;intro _)|(apply dL rfl rfl rfl;intro _)|apply dC rfl rfl rfl rfl);(focus(first|exact cqP hsg|exact mO));try exact kQ))
       refine sQ (fun h=> ?_) fun h=> ?_
       ·clear h
        (try refine uD ?_)
        refine Ret_boxp (vC vT (vC (vA (AG rfl) (SZ rfl) rfl rfl (lB rfl)) vN)) rfl rfl rfl rfl rfl rfl rfl rfl rfl ?_ ?_ ?_ rfl
        all_goals rfl
       ·exact absurd (heq.symm.trans h) (by decide)
      ·have hne:=bstr_ne hW
       have hW1:1≤W.length:=by cases W with|nil=>exact absurd rfl hW|cons x r=>simp
       rw[if_neg hW]at hst
       subst hst
       dsimp only at hgo
       (repeat first|refine uE ?_|((first|apply oR rfl rfl|(apply dF rfl rfl rfl;intro _)|(apply dP rfl rfl rfl;intro _)|(apply dL rfl rfl rfl;intro _)|apply dC rfl rfl rfl rfl);(focus(first|exact cqP hsg|exact mO));try exact kQ))
       refine sQ (fun h=> ?_) fun h=> ?_
       ·exact absurd (h.symm.trans hne) (by decide)
       ·clear h
        (repeat first|refine uE ?_|((first|apply oR rfl rfl|(apply dF rfl rfl rfl;intro _)|(apply dP rfl rfl rfl;intro _)|(apply dL rfl rfl rfl;intro _)|apply dC rfl rfl rfl rfl);(focus(first|exact aP (xs:=[(VTok.mk 4 ⟨W.toArray⟩ 0 0 a).g]) rfl (EL rfl) (SZ rfl) (BY rfl) (ZR rfl) rfl rfl rfl rfl (by unfold VTok.gs;rw[List.length_map]) (fun x hx=>by rw[List.mem_singleton.1 hx];rfl) (by show(out.length+1) *_≤_;omega) (by show out.length+1≤maxLen;unfold maxLen;omega)|exact mO));try exact kQ))
        exact⟨(a+W.length,out++[⟨4,⟨W.toArray⟩,0,0,a⟩],fuel),⟨hgo,by dsimp only;omega,by dsimp only;omega,by dsimp only;rw[List.length_append];show out.length+1≤_;omega⟩,by dsimp only;omega,SlotsOk.le ⟨.inl rfl, .inl rfl, .inl (by unfold VTok.gs;rw[List.map_append];rfl), .inl (congrArg (fun k=>PV.g (.int .i64 k)) (wadd (by omega))),trivial⟩,Drops.mk [[.g (.int .i64 4), .g (.str ⟨W.toArray⟩), .g (.int .i64 0), .g (.int .i64 0), .g (.int .i64 a)]] [] [] (by rw[List.length_append];rfl)⟩
  ·have hge: ¬a<s.size:=by have:=of_decide_eq_false h;omega
   rw[if_neg hge]at hgo
   subst hgo
   clear h
   (try refine uD ?_)
   refine Ret_boxp (vC vT (vC (vA (AG rfl) (SZ rfl) rfl rfl (lB rfl)) vN)) rfl rfl rfl rfl rfl rfl rfl rfl rfl ?_ ?_ ?_ rfl
   all_goals rfl
def idxS(v:ByteArray):List ByteArray→Nat→Int
 |[],_=> -1
 |x::r,i=>if(v.toList==x.toList)=true then(i:Int)else idxS v r (i+1)
def strG(l:List ByteArray):List GV:=l.map GV.str
theorem index_pc(v:ByteArray){l:List ByteArray}(hl:l.length≤1000):PC Tryz.prog 24 [.g (.sl (strG l)), .g (.str v)] ⟨[],[],[]⟩ (.g (.int .i64 (idxS v l 0))) ⟨[],[],[]⟩:=by
 have hgl:(strG l).length=l.length:=by simp[strG]
 generalize hR:idxS v l 0=R
 refine eN Tryz.func24 ?_
 (try refine uN ?_)
 refine PW_loop (S:=Nat) (fun i=>slots [(0, .g (.sl (strG l))),(1, .g (.str v)),(7, .g (.int .i64 l.length)),(8, .g (.int .i64 i))]) (fun _=>⟨[],[],[]⟩) (fun i=>i≤l.length∧idxS v (l.drop i) i=R) (fun i=>l.length-i) 0 ⟨Nat.zero_le _,hR⟩
  (SlotsOk.le ⟨.inl rfl, .inl rfl, .inl (congrArg (fun k:Nat=>PV.g (.int .i64 k)) hgl), .inl rfl,trivial⟩) (HLe.of_eq rfl) (fun i hi=> ?_)
 obtain⟨hi,hgo⟩:=hi
 (try refine uN ?_)
 refine sQ (fun h=> ?_) fun h=> ?_
 ·have hlt:i<l.length:=by have:=of_decide_eq_true h;omega
  clear h
  have hg:(strG l)[((i:Int)).toNat]? =some (.str l[i]):=by rw[Int.toNat_natCast,strG,List.getElem?_map,List.getElem?_eq_getElem hlt];rfl
  rw[List.drop_eq_getElem_cons hlt,idxS]at hgo
  generalize l[i]=x at *
  (repeat first|refine uA ?_|(apply oR rfl rfl;focus(first|exact iA rfl (EL rfl) (SZ rfl) rfl rfl (Int.natCast_nonneg _) hg rfl|exact mO)))
  refine sQ (fun h=> ?_) fun h=> ?_
  ·rw[if_pos h]at hgo
   subst hgo
   (try refine uN ?_)
   refine rT ?_
   rfl
  ·rw[if_neg (by rw[show(v.toList==x.toList)=false from h];decide)]at hgo
   (try refine uN ?_)
   exact⟨i+1,⟨hlt,hgo⟩,by omega,SlotsOk.le ⟨.inl rfl, .inl rfl, .inl rfl, .inl (congrArg (fun k=>PV.g (.int .i64 k)) (i64w (by omega))),trivial⟩,HLe.of_eq rfl⟩
 ·have hi':i=l.length:=by have:=of_decide_eq_false h;omega
  subst hi'
  rw[List.drop_length,idxS]at hgo
  subst hgo
  clear h
  (try refine uN ?_)
  refine rT ?_
  rfl
theorem ENsx:enterB Tryz.prog 24=true:=by kernel_rfl
theorem ENsc:enterB Tryz.prog 13=true:=by kernel_rfl
def wordsS:List ByteArray:=[⟨#[110,117,108,108]⟩,⟨#[116,114,117,101]⟩,⟨#[102,97,108,115,101]⟩,⟨#[105,102]⟩,⟨#[116,104,101,110]⟩,⟨#[101,108,115,101]⟩,⟨#[102,111,114]⟩,⟨#[105,110]⟩,⟨#[114,101,116,117,114,110]⟩,⟨#[115,111,109,101]⟩,⟨#[101,118,101,114,121]⟩,⟨#[115,97,116,105,115,102,105,101,115]⟩,⟨#[97,110,100]⟩,⟨#[111,114]⟩]
theorem words_pc:PC Tryz.prog 14 [] ⟨[],[],[]⟩ (.g (.sl (strG wordsS))) ⟨[],[],[]⟩:=by
 refine eN Tryz.func14 ?_
 (try refine uN ?_)
 refine rT ?_
 rfl
theorem contains_words(v:ByteArray):PC Tryz.prog 13 [.g (.sl (strG wordsS)), .g (.str v)] ⟨[],[],[]⟩ (.g (.bool (decide (idxS v wordsS 0≥0)))) ⟨[],[],[]⟩:=by
 have h:=index_pc v (l:=wordsS) (by decide)
 generalize idxS v wordsS 0=R at *
 generalize strG wordsS=W at *
 refine eN Tryz.func13 ?_
 (repeat first|refine uA ?_|(apply oR rfl rfl;focus(first|exact cl rfl rfl ENsx h rfl rfl rfl|exact mO)))
 refine rT ?_
 rfl
def oneB(s:ByteArray):List VTok×Int×Int→Bool
 |([t],e,_)=>decide (e=0)&&decide (t.kind=1)&&(t.text.toList==s.toList)
 |_=>false
def nameB(pr:ByteArray→Int×Int×Int)(s:ByteArray):Bool:=
 if s.size<1∨40<s.size then false else if idxS s wordsS 0≥0 then false else oneB s (cutB rwB letB pr s)
theorem named_pc{pr:ByteArray→Int×Int×Int}(hpr: ∀t:ByteArray,0<t.size→digB (Utf8.decode t 0).1=true→t.size≤40→PC Tryz.prog 31 [.g (.str (uptoB t (numB t)))] ⟨[],[],[]⟩ (.tuple [.g (.agg [.int .i64 (pr (uptoB t (numB t))).1, .int .i64 (pr (uptoB t (numB t))).2.1]), .g (.int .i64 (pr (uptoB t (numB t))).2.2)]) ⟨[],[],[]⟩)
  (s:ByteArray):PC Tryz.prog 9 [.g (.str s)] ⟨[],[],[]⟩ (.g (.bool (nameB pr s))) ⟨[],[],[]⟩:=by
 have hW:=words_pc
 have hC:=contains_words s
 unfold nameB
 generalize strG wordsS=W at *
 generalize idxS s wordsS 0=K at *
 refine eN Tryz.func9 ?_
 (try refine uN ?_)
 refine sQ (fun h=> ?_) fun h=> ?_
 ·rw[if_pos (.inl (by have:=of_decide_eq_true h;omega))]
  (try refine uN ?_)
  refine rT ?_
  rfl
 have h1:=of_decide_eq_false h
 clear h
 (try refine uN ?_)
 refine sQ (fun h=> ?_) fun h=> ?_
 ·rw[if_pos (.inr (by have:=of_decide_eq_true h;omega))]
  (try refine uN ?_)
  refine rT ?_
  rfl
 have h2:=of_decide_eq_false h
 clear h
 have hT:=tokens_pc hpr (s:=s) (by omega)
 rw[if_neg (by omega)]
 (repeat first|refine uA ?_|(apply oR rfl rfl;focus(first|exact cqP hW|exact cl rfl rfl ENsc hC rfl rfl rfl|exact mO)))
 refine sQ (fun h=> ?_) fun h=> ?_
 ·rw[if_pos (of_decide_eq_true h)]
  (try refine uN ?_)
  refine rT ?_
  rfl
 rw[if_neg (of_decide_eq_false h)]
 clear h
 generalize cutB rwB letB pr s=R at *
 obtain⟨l,e,p⟩:=R
 dsimp only at hT
 match l with
 |[]=>
  (repeat first|refine uA ?_|(apply oR rfl rfl;focus(first|exact cqP hT|exact mO)))
  refine sQ (fun h=> ?_) fun h=> ?_
  ·(try refine uN ?_)
   refine rT ?_
   rfl
  ·(try refine uN ?_)
   refine rT ?_
   rfl
 |[t]=>
  obtain⟨tk,tx,tc,te,ta⟩:=t
  show PW _ _ _ _ _ _
  (repeat first|refine uA ?_|(apply oR rfl rfl;focus(first|exact cqP hT|exact mO)))
  refine sQ (fun h=> ?_) fun h=> ?_
  ·have he:e=0:=eq_of_beq h
   clear h
   (repeat first|refine uA ?_|(apply oR rfl rfl;focus(first|exact iA (g:=((VTok.mk tk tx tc te ta)).g) rfl (EL rfl) (SZ rfl) rfl rfl (by decide) rfl rfl|exact mO)))
   refine sQ (fun h=> ?_) fun h=> ?_
   ·have hk:tk=1:=eq_of_beq h
    clear h
    (repeat first|refine uA ?_|(apply oR rfl rfl;focus(first|exact iA (g:=((VTok.mk tk tx tc te ta)).g) rfl (EL rfl) (SZ rfl) rfl rfl (by decide) rfl rfl|exact mO)))
    refine rT ?_
    simp[oneB,he,hk]
   ·have hk: ¬tk=1:=ne_of_beq_false h
    clear h
    (try refine uN ?_)
    refine rT ?_
    simp[oneB,hk]
  ·have he: ¬e=0:=ne_of_beq_false h
   clear h
   (try refine uN ?_)
   refine rT ?_
   simp[oneB,he]
 |t::t'::r=>
  have hgl:(VTok.gs (t::t'::r)).length=r.length+2:=by simp[VTok.gs]
  generalize VTok.gs (t::t'::r)=gs at *
  (repeat first|refine uA ?_|(apply oR rfl rfl;focus(first|exact cqP hT|exact mO)))
  refine sQ (fun h=> ?_) fun h=> ?_
  ·clear h
   (try refine uN ?_)
   refine sQ (fun h=> ?_) fun h=> ?_
   ·exfalso
    have:=eq_of_beq h
    omega
   ·clear h
    (try refine uN ?_)
    refine rT ?_
    rfl
  ·(try refine uN ?_)
   refine rT ?_
   rfl
end Go.Proofs.YtdoenpeadkoklaaGreatFmtBesafter