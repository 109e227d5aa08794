/- What the program's functions compute, each shown once; and plain laws of it. -/
import Derived.Test.YtdoenpeadkoklaaGreatFmtBesafterOwnR
import Derived.Test.YtdoenpeadkoklaaGreatFmtBesafterOwnF
import Derived.Test.YtdoenpeadkoklaaGreatFmtBesafterPureC
set_option maxRecDepth 100000
set_option maxHeartbeats 32000000
namespace Go.Proofs.YtdoenpeadkoklaaGreatFmtBesafter
open Go Go.Pure
attribute [local irreducible] PW POps POpsD PO PC Cond
inductive ZS where
 |no
 |one (g:Nat) (W:List Nat)
 |two (k g c:Nat) (W:List Nat)
def zP(n:Nat):ZS→PV
 | .no=> .nils
 | .one g _=> .vw 0 g 0 n 1
 | .two _ g c _=> .vw 1 g 0 n c
def zM:ZS→List MO
 | .no=>[]
 | .one g W=>[AR g W]
 | .two k g _ W=>[.gone k,AR g W]
def zI(X:Nat):ZS→Prop
 | .no=>X=0
 | .one _ W=>X≠0∧ZOk W 1 X
 | .two _ _ c W=>X≠0∧ZOk W c X∧6≤c
def errP(l:List UInt8)(j:Nat):PV:=if j<l.length then .g (.raw .nilIface)else .kv 4 0
def chN(l:List UInt8)(j:Nat):Nat:=match l[j]? with|some c=>c.toNat|none=>0
def idxN(l:List UInt8)(j:Nat):Nat:=if j<l.length then j+1 else l.length
theorem errP_lt{l:List UInt8}{j:Nat}(h:j<l.length):errP l j= .g (.raw .nilIface):=if_pos h
theorem errP_ge{l:List UInt8}{j:Nat}(h:l.length≤j):errP l j= .kv 4 0:=if_neg (by omega)
theorem idxN_lt{l:List UInt8}{j:Nat}(h:j<l.length):idxN l j=j+1:=if_pos h
theorem idxN_ge{l:List UInt8}{j:Nat}(h:l.length≤j):idxN l j=l.length:=if_neg (by omega)
theorem chN_at{l:List UInt8}{j:Nat}{c:UInt8}(h:l[j]? =some c):chN l j=c.toNat:=by simp[chN,h]
theorem chN_ge{l:List UInt8}{j:Nat}(h:l.length≤j):chN l j=0:=by simp[chN,List.getElem?_eq_none h]
def prN:Nat→Int
 |0=>46
 |_+1=>48
theorem one_len{W:List Nat}{X:Nat}(h:X≠0)(hz:ZOk W 1 X):(dig X).length=1:=by
 have h1:=dig_len_pos h
 rw[wsG_length]at h1
 have:=hz.le
 omega
theorem inf_at{P:Program}{t:TypeId}(h:(P.info? t).isSome=true):P.info? t=some ((P.info? t).get h):=(Option.some_get h).symm
theorem infT:(Tryz.prog.info? 375).isSome=true:=by kernel_rfl
theorem infE:(Tryz.prog.info? 393).isSome=true:=by kernel_rfl
theorem cmpT:((Tryz.prog.info? 375).get infT).comparable=true:=by kernel_rfl
theorem scan_pc{l:List UInt8}(hd: ∀c∈l,isDig c)(h1:1≤l.length)(hl:l.length≤40):PC Tryz.prog 118 [.nils, .ifc 136 (.ptr 0 0), .g (.int .i64 10), .g (.bool false)] ⟨[[.g (.str (bstr l)), .g (.int .i64 0), .g (.int .i64 (-1))]],[],[]⟩
  (.tuple [.g (.sl (wsG (dig (dval l)))), .g (.int .i64 10), .g (.int .i64 l.length), .g (.raw .nilIface)]) ⟨[[.g (.str (bstr l)), .g (.int .i64 l.length), .g (.int .i64 (-1))]],[],[]⟩:=by
 have hlen:(bstr l).size=l.length:=bstr_size l
 have hc0:l[0]? =some (l[0]'(by omega)):=List.getElem?_eq_getElem (by omega)
 have hr0:=readByte_pc (s:=bstr l) (i:=0) (p:= -1) (c:=l[0]'(by omega)) (bstr_get hc0) (by omega)
 have hn0:=chN_at hc0
 generalize l[0]'(by omega)=c0 at *
 rw[←hn0]at hr0
 have hr0:PC Tryz.prog 314 [.ptr 0 0] ⟨[[.g (.str (bstr l)), .g (.int .i64 0), .g (.int .i64 (-1))]],[],[]⟩ (.tuple [.g (.int .u8 (chN l 0)), .g (.raw .nilIface)]) ⟨[[.g (.str (bstr l)), .g (.int .i64 (0+1:Nat)), .g (.int .i64 (-1))]],[],[]⟩:=hr0
 refine eN Tryz.func118 ?_
 (repeat first|refine uA ?_|(apply oR rfl rfl;focus(first|exact inv_box [] rfl rfl MTrb ENrb hr0 rfl rfl rfl rfl rfl rfl rfl rfl rfl rfl rfl|exact cqP maxPow_10|exact PO_nslice rfl (EL rfl) (SZ rfl) rfl rfl rfl rfl rfl|exact mO)))
 refine PW_loop (S:=Nat×Nat×Nat×Nat×ZS) (fun s=>slots [(0,zP (dig s.2.2.2.1).length s.2.2.2.2),(1, .ifc 136 (.ptr 0 0)),(2, .g (.int .i64 10)),(3, .g (.bool false)),(9, .g (.int .i64 10)),(10, .g (.int .i64 s.1)),(11,errP l s.1),(13, .g (.int .i32 (prN s.1))),(14, .g (.bool false)),(15, .g (.int .u8 (chN l s.1))),(17, .g (.int .u64 10)),(18, .g (.int .u64 10000000000000000000)),(19, .g (.int .i64 19)),(20, .g (.int .u64 s.2.2.1)),(21, .g (.int .i64 s.2.1)),(22, .g (.int .i64 (-1)))])
  (fun s=>⟨[[.g (.str (bstr l)), .g (.int .i64 (idxN l s.1)), .g (.int .i64 (-1))]],[],zM s.2.2.2.2⟩)
  (fun s=>s.1≤l.length∧s.2.1<19∧s.2.2.2.1 *10^s.2.1+s.2.2.1=dval (l.take s.1)∧s.2.2.1<10^s.2.1∧zI s.2.2.2.1 s.2.2.2.2) (fun s=>l.length-s.1) (0,0,0,0, .no) ⟨Nat.zero_le _,by decide,rfl,by decide,rfl⟩
  (SlotsOk.le ⟨.inl rfl, .inl rfl, .inl rfl, .inl rfl, .inl rfl, .inl rfl, .inl (errP_lt (by omega)).symm, .inl rfl, .inl rfl, .inl rfl, .inl rfl, .inl rfl, .inl rfl, .inl rfl, .inl rfl, .inl rfl,trivial⟩) (HLe.of_eq (by rw[idxN_lt (by omega)];rfl)) (fun s hs=> ?_)
 obtain⟨j,i,di,X,zs⟩:=s
 obtain⟨hj,hi,hD,hdi,hz⟩:=hs
 dsimp only at hj hi hD hdi hz
 dsimp only
 rcases Nat.lt_or_ge j l.length with hlt|hge
 ·have hcj:l[j]? =some (l[j]'hlt):=List.getElem?_eq_getElem hlt
  have hcd:=hd _ (List.mem_of_getElem? hcj)
  have hDj:=dval_take hcj
  have hch:=chN_at hcj
  generalize l[j]'hlt=c at *
  rw[errP_lt hlt,hch,idxN_lt hlt]
  clear hc0 hr0 hn0
  obtain⟨d,hx,hd10⟩: ∃d:Nat,c.toNat=48+d∧d<10:=⟨c.toNat-48,by unfold isDig at hcd;omega,by unfold isDig at hcd;omega⟩
  rw[hx,Nat.add_sub_cancel_left]at hDj
  have hlim:di *10+d<10^(i+1):=dgrp_lt hdi hd10
  have hword:=pow10_word (i:=i+1) (by omega)
  have hWB:WB=18446744073709551616:=rfl
  have hraw:IntKind.u64.wrap (IntKind.u8.wrap ((c.toNat:Int)-48))=(d:Int):=by rw[hx];simp[IntKind.wrap,IntKind.bits,IntKind.signed];omega
  have hmul:IntKind.u64.wrap (IntKind.u64.wrap ((di:Int) *10)+IntKind.u64.wrap (IntKind.u8.wrap ((c.toNat:Int)-48)))=((di *10+d:Nat):Int):=by rw[hraw];simp[IntKind.wrap,IntKind.bits,IntKind.signed];omega
  have hi1:IntKind.i64.wrap ((i:Int)+1)=((i+1:Nat):Int):=by rw[w64 (by omega)];omega
  have hj1:IntKind.i64.wrap ((j:Int)+1)=((j+1:Nat):Int):=by rw[w64 (by omega)];omega
  have hgrp:=dgrp (d:=d) hD
  rw[←hDj]at hgrp
  have e46:((c.toNat:Int)==46)=false:=beq_eq_false_iff_ne.2 (by omega)
  have e95:((c.toNat:Int)==95)=false:=beq_eq_false_iff_ne.2 (by omega)
  have e48:(48:Int)≤(c.toNat:Int):=by omega
  have e57:(c.toNat:Int)≤57:=by omega
  have e10: ¬IntKind.u64.wrap (IntKind.u8.wrap ((c.toNat:Int)-48))≥10:=by rw[hraw];omega
  generalize hX0:(c.toNat:Int)=x at *
  obtain⟨di',hdi'⟩: ∃n,n=di *10+d:=⟨_,rfl⟩
  rw[←hdi']at hmul hgrp hlim
  have hXl:(dig X).length≤3:=dig_three (Nat.lt_of_lt_of_le (dgrp_le hD (dval_lt j l hd hj)) (pow10_le (by omega)))
  rcases Nat.lt_or_ge (j+1) l.length with hn1|hn1
  ·have hc':l[j+1]? =some (l[j+1]'hn1):=List.getElem?_eq_getElem hn1
   have hrd:PC Tryz.prog 314 [.ptr 0 0] ⟨[[.g (.str (bstr l)), .g (.int .i64 (j+1:Nat)), .g (.int .i64 (-1))]],[],[]⟩ (.tuple [.g (.int .u8 (chN l (j+1))), .g (.raw .nilIface)]) ⟨[[.g (.str (bstr l)), .g (.int .i64 (idxN l (j+1))), .g (.int .i64 (-1))]],[],[]⟩:=by
    rw[chN_at hc',idxN_lt hn1]
    exact readByte_pc (bstr_get hc') (by omega)
   have herr:PV.g (.raw .nilIface)=errP l (j+1):=(errP_lt hn1).symm
   clear hc'
   cases zs with
   |no=>
    (repeat first|refine uA ?_|(apply oR rfl rfl;focus(first|exact PO_inil rfl Tryz.underlying121 (.inl rfl) NilI.nil rfl|exact mO)))
    refine sQ (fun h=> ?_) fun h=> ?_
    ·exact absurd (h.symm.trans e46) (by decide)
    clear h
    (repeat first|refine uA ?_|(apply oR rfl rfl;focus(first|exact PO_inil rfl Tryz.underlying121 (.inl rfl) NilI.nil rfl|exact mO)))
    refine sQ (fun h=> ?_) fun h=> ?_
    ·exact absurd (h.symm.trans e95) (by decide)
    clear h
    (repeat first|refine uA ?_|(apply oR rfl rfl;focus(first|exact PO_inil rfl Tryz.underlying121 (.inl rfl) NilI.nil rfl|exact mO)))
    refine sQ (fun h=> ?_) fun h=> ?_
    ·clear h
     (repeat first|refine uA ?_|(apply oR rfl rfl;focus(first|exact PO_inil rfl Tryz.underlying121 (.inl rfl) NilI.nil rfl|exact mO)))
     refine sQ (fun h=> ?_) fun h=> ?_
     ·clear h
      (repeat first|refine uA ?_|(apply oR rfl rfl;focus(first|exact PO_inil rfl Tryz.underlying121 (.inl rfl) NilI.nil rfl|exact mO)))
      refine sQ (fun h=> ?_) fun h=> ?_
      ·exact absurd (of_decide_eq_true h) e10
      clear h
      (repeat first|refine uA ?_|(apply oR rfl rfl;focus(first|exact PO_inil rfl Tryz.underlying121 (.inl rfl) NilI.nil rfl|exact mO)))
      refine sQ (fun h=> ?_) fun h=> ?_
      ·have hi19:i+1=19:=by have h2:=eq_of_beq h;omega
       clear h
       rw[hi19]at hgrp
       have hgrp:X *10000000000000000000+di'=dval (l.take (j+1)):=hgrp
       have hdw:di'<WB:=Nat.lt_trans hlim hword
       have hz0:X=0:=hz
       subst hz0
       by_cases hd0:di'=0
       ·have hm:PC Tryz.prog 133 [.nils, .nils, .g (.int .u64 10000000000000000000), .g (.int .u64 (IntKind.u64.wrap (IntKind.u64.wrap ((di:Int) *10)+IntKind.u64.wrap (IntKind.u8.wrap (x-48)))))] ⟨[],[],[]⟩ .nils ⟨[],[],[]⟩:=by rw[hmul,hd0];exact macWW_nils0
        (repeat first|refine uA ?_|(apply oR rfl rfl;focus(first|exact inv_box [] rfl rfl MTrb ENrb hrd rfl rfl rfl rfl rfl rfl rfl rfl rfl rfl rfl|exact cd [true,true] rfl rfl (EN rfl) (hm) rfl rfl rfl rfl rfl rfl rfl rfl rfl rfl rfl|exact mO)))
        exact⟨(j+1,0,0,0, .no),⟨by dsimp only;omega,by dsimp only;omega,by dsimp only;rw[Nat.pow_zero,Nat.mul_one,Nat.add_zero];exact(by rw[hd0]at hgrp;simpa using hgrp),by dsimp only;decide,rfl⟩,by dsimp only;omega,SlotsOk.le ⟨.inl rfl, .inl rfl, .inl rfl, .inl rfl, .inl rfl, .inl (congrArg (fun k=>PV.g (.int .i64 k)) hj1), .inl herr, .inl rfl, .inl rfl, .inl rfl, .inl rfl, .inl rfl, .inl rfl, .inl rfl, .inl rfl, .inl rfl,trivial⟩,HLe.of_eq rfl⟩
       ·have hm:PC Tryz.prog 133 [.nils, .nils, .g (.int .u64 10000000000000000000), .g (.int .u64 (IntKind.u64.wrap (IntKind.u64.wrap ((di:Int) *10)+IntKind.u64.wrap (IntKind.u8.wrap (x-48)))))] ⟨[],[],[]⟩ (.vw 0 0 0 1 1) ⟨[],[],[AR 0 [di']]⟩:=by rw[hmul];exact macWW_nils hd0
        have hln:(dig di').length=1:=by rw[dig_one hd0 hdw];rfl
        rw[Nat.zero_mul,Nat.zero_add]at hgrp
        (repeat first|refine uA ?_|(apply oR rfl rfl;focus(first|exact inv_box [] rfl rfl MTrb ENrb hrd rfl rfl rfl rfl rfl rfl rfl rfl rfl rfl rfl|exact cd [true,true] rfl rfl (EN rfl) (hm) rfl rfl rfl rfl rfl rfl rfl rfl rfl rfl rfl|exact mO)))
        exact⟨(j+1,0,0,di', .one 0 [di']),⟨by dsimp only;omega,by dsimp only;omega,by dsimp only;rw[Nat.pow_zero,Nat.mul_one,Nat.add_zero];exact hgrp,by dsimp only;decide,⟨hd0,ZOk.word hd0 hdw⟩⟩,by dsimp only;omega,SlotsOk.le ⟨.inl (congrArg (fun n=>PV.vw 0 0 0 n 1) hln.symm), .inl rfl, .inl rfl, .inl rfl, .inl rfl, .inl (congrArg (fun k=>PV.g (.int .i64 k)) hj1), .inl herr, .inl rfl, .inl rfl, .inl rfl, .inl rfl, .inl rfl, .inl rfl, .inl rfl, .inl rfl, .inl rfl,trivial⟩,HLe.of_eq rfl⟩
      ·have hi19: ¬i+1=19:=by have h2:=ne_of_beq_false h;omega
       clear h
       (repeat first|refine uA ?_|(apply oR rfl rfl;focus(first|exact inv_box [] rfl rfl MTrb ENrb hrd rfl rfl rfl rfl rfl rfl rfl rfl rfl rfl rfl|exact PO_nslice rfl (EL rfl) (SZ rfl) rfl rfl rfl rfl rfl|exact mO)))
       exact⟨(j+1,i+1,di',X, .no),⟨by dsimp only;omega,by dsimp only;omega,hgrp,hlim,hz⟩,by dsimp only;omega,SlotsOk.le ⟨.inl rfl, .inl rfl, .inl rfl, .inl rfl, .inl rfl, .inl (congrArg (fun k=>PV.g (.int .i64 k)) hj1), .inl herr, .inl rfl, .inl rfl, .inl rfl, .inl rfl, .inl rfl, .inl rfl, .inl (congrArg (fun k=>PV.g (.int .u64 k)) hmul), .inl (congrArg (fun k=>PV.g (.int .i64 k)) hi1), .inl rfl,trivial⟩,HLe.of_eq rfl⟩
     ·exact absurd e57 (of_decide_eq_false h)
    ·exact absurd e48 (of_decide_eq_false h)
   |one g W=>
    (repeat first|refine uA ?_|(apply oR rfl rfl;focus(first|exact PO_inil rfl Tryz.underlying121 (.inl rfl) NilI.nil rfl|exact mO)))
    refine sQ (fun h=> ?_) fun h=> ?_
    ·exact absurd (h.symm.trans e46) (by decide)
    clear h
    (repeat first|refine uA ?_|(apply oR rfl rfl;focus(first|exact PO_inil rfl Tryz.underlying121 (.inl rfl) NilI.nil rfl|exact mO)))
    refine sQ (fun h=> ?_) fun h=> ?_
    ·exact absurd (h.symm.trans e95) (by decide)
    clear h
    (repeat first|refine uA ?_|(apply oR rfl rfl;focus(first|exact PO_inil rfl Tryz.underlying121 (.inl rfl) NilI.nil rfl|exact mO)))
    refine sQ (fun h=> ?_) fun h=> ?_
    ·clear h
     (repeat first|refine uA ?_|(apply oR rfl rfl;focus(first|exact PO_inil rfl Tryz.underlying121 (.inl rfl) NilI.nil rfl|exact mO)))
     refine sQ (fun h=> ?_) fun h=> ?_
     ·clear h
      (repeat first|refine uA ?_|(apply oR rfl rfl;focus(first|exact PO_inil rfl Tryz.underlying121 (.inl rfl) NilI.nil rfl|exact mO)))
      refine sQ (fun h=> ?_) fun h=> ?_
      ·exact absurd (of_decide_eq_true h) e10
      clear h
      (repeat first|refine uA ?_|(apply oR rfl rfl;focus(first|exact PO_inil rfl Tryz.underlying121 (.inl rfl) NilI.nil rfl|exact mO)))
      refine sQ (fun h=> ?_) fun h=> ?_
      ·have hi19:i+1=19:=by have h2:=eq_of_beq h;omega
       clear h
       rw[hi19]at hgrp
       have hgrp:X *10000000000000000000+di'=dval (l.take (j+1)):=hgrp
       have hdw:di'<WB:=Nat.lt_trans hlim hword
       obtain⟨hX0,hZ⟩:=hz
       obtain⟨W',hW',hm⟩:=macWW_out (g:=g) (y:=10000000000000000000) (r:=di') hZ hX0 (by omega) (by rw[one_len hX0 hZ];decide) (by decide) (by decide) hdw
       have hm:PC Tryz.prog 133 [.vw 0 g 0 (dig X).length 1, .vw 0 g 0 (dig X).length 1, .g (.int .u64 10000000000000000000), .g (.int .u64 (IntKind.u64.wrap (IntKind.u64.wrap ((di:Int) *10)+IntKind.u64.wrap (IntKind.u8.wrap (x-48)))))] ⟨[],[],[AR g W]⟩ (.vw 1 0 0 (dig (X *10000000000000000000+di')).length ((dig X).length+1+4)) ⟨[],[],[.gone (g+1),AR 0 W']⟩:=by rw[hmul];exact hm
       have hX1:X *10000000000000000000+di'≠0:=by omega
       have h6:6≤(dig X).length+1+4:=by rw[one_len hX0 hZ];decide
       generalize X *10000000000000000000+di'=X1 at *
       generalize(dig X).length+1+4=cc at *
       generalize hdl:(dig X).length=nX at *
       (repeat first|refine uA ?_|(apply oR rfl rfl;focus(first|exact inv_box [] rfl rfl MTrb ENrb hrd rfl rfl rfl rfl rfl rfl rfl rfl rfl rfl rfl|exact cd [] rfl rfl (EN rfl) (hm) rfl rfl rfl rfl rfl rfl rfl rfl rfl rfl rfl|exact mO)))
       exact⟨(j+1,0,0,X1, .two (g+1) 0 cc W'),⟨by dsimp only;omega,by dsimp only;omega,by dsimp only;rw[Nat.pow_zero,Nat.mul_one,Nat.add_zero];exact hgrp,by dsimp only;decide,⟨hX1,hW',h6⟩⟩,by dsimp only;omega,SlotsOk.le ⟨.inl rfl, .inl rfl, .inl rfl, .inl rfl, .inl rfl, .inl (congrArg (fun k=>PV.g (.int .i64 k)) hj1), .inl herr, .inl rfl, .inl rfl, .inl rfl, .inl rfl, .inl rfl, .inl rfl, .inl rfl, .inl rfl, .inl rfl,trivial⟩,HLe.of_eq rfl⟩
      ·have hi19: ¬i+1=19:=by have h2:=ne_of_beq_false h;omega
       clear h
       (repeat first|refine uA ?_|(apply oR rfl rfl;focus(first|exact inv_box [] rfl rfl MTrb ENrb hrd rfl rfl rfl rfl rfl rfl rfl rfl rfl rfl rfl|exact PO_nslice rfl (EL rfl) (SZ rfl) rfl rfl rfl rfl rfl|exact mO)))
       exact⟨(j+1,i+1,di',X, .one g W),⟨by dsimp only;omega,by dsimp only;omega,hgrp,hlim,hz⟩,by dsimp only;omega,SlotsOk.le ⟨.inl rfl, .inl rfl, .inl rfl, .inl rfl, .inl rfl, .inl (congrArg (fun k=>PV.g (.int .i64 k)) hj1), .inl herr, .inl rfl, .inl rfl, .inl rfl, .inl rfl, .inl rfl, .inl rfl, .inl (congrArg (fun k=>PV.g (.int .u64 k)) hmul), .inl (congrArg (fun k=>PV.g (.int .i64 k)) hi1), .inl rfl,trivial⟩,HLe.of_eq rfl⟩
     ·exact absurd e57 (of_decide_eq_false h)
    ·exact absurd e48 (of_decide_eq_false h)
   |two k g c W=>
    (repeat first|refine uA ?_|(apply oR rfl rfl;focus(first|exact PO_inil rfl Tryz.underlying121 (.inl rfl) NilI.nil rfl|exact mO)))
    refine sQ (fun h=> ?_) fun h=> ?_
    ·exact absurd (h.symm.trans e46) (by decide)
    clear h
    (repeat first|refine uA ?_|(apply oR rfl rfl;focus(first|exact PO_inil rfl Tryz.underlying121 (.inl rfl) NilI.nil rfl|exact mO)))
    refine sQ (fun h=> ?_) fun h=> ?_
    ·exact absurd (h.symm.trans e95) (by decide)
    clear h
    (repeat first|refine uA ?_|(apply oR rfl rfl;focus(first|exact PO_inil rfl Tryz.underlying121 (.inl rfl) NilI.nil rfl|exact mO)))
    refine sQ (fun h=> ?_) fun h=> ?_
    ·clear h
     (repeat first|refine uA ?_|(apply oR rfl rfl;focus(first|exact PO_inil rfl Tryz.underlying121 (.inl rfl) NilI.nil rfl|exact mO)))
     refine sQ (fun h=> ?_) fun h=> ?_
     ·clear h
      (repeat first|refine uA ?_|(apply oR rfl rfl;focus(first|exact PO_inil rfl Tryz.underlying121 (.inl rfl) NilI.nil rfl|exact mO)))
      refine sQ (fun h=> ?_) fun h=> ?_
      ·exact absurd (of_decide_eq_true h) e10
      clear h
      (repeat first|refine uA ?_|(apply oR rfl rfl;focus(first|exact PO_inil rfl Tryz.underlying121 (.inl rfl) NilI.nil rfl|exact mO)))
      refine sQ (fun h=> ?_) fun h=> ?_
      ·have hi19:i+1=19:=by have h2:=eq_of_beq h;omega
       clear h
       rw[hi19]at hgrp
       have hgrp:X *10000000000000000000+di'=dval (l.take (j+1)):=hgrp
       have hdw:di'<WB:=Nat.lt_trans hlim hword
       obtain⟨hX0,hZ,h6⟩:=hz
       obtain⟨W',hW',hm⟩:=macWW_in (g:=g) (y:=10000000000000000000) (r:=di') hZ hX0 (by omega) (by decide) (by decide) hdw
       have hm:PC Tryz.prog 133 [.vw 0 g 0 (dig X).length c, .vw 0 g 0 (dig X).length c, .g (.int .u64 10000000000000000000), .g (.int .u64 (IntKind.u64.wrap (IntKind.u64.wrap ((di:Int) *10)+IntKind.u64.wrap (IntKind.u8.wrap (x-48)))))] ⟨[],[],[AR g W]⟩ (.vw 0 g 0 (dig (X *10000000000000000000+di')).length c) ⟨[],[],[AR g W']⟩:=by rw[hmul];exact hm
       have hX1:X *10000000000000000000+di'≠0:=by omega
       generalize X *10000000000000000000+di'=X1 at *
       generalize hdl:(dig X).length=nX at *
       (repeat first|refine uA ?_|(apply oR rfl rfl;focus(first|exact inv_box [] rfl rfl MTrb ENrb hrd rfl rfl rfl rfl rfl rfl rfl rfl rfl rfl rfl|exact cd [] rfl rfl (EN rfl) (hm) rfl rfl rfl rfl rfl rfl rfl rfl rfl rfl rfl|exact mO)))
       exact⟨(j+1,0,0,X1, .two k g c W'),⟨by dsimp only;omega,by dsimp only;omega,by dsimp only;rw[Nat.pow_zero,Nat.mul_one,Nat.add_zero];exact hgrp,by dsimp only;decide,⟨hX1,hW',h6⟩⟩,by dsimp only;omega,SlotsOk.le ⟨.inl rfl, .inl rfl, .inl rfl, .inl rfl, .inl rfl, .inl (congrArg (fun k=>PV.g (.int .i64 k)) hj1), .inl herr, .inl rfl, .inl rfl, .inl rfl, .inl rfl, .inl rfl, .inl rfl, .inl rfl, .inl rfl, .inl rfl,trivial⟩,HLe.of_eq rfl⟩
      ·have hi19: ¬i+1=19:=by have h2:=ne_of_beq_false h;omega
       clear h
       (repeat first|refine uA ?_|(apply oR rfl rfl;focus(first|exact inv_box [] rfl rfl MTrb ENrb hrd rfl rfl rfl rfl rfl rfl rfl rfl rfl rfl rfl|exact PO_nslice rfl (EL rfl) (SZ rfl) rfl rfl rfl rfl rfl|exact mO)))
       exact⟨(j+1,i+1,di',X, .two k g c W),⟨by dsimp only;omega,by dsimp only;omega,hgrp,hlim,hz⟩,by dsimp only;omega,SlotsOk.le ⟨.inl rfl, .inl rfl, .inl rfl, .inl rfl, .inl rfl, .inl (congrArg (fun k=>PV.g (.int .i64 k)) hj1), .inl herr, .inl rfl, .inl rfl, .inl rfl, .inl rfl, .inl rfl, .inl rfl, .inl (congrArg (fun k=>PV.g (.int .u64 k)) hmul), .inl (congrArg (fun k=>PV.g (.int .i64 k)) hi1), .inl rfl,trivial⟩,HLe.of_eq rfl⟩
     ·exact absurd e57 (of_decide_eq_false h)
    ·exact absurd e48 (of_decide_eq_false h)
  ·have hrd:PC Tryz.prog 314 [.ptr 0 0] ⟨[[.g (.str (bstr l)), .g (.int .i64 (j+1:Nat)), .g (.int .i64 (-1))]],[],[]⟩ (.tuple [.g (.int .u8 (chN l (j+1))), .kv 4 0]) ⟨[[.g (.str (bstr l)), .g (.int .i64 (idxN l (j+1))), .g (.int .i64 (-1))]],[],[]⟩:=by
    rw[chN_ge hn1,idxN_ge hn1,show j+1=l.length by omega]
    exact readEnd_pc (by omega)
   have herr:PV.kv 4 0=errP l (j+1):=(errP_ge hn1).symm
   cases zs with
   |no=>
    (repeat first|refine uA ?_|(apply oR rfl rfl;focus(first|exact PO_inil rfl Tryz.underlying121 (.inl rfl) NilI.nil rfl|exact mO)))
    refine sQ (fun h=> ?_) fun h=> ?_
    ·exact absurd (h.symm.trans e46) (by decide)
    clear h
    (repeat first|refine uA ?_|(apply oR rfl rfl;focus(first|exact PO_inil rfl Tryz.underlying121 (.inl rfl) NilI.nil rfl|exact mO)))
    refine sQ (fun h=> ?_) fun h=> ?_
    ·exact absurd (h.symm.trans e95) (by decide)
    clear h
    (repeat first|refine uA ?_|(apply oR rfl rfl;focus(first|exact PO_inil rfl Tryz.underlying121 (.inl rfl) NilI.nil rfl|exact mO)))
    refine sQ (fun h=> ?_) fun h=> ?_
    ·clear h
     (repeat first|refine uA ?_|(apply oR rfl rfl;focus(first|exact PO_inil rfl Tryz.underlying121 (.inl rfl) NilI.nil rfl|exact mO)))
     refine sQ (fun h=> ?_) fun h=> ?_
     ·clear h
      (repeat first|refine uA ?_|(apply oR rfl rfl;focus(first|exact PO_inil rfl Tryz.underlying121 (.inl rfl) NilI.nil rfl|exact mO)))
      refine sQ (fun h=> ?_) fun h=> ?_
      ·exact absurd (of_decide_eq_true h) e10
      clear h
      (repeat first|refine uA ?_|(apply oR rfl rfl;focus(first|exact PO_inil rfl Tryz.underlying121 (.inl rfl) NilI.nil rfl|exact mO)))
      refine sQ (fun h=> ?_) fun h=> ?_
      ·have hi19:i+1=19:=by have h2:=eq_of_beq h;omega
       clear h
       rw[hi19]at hgrp
       have hgrp:X *10000000000000000000+di'=dval (l.take (j+1)):=hgrp
       have hdw:di'<WB:=Nat.lt_trans hlim hword
       have hz0:X=0:=hz
       subst hz0
       by_cases hd0:di'=0
       ·have hm:PC Tryz.prog 133 [.nils, .nils, .g (.int .u64 10000000000000000000), .g (.int .u64 (IntKind.u64.wrap (IntKind.u64.wrap ((di:Int) *10)+IntKind.u64.wrap (IntKind.u8.wrap (x-48)))))] ⟨[],[],[]⟩ .nils ⟨[],[],[]⟩:=by rw[hmul,hd0];exact macWW_nils0
        (repeat first|refine uA ?_|(apply oR rfl rfl;focus(first|exact inv_box [] rfl rfl MTrb ENrb hrd rfl rfl rfl rfl rfl rfl rfl rfl rfl rfl rfl|exact cd [true,true] rfl rfl (EN rfl) (hm) rfl rfl rfl rfl rfl rfl rfl rfl rfl rfl rfl|exact mO)))
        exact⟨(j+1,0,0,0, .no),⟨by dsimp only;omega,by dsimp only;omega,by dsimp only;rw[Nat.pow_zero,Nat.mul_one,Nat.add_zero];exact(by rw[hd0]at hgrp;simpa using hgrp),by dsimp only;decide,rfl⟩,by dsimp only;omega,SlotsOk.le ⟨.inl rfl, .inl rfl, .inl rfl, .inl rfl, .inl rfl, .inl (congrArg (fun k=>PV.g (.int .i64 k)) hj1), .inl herr, .inl rfl, .inl rfl, .inl rfl, .inl rfl, .inl rfl, .inl rfl, .inl rfl, .inl rfl, .inl rfl,trivial⟩,HLe.of_eq rfl⟩
       ·have hm:PC Tryz.prog 133 [.nils, .nils, .g (.int .u64 10000000000000000000), .g (.int .u64 (IntKind.u64.wrap (IntKind.u64.wrap ((di:Int) *10)+IntKind.u64.wrap (IntKind.u8.wrap (x-48)))))] ⟨[],[],[]⟩ (.vw 0 0 0 1 1) ⟨[],[],[AR 0 [di']]⟩:=by rw[hmul];exact macWW_nils hd0
        have hln:(dig di').length=1:=by rw[dig_one hd0 hdw];rfl
        rw[Nat.zero_mul,Nat.zero_add]at hgrp
        (repeat first|refine uA ?_|(apply oR rfl rfl;focus(first|exact inv_box [] rfl rfl MTrb ENrb hrd rfl rfl rfl rfl rfl rfl rfl rfl rfl rfl rfl|exact cd [true,true] rfl rfl (EN rfl) (hm) rfl rfl rfl rfl rfl rfl rfl rfl rfl rfl rfl|exact mO)))
        exact⟨(j+1,0,0,di', .one 0 [di']),⟨by dsimp only;omega,by dsimp only;omega,by dsimp only;rw[Nat.pow_zero,Nat.mul_one,Nat.add_zero];exact hgrp,by dsimp only;decide,⟨hd0,ZOk.word hd0 hdw⟩⟩,by dsimp only;omega,SlotsOk.le ⟨.inl (congrArg (fun n=>PV.vw 0 0 0 n 1) hln.symm), .inl rfl, .inl rfl, .inl rfl, .inl rfl, .inl (congrArg (fun k=>PV.g (.int .i64 k)) hj1), .inl herr, .inl rfl, .inl rfl, .inl rfl, .inl rfl, .inl rfl, .inl rfl, .inl rfl, .inl rfl, .inl rfl,trivial⟩,HLe.of_eq rfl⟩
      ·have hi19: ¬i+1=19:=by have h2:=ne_of_beq_false h;omega
       clear h
       (repeat first|refine uA ?_|(apply oR rfl rfl;focus(first|exact inv_box [] rfl rfl MTrb ENrb hrd rfl rfl rfl rfl rfl rfl rfl rfl rfl rfl rfl|exact PO_nslice rfl (EL rfl) (SZ rfl) rfl rfl rfl rfl rfl|exact mO)))
       exact⟨(j+1,i+1,di',X, .no),⟨by dsimp only;omega,by dsimp only;omega,hgrp,hlim,hz⟩,by dsimp only;omega,SlotsOk.le ⟨.inl rfl, .inl rfl, .inl rfl, .inl rfl, .inl rfl, .inl (congrArg (fun k=>PV.g (.int .i64 k)) hj1), .inl herr, .inl rfl, .inl rfl, .inl rfl, .inl rfl, .inl rfl, .inl rfl, .inl (congrArg (fun k=>PV.g (.int .u64 k)) hmul), .inl (congrArg (fun k=>PV.g (.int .i64 k)) hi1), .inl rfl,trivial⟩,HLe.of_eq rfl⟩
     ·exact absurd e57 (of_decide_eq_false h)
    ·exact absurd e48 (of_decide_eq_false h)
   |one g W=>
    (repeat first|refine uA ?_|(apply oR rfl rfl;focus(first|exact PO_inil rfl Tryz.underlying121 (.inl rfl) NilI.nil rfl|exact mO)))
    refine sQ (fun h=> ?_) fun h=> ?_
    ·exact absurd (h.symm.trans e46) (by decide)
    clear h
    (repeat first|refine uA ?_|(apply oR rfl rfl;focus(first|exact PO_inil rfl Tryz.underlying121 (.inl rfl) NilI.nil rfl|exact mO)))
    refine sQ (fun h=> ?_) fun h=> ?_
    ·exact absurd (h.symm.trans e95) (by decide)
    clear h
    (repeat first|refine uA ?_|(apply oR rfl rfl;focus(first|exact PO_inil rfl Tryz.underlying121 (.inl rfl) NilI.nil rfl|exact mO)))
    refine sQ (fun h=> ?_) fun h=> ?_
    ·clear h
     (repeat first|refine uA ?_|(apply oR rfl rfl;focus(first|exact PO_inil rfl Tryz.underlying121 (.inl rfl) NilI.nil rfl|exact mO)))
     refine sQ (fun h=> ?_) fun h=> ?_
     ·clear h
      (repeat first|refine uA ?_|(apply oR rfl rfl;focus(first|exact PO_inil rfl Tryz.underlying121 (.inl rfl) NilI.nil rfl|exact mO)))
      refine sQ (fun h=> ?_) fun h=> ?_
      ·exact absurd (of_decide_eq_true h) e10
      clear h
      (repeat first|refine uA ?_|(apply oR rfl rfl;focus(first|exact PO_inil rfl Tryz.underlying121 (.inl rfl) NilI.nil rfl|exact mO)))
      refine sQ (fun h=> ?_) fun h=> ?_
      ·have hi19:i+1=19:=by have h2:=eq_of_beq h;omega
       clear h
       rw[hi19]at hgrp
       have hgrp:X *10000000000000000000+di'=dval (l.take (j+1)):=hgrp
       have hdw:di'<WB:=Nat.lt_trans hlim hword
       obtain⟨hX0,hZ⟩:=hz
       obtain⟨W',hW',hm⟩:=macWW_out (g:=g) (y:=10000000000000000000) (r:=di') hZ hX0 (by omega) (by rw[one_len hX0 hZ];decide) (by decide) (by decide) hdw
       have hm:PC Tryz.prog 133 [.vw 0 g 0 (dig X).length 1, .vw 0 g 0 (dig X).length 1, .g (.int .u64 10000000000000000000), .g (.int .u64 (IntKind.u64.wrap (IntKind.u64.wrap ((di:Int) *10)+IntKind.u64.wrap (IntKind.u8.wrap (x-48)))))] ⟨[],[],[AR g W]⟩ (.vw 1 0 0 (dig (X *10000000000000000000+di')).length ((dig X).length+1+4)) ⟨[],[],[.gone (g+1),AR 0 W']⟩:=by rw[hmul];exact hm
       have hX1:X *10000000000000000000+di'≠0:=by omega
       have h6:6≤(dig X).length+1+4:=by rw[one_len hX0 hZ];decide
       generalize X *10000000000000000000+di'=X1 at *
       generalize(dig X).length+1+4=cc at *
       generalize hdl:(dig X).length=nX at *
       (repeat first|refine uA ?_|(apply oR rfl rfl;focus(first|exact inv_box [] rfl rfl MTrb ENrb hrd rfl rfl rfl rfl rfl rfl rfl rfl rfl rfl rfl|exact cd [] rfl rfl (EN rfl) (hm) rfl rfl rfl rfl rfl rfl rfl rfl rfl rfl rfl|exact mO)))
       exact⟨(j+1,0,0,X1, .two (g+1) 0 cc W'),⟨by dsimp only;omega,by dsimp only;omega,by dsimp only;rw[Nat.pow_zero,Nat.mul_one,Nat.add_zero];exact hgrp,by dsimp only;decide,⟨hX1,hW',h6⟩⟩,by dsimp only;omega,SlotsOk.le ⟨.inl rfl, .inl rfl, .inl rfl, .inl rfl, .inl rfl, .inl (congrArg (fun k=>PV.g (.int .i64 k)) hj1), .inl herr, .inl rfl, .inl rfl, .inl rfl, .inl rfl, .inl rfl, .inl rfl, .inl rfl, .inl rfl, .inl rfl,trivial⟩,HLe.of_eq rfl⟩
      ·have hi19: ¬i+1=19:=by have h2:=ne_of_beq_false h;omega
       clear h
       (repeat first|refine uA ?_|(apply oR rfl rfl;focus(first|exact inv_box [] rfl rfl MTrb ENrb hrd rfl rfl rfl rfl rfl rfl rfl rfl rfl rfl rfl|exact PO_nslice rfl (EL rfl) (SZ rfl) rfl rfl rfl rfl rfl|exact mO)))
       exact⟨(j+1,i+1,di',X, .one g W),⟨by dsimp only;omega,by dsimp only;omega,hgrp,hlim,hz⟩,by dsimp only;omega,SlotsOk.le ⟨.inl rfl, .inl rfl, .inl rfl, .inl rfl, .inl rfl, .inl (congrArg (fun k=>PV.g (.int .i64 k)) hj1), .inl herr, .inl rfl, .inl rfl, .inl rfl, .inl rfl, .inl rfl, .inl rfl, .inl (congrArg (fun k=>PV.g (.int .u64 k)) hmul), .inl (congrArg (fun k=>PV.g (.int .i64 k)) hi1), .inl rfl,trivial⟩,HLe.of_eq rfl⟩
     ·exact absurd e57 (of_decide_eq_false h)
    ·exact absurd e48 (of_decide_eq_false h)
   |two k g c W=>
    (repeat first|refine uA ?_|(apply oR rfl rfl;focus(first|exact PO_inil rfl Tryz.underlying121 (.inl rfl) NilI.nil rfl|exact mO)))
    refine sQ (fun h=> ?_) fun h=> ?_
    ·exact absurd (h.symm.trans e46) (by decide)
    clear h
    (repeat first|refine uA ?_|(apply oR rfl rfl;focus(first|exact PO_inil rfl Tryz.underlying121 (.inl rfl) NilI.nil rfl|exact mO)))
    refine sQ (fun h=> ?_) fun h=> ?_
    ·exact absurd (h.symm.trans e95) (by decide)
    clear h
    (repeat first|refine uA ?_|(apply oR rfl rfl;focus(first|exact PO_inil rfl Tryz.underlying121 (.inl rfl) NilI.nil rfl|exact mO)))
    refine sQ (fun h=> ?_) fun h=> ?_
    ·clear h
     (repeat first|refine uA ?_|(apply oR rfl rfl;focus(first|exact PO_inil rfl Tryz.underlying121 (.inl rfl) NilI.nil rfl|exact mO)))
     refine sQ (fun h=> ?_) fun h=> ?_
     ·clear h
      (repeat first|refine uA ?_|(apply oR rfl rfl;focus(first|exact PO_inil rfl Tryz.underlying121 (.inl rfl) NilI.nil rfl|exact mO)))
      refine sQ (fun h=> ?_) fun h=> ?_
      ·exact absurd (of_decide_eq_true h) e10
      clear h
      (repeat first|refine uA ?_|(apply oR rfl rfl;focus(first|exact PO_inil rfl Tryz.underlying121 (.inl rfl) NilI.nil rfl|exact mO)))
      refine sQ (fun h=> ?_) fun h=> ?_
      ·have hi19:i+1=19:=by have h2:=eq_of_beq h;omega
       clear h
       rw[hi19]at hgrp
       have hgrp:X *10000000000000000000+di'=dval (l.take (j+1)):=hgrp
       have hdw:di'<WB:=Nat.lt_trans hlim hword
       obtain⟨hX0,hZ,h6⟩:=hz
       obtain⟨W',hW',hm⟩:=macWW_in (g:=g) (y:=10000000000000000000) (r:=di') hZ hX0 (by omega) (by decide) (by decide) hdw
       have hm:PC Tryz.prog 133 [.vw 0 g 0 (dig X).length c, .vw 0 g 0 (dig X).length c, .g (.int .u64 10000000000000000000), .g (.int .u64 (IntKind.u64.wrap (IntKind.u64.wrap ((di:Int) *10)+IntKind.u64.wrap (IntKind.u8.wrap (x-48)))))] ⟨[],[],[AR g W]⟩ (.vw 0 g 0 (dig (X *10000000000000000000+di')).length c) ⟨[],[],[AR g W']⟩:=by rw[hmul];exact hm
       have hX1:X *10000000000000000000+di'≠0:=by omega
       generalize X *10000000000000000000+di'=X1 at *
       generalize hdl:(dig X).length=nX at *
       (repeat first|refine uA ?_|(apply oR rfl rfl;focus(first|exact inv_box [] rfl rfl MTrb ENrb hrd rfl rfl rfl rfl rfl rfl rfl rfl rfl rfl rfl|exact cd [] rfl rfl (EN rfl) (hm) rfl rfl rfl rfl rfl rfl rfl rfl rfl rfl rfl|exact mO)))
       exact⟨(j+1,0,0,X1, .two k g c W'),⟨by dsimp only;omega,by dsimp only;omega,by dsimp only;rw[Nat.pow_zero,Nat.mul_one,Nat.add_zero];exact hgrp,by dsimp only;decide,⟨hX1,hW',h6⟩⟩,by dsimp only;omega,SlotsOk.le ⟨.inl rfl, .inl rfl, .inl rfl, .inl rfl, .inl rfl, .inl (congrArg (fun k=>PV.g (.int .i64 k)) hj1), .inl herr, .inl rfl, .inl rfl, .inl rfl, .inl rfl, .inl rfl, .inl rfl, .inl rfl, .inl rfl, .inl rfl,trivial⟩,HLe.of_eq rfl⟩
      ·have hi19: ¬i+1=19:=by have h2:=ne_of_beq_false h;omega
       clear h
       (repeat first|refine uA ?_|(apply oR rfl rfl;focus(first|exact inv_box [] rfl rfl MTrb ENrb hrd rfl rfl rfl rfl rfl rfl rfl rfl rfl rfl rfl|exact PO_nslice rfl (EL rfl) (SZ rfl) rfl rfl rfl rfl rfl|exact mO)))
       exact⟨(j+1,i+1,di',X, .two k g c W),⟨by dsimp only;omega,by dsimp only;omega,hgrp,hlim,hz⟩,by dsimp only;omega,SlotsOk.le ⟨.inl rfl, .inl rfl, .inl rfl, .inl rfl, .inl rfl, .inl (congrArg (fun k=>PV.g (.int .i64 k)) hj1), .inl herr, .inl rfl, .inl rfl, .inl rfl, .inl rfl, .inl rfl, .inl rfl, .inl (congrArg (fun k=>PV.g (.int .u64 k)) hmul), .inl (congrArg (fun k=>PV.g (.int .i64 k)) hi1), .inl rfl,trivial⟩,HLe.of_eq rfl⟩
     ·exact absurd e57 (of_decide_eq_false h)
    ·exact absurd e48 (of_decide_eq_false h)
 ·have hjl:j=l.length:=by omega
  subst hjl
  rw[List.take_length]at hD
  rw[errP_ge (Nat.le_refl _),idxN_ge (Nat.le_refl _),chN_ge (Nat.le_refl _)]
  have hp:prN l.length=48:=by
   obtain⟨m,hm⟩: ∃m,l.length=m+1:=⟨l.length-1,by omega⟩
   rw[hm];rfl
  rw[hp]
  have hlen0:((l.length:Int)==0)=false:=beq_eq_false_iff_ne.2 (by omega)
  have hpow:=pow_10 (n:=i) hi
  clear hc0 hr0 hn0 hp
  cases zs with
  |no=>
   (repeat first|refine uA ?_|(apply oR rfl rfl;focus(first|exact PO_inil rfl Tryz.underlying121 (.inl rfl) eof_nil rfl|exact PO_loadkv rfl (AG rfl) rfl eof_cell|exact PO_isame rfl Tryz.underlying121 (.inl rfl) Tryz.underlying375 (inf_at infT) cmpT (inf_at infE) rfl rfl eof_same|exact PO_inil rfl Tryz.underlying121 (.inl rfl) NilI.nil rfl|exact mO)))
   refine sQ (fun h=> ?_) fun h=> ?_
   ·exact absurd (h.symm.trans hlen0) (by decide)
   clear h
   (repeat first|refine uC ?_|(apply oR rfl rfl;focus(first|exact cqP hpow|exact mO))|refine xU [97] rfl ?_)
   rw[←hD]
   have hlim:X *10^i+di<10^40:=by rw[hD];exact Nat.lt_of_lt_of_le (dval_all hd) (pow10_le hl)
   have hXl:(dig X).length≤3:=dig_three (Nat.lt_of_le_of_lt (Nat.le_trans (Nat.le_mul_of_pos_right X (Nat.pow_pos (by decide))) (Nat.le_add_right _ di)) hlim)
   clear hD
   refine sQ (fun h=> ?_) fun h=> ?_
   ·clear h
    have hpw:=pow10_word (i:=i) (by omega)
    have hdw:di<WB:=Nat.lt_trans hdi hpw
    have hp0:10^i≠0:=Nat.ne_of_gt (Nat.pow_pos (by decide))
    have hz0:X=0:=hz
    subst hz0
    rw[Nat.zero_mul,Nat.zero_add]
    by_cases hd0:di=0
    ·subst hd0
     rw[dig_zero]
     have hm:PC Tryz.prog 133 [.nils, .nils, .g (.int .u64 (10^i:Nat)), .g (.int .u64 (0:Nat))] ⟨[],[],[]⟩ .nils ⟨[],[],[]⟩:=macWW_nils0 (y:=10^i)
     (repeat first|refine uA ?_|(apply oR rfl rfl;focus(first|exact cqP hpow|exact cd [true,true] rfl rfl (EN rfl) (hm) rfl rfl rfl rfl rfl rfl rfl rfl rfl rfl rfl|exact mO)))
     refine Ret_boxp (vC vT (vC vT (vC vT (vC vT vN)))) rfl rfl rfl rfl rfl rfl rfl rfl rfl ?_ ?_ ?_ rfl
     all_goals rfl
    ·have hm:PC Tryz.prog 133 [.nils, .nils, .g (.int .u64 (10^i:Nat)), .g (.int .u64 di)] ⟨[],[],[]⟩ (.vw 0 0 0 1 1) ⟨[],[],[AR 0 [di]]⟩:=macWW_nils (y:=10^i) hd0
     have hln:(dig di).length=1:=by rw[dig_one hd0 hdw];rfl
     have hZ:=ZOk.word hd0 hdw
     have hm:PC Tryz.prog 133 [.nils, .nils, .g (.int .u64 (10^i:Nat)), .g (.int .u64 di)] ⟨[],[],[]⟩ (.vw 0 0 0 (dig di).length 1) ⟨[],[],[AR 0 [di]]⟩:=by rw[hln];exact macWW_nils (y:=10^i) hd0
     (repeat first|refine uC ?_|(apply oR rfl rfl;focus(first|exact cqP hpow|exact cd [true,true] rfl rfl (EN rfl) (hm) rfl rfl rfl rfl rfl rfl rfl rfl rfl rfl rfl|exact mO))|refine xU [97] rfl ?_)
     have hrow:=fz_take hZ.tk
     refine PW_freeze 0 rfl (PW_weak (env':=slots [(0, .g (.sl (wsG (dig di)))),(9, .g (.int .i64 10)),(10, .g (.int .i64 l.length)),(11, .g (.raw .nilIface)),(22, .g (.int .i64 (-1)))]) (H':=⟨[[.g (.str (bstr l)), .g (.int .i64 l.length), .g (.int .i64 (-1))]],[],[.gone (0+1)]⟩) (SlotsOk.le ⟨.inl (frz_vw.trans (congrArg (fun l=>PV.g (.sl l)) hrow)), .inl rfl, .inl rfl, .inl rfl, .inl rfl,trivial⟩) (HLe.of_eq rfl) ?_)
     clear hrow
     (try refine uN ?_)
     refine Ret_boxp (vC vT (vC vT (vC vT (vC vT vN)))) rfl rfl rfl rfl rfl rfl rfl rfl rfl ?_ ?_ ?_ rfl
     all_goals rfl
   ·have hi0:i=0:=by have:=of_decide_eq_false h;omega
    clear h
    subst hi0
    have hd0:di=0:=by rw[Nat.pow_zero]at hdi;omega
    subst hd0
    rw[Nat.pow_zero,Nat.mul_one,Nat.add_zero]
    have hz0:X=0:=hz
    subst hz0
    rw[dig_zero]
    (try refine uN ?_)
    refine Ret_boxp (vC vT (vC vT (vC vT (vC vT vN)))) rfl rfl rfl rfl rfl rfl rfl rfl rfl ?_ ?_ ?_ rfl
    all_goals rfl
  |one g W=>
   (repeat first|refine uA ?_|(apply oR rfl rfl;focus(first|exact PO_inil rfl Tryz.underlying121 (.inl rfl) eof_nil rfl|exact PO_loadkv rfl (AG rfl) rfl eof_cell|exact PO_isame rfl Tryz.underlying121 (.inl rfl) Tryz.underlying375 (inf_at infT) cmpT (inf_at infE) rfl rfl eof_same|exact PO_inil rfl Tryz.underlying121 (.inl rfl) NilI.nil rfl|exact mO)))
   refine sQ (fun h=> ?_) fun h=> ?_
   ·exact absurd (h.symm.trans hlen0) (by decide)
   clear h
   (repeat first|refine uC ?_|(apply oR rfl rfl;focus(first|exact cqP hpow|exact mO))|refine xU [97] rfl ?_)
   rw[←hD]
   have hlim:X *10^i+di<10^40:=by rw[hD];exact Nat.lt_of_lt_of_le (dval_all hd) (pow10_le hl)
   have hXl:(dig X).length≤3:=dig_three (Nat.lt_of_le_of_lt (Nat.le_trans (Nat.le_mul_of_pos_right X (Nat.pow_pos (by decide))) (Nat.le_add_right _ di)) hlim)
   clear hD
   refine sQ (fun h=> ?_) fun h=> ?_
   ·clear h
    have hpw:=pow10_word (i:=i) (by omega)
    have hdw:di<WB:=Nat.lt_trans hdi hpw
    have hp0:10^i≠0:=Nat.ne_of_gt (Nat.pow_pos (by decide))
    obtain⟨hX0,hZ⟩:=hz
    obtain⟨W',hW',hm⟩:=macWW_out (g:=g) (y:=10^i) (r:=di) hZ hX0 (by omega) (by rw[one_len hX0 hZ];decide) hpw hp0 hdw
    have hm:PC Tryz.prog 133 [.vw 0 g 0 (dig X).length 1, .vw 0 g 0 (dig X).length 1, .g (.int .u64 (10^i:Nat)), .g (.int .u64 di)] ⟨[],[],[AR g W]⟩ (.vw 1 0 0 (dig (X *10^i+di)).length ((dig X).length+1+4)) ⟨[],[],[.gone (g+1),AR 0 W']⟩:=hm
    generalize X *10^i+di=X1 at *
    generalize(dig X).length+1+4=cc at *
    generalize hdl:(dig X).length=nX at *
    (repeat first|refine uC ?_|(apply oR rfl rfl;focus(first|exact cqP hpow|exact cd [] rfl rfl (EN rfl) (hm) rfl rfl rfl rfl rfl rfl rfl rfl rfl rfl rfl|exact mO))|refine xU [97] rfl ?_)
    have hrow:=fz_take hW'.tk
    refine PW_freeze 1 rfl (PW_weak (env':=slots [(0, .g (.sl (wsG (dig X1)))),(9, .g (.int .i64 10)),(10, .g (.int .i64 l.length)),(11, .g (.raw .nilIface)),(22, .g (.int .i64 (-1)))]) (H':=⟨[[.g (.str (bstr l)), .g (.int .i64 l.length), .g (.int .i64 (-1))]],[],[.gone (g+1), .gone (0+1)]⟩) (SlotsOk.le ⟨.inl (frz_vw.trans (congrArg (fun l=>PV.g (.sl l)) hrow)), .inl rfl, .inl rfl, .inl rfl, .inl rfl,trivial⟩) (HLe.of_eq rfl) ?_)
    clear hrow
    (try refine uN ?_)
    refine Ret_boxp (vC vT (vC vT (vC vT (vC vT vN)))) rfl rfl rfl rfl rfl rfl rfl rfl rfl ?_ ?_ ?_ rfl
    all_goals rfl
   ·have hi0:i=0:=by have:=of_decide_eq_false h;omega
    clear h
    subst hi0
    have hd0:di=0:=by rw[Nat.pow_zero]at hdi;omega
    subst hd0
    rw[Nat.pow_zero,Nat.mul_one,Nat.add_zero]
    obtain⟨hX0,hZ⟩:=hz
    obtain⟨X1,hX1⟩: ∃n,n=X:=⟨_,rfl⟩
    rw[←hX1]at hZ⊢
    have hrow:=fz_take hZ.tk
    refine PW_freeze 0 rfl (PW_weak (env':=slots [(0, .g (.sl (wsG (dig X1)))),(9, .g (.int .i64 10)),(10, .g (.int .i64 l.length)),(11, .g (.raw .nilIface)),(22, .g (.int .i64 (-1)))]) (H':=⟨[[.g (.str (bstr l)), .g (.int .i64 l.length), .g (.int .i64 (-1))]],[],[.gone (g+1)]⟩) (SlotsOk.le ⟨.inl (frz_vw.trans (congrArg (fun l=>PV.g (.sl l)) hrow)), .inl rfl, .inl rfl, .inl rfl, .inl rfl,trivial⟩) (HLe.of_eq rfl) ?_)
    clear hrow
    (try refine uN ?_)
    refine Ret_boxp (vC vT (vC vT (vC vT (vC vT vN)))) rfl rfl rfl rfl rfl rfl rfl rfl rfl ?_ ?_ ?_ rfl
    all_goals rfl
  |two k g c W=>
   (repeat first|refine uA ?_|(apply oR rfl rfl;focus(first|exact PO_inil rfl Tryz.underlying121 (.inl rfl) eof_nil rfl|exact PO_loadkv rfl (AG rfl) rfl eof_cell|exact PO_isame rfl Tryz.underlying121 (.inl rfl) Tryz.underlying375 (inf_at infT) cmpT (inf_at infE) rfl rfl eof_same|exact PO_inil rfl Tryz.underlying121 (.inl rfl) NilI.nil rfl|exact mO)))
   refine sQ (fun h=> ?_) fun h=> ?_
   ·exact absurd (h.symm.trans hlen0) (by decide)
   clear h
   (repeat first|refine uC ?_|(apply oR rfl rfl;focus(first|exact cqP hpow|exact mO))|refine xU [97] rfl ?_)
   rw[←hD]
   have hlim:X *10^i+di<10^40:=by rw[hD];exact Nat.lt_of_lt_of_le (dval_all hd) (pow10_le hl)
   have hXl:(dig X).length≤3:=dig_three (Nat.lt_of_le_of_lt (Nat.le_trans (Nat.le_mul_of_pos_right X (Nat.pow_pos (by decide))) (Nat.le_add_right _ di)) hlim)
   clear hD
   refine sQ (fun h=> ?_) fun h=> ?_
   ·clear h
    have hpw:=pow10_word (i:=i) (by omega)
    have hdw:di<WB:=Nat.lt_trans hdi hpw
    have hp0:10^i≠0:=Nat.ne_of_gt (Nat.pow_pos (by decide))
    obtain⟨hX0,hZ,h6⟩:=hz
    obtain⟨W',hW',hm⟩:=macWW_in (g:=g) (y:=10^i) (r:=di) hZ hX0 (by omega) hpw hp0 hdw
    have hm:PC Tryz.prog 133 [.vw 0 g 0 (dig X).length c, .vw 0 g 0 (dig X).length c, .g (.int .u64 (10^i:Nat)), .g (.int .u64 di)] ⟨[],[],[AR g W]⟩ (.vw 0 g 0 (dig (X *10^i+di)).length c) ⟨[],[],[AR g W']⟩:=hm
    generalize X *10^i+di=X1 at *
    generalize hdl:(dig X).length=nX at *
    (repeat first|refine uC ?_|(apply oR rfl rfl;focus(first|exact cqP hpow|exact cd [] rfl rfl (EN rfl) (hm) rfl rfl rfl rfl rfl rfl rfl rfl rfl rfl rfl|exact mO))|refine xU [97] rfl ?_)
    have hrow:=fz_take hW'.tk
    refine PW_freeze 1 rfl (PW_weak (env':=slots [(0, .g (.sl (wsG (dig X1)))),(9, .g (.int .i64 10)),(10, .g (.int .i64 l.length)),(11, .g (.raw .nilIface)),(22, .g (.int .i64 (-1)))]) (H':=⟨[[.g (.str (bstr l)), .g (.int .i64 l.length), .g (.int .i64 (-1))]],[],[.gone k, .gone (g+1)]⟩) (SlotsOk.le ⟨.inl (frz_vw.trans (congrArg (fun l=>PV.g (.sl l)) hrow)), .inl rfl, .inl rfl, .inl rfl, .inl rfl,trivial⟩) (HLe.of_eq rfl) ?_)
    clear hrow
    (try refine uN ?_)
    refine Ret_boxp (vC vT (vC vT (vC vT (vC vT vN)))) rfl rfl rfl rfl rfl rfl rfl rfl rfl ?_ ?_ ?_ rfl
    all_goals rfl
   ·have hi0:i=0:=by have:=of_decide_eq_false h;omega
    clear h
    subst hi0
    have hd0:di=0:=by rw[Nat.pow_zero]at hdi;omega
    subst hd0
    rw[Nat.pow_zero,Nat.mul_one,Nat.add_zero]
    obtain⟨hX0,hZ,h6⟩:=hz
    obtain⟨X1,hX1⟩: ∃n,n=X:=⟨_,rfl⟩
    rw[←hX1]at hZ⊢
    have hrow:=fz_take hZ.tk
    refine PW_freeze 1 rfl (PW_weak (env':=slots [(0, .g (.sl (wsG (dig X1)))),(9, .g (.int .i64 10)),(10, .g (.int .i64 l.length)),(11, .g (.raw .nilIface)),(22, .g (.int .i64 (-1)))]) (H':=⟨[[.g (.str (bstr l)), .g (.int .i64 l.length), .g (.int .i64 (-1))]],[],[.gone k, .gone (g+1)]⟩) (SlotsOk.le ⟨.inl (frz_vw.trans (congrArg (fun l=>PV.g (.sl l)) hrow)), .inl rfl, .inl rfl, .inl rfl, .inl rfl,trivial⟩) (HLe.of_eq rfl) ?_)
    clear hrow
    (try refine uN ?_)
    refine Ret_boxp (vC vT (vC vT (vC vT (vC vT vN)))) rfl rfl rfl rfl rfl rfl rfl rfl rfl ?_ ?_ ?_ rfl
    all_goals rfl
theorem ENmk:enterB Tryz.prog 92=true:=by kernel_rfl
theorem ENtr:enterB Tryz.prog 94=true:=by kernel_rfl
theorem ENtl:enterB Tryz.prog 93=true:=by kernel_rfl
theorem ENtm:enterB Tryz.prog 64=true:=by kernel_rfl
theorem bstr_ne{l:List UInt8}(h:l≠[]):((bstr l).toList==(⟨#[]⟩:ByteArray).toList)=false:=by
 rw[bstr_toList,show(⟨#[]⟩:ByteArray).toList=[]from bstr_toList []]
 exact beq_eq_false_iff_ne.2 h
theorem trim_pc{l:List UInt8}(h0:l≠[])(hl:l.length≤100000)(hd: ∀c∈l,48≤c.toNat∧c.toNat<58):PC Tryz.prog 64 [.g (.str (bstr l)), .g (.str ⟨#[48,49,50,51,52,53,54,55,56,57]⟩)] ⟨[],[],[]⟩ (.g (.str (bstr []))) ⟨[],[],[]⟩:=by
 have hne:=bstr_ne h0
 have h1:=asciiSet_pc
 have h2:=trimRight_pc hl hd
 have h3:=trimLeft_pc
 generalize bstr l=B at *
 refine eN Tryz.func64 ?_
 (try refine uD ?_)
 refine sQ (fun h=> ?_) fun h=> ?_
 ·exfalso;rw[hne]at h;cases h
 clear h
 (try refine uD ?_)
 refine sQ (fun h=> ?_) fun h=> ?_
 ·exfalso
  have hcs:((⟨#[48,49,50,51,52,53,54,55,56,57]⟩:ByteArray).toList==(⟨#[]⟩:ByteArray).toList)=false:=bstr_ne (l:=[48,49,50,51,52,53,54,55,56,57]) (by simp)
  rw[hcs]at h
  cases h
 clear h
 (repeat first|refine uE ?_|((first|apply oR rfl rfl|(apply dF rfl rfl rfl;intro _)|(apply dP rfl rfl rfl;intro _)|(apply dL rfl rfl rfl;intro _)|apply dC rfl rfl rfl rfl);(focus(first|exact cl rfl rfl ENmk h1 rfl rfl rfl|exact cd [] rfl rfl ENtr (h2) rfl rfl rfl rfl rfl rfl rfl rfl rfl rfl rfl|exact cd [] rfl rfl ENtl (h3) rfl rfl rfl rfl rfl rfl rfl rfl rfl rfl rfl|exact mO));try exact kQ))
 refine rT ?_
 rfl
theorem digits_pc{l:List UInt8}(h0:l≠[])(hl:l.length≤100000)(hd: ∀c∈l,48≤c.toNat∧c.toNat<58):PC Tryz.prog 48 [.g (.str (bstr l))] ⟨[],[],[]⟩ (.g (.bool true)) ⟨[],[],[]⟩:=by
 have hne:=bstr_ne h0
 have h1:=trim_pc h0 hl hd
 have he:((bstr []).toList==(⟨#[]⟩:ByteArray).toList)=true:=by
  rw[show(⟨#[]⟩:ByteArray)=bstr []from rfl,bstr_toList];rfl
 have hn2:(!((bstr l).toList==(⟨#[]⟩:ByteArray).toList))=true:=by rw[hne];rfl
 rw[show GV.bool true=GV.bool ((bstr []).toList==(⟨#[]⟩:ByteArray).toList) by rw[he]]
 generalize bstr l=B at *
 refine eN Tryz.func48 ?_
 (try refine uN ?_)
 refine sQ (fun h=> ?_) fun h=> ?_
 ·clear h
  (repeat first|refine uA ?_|(apply oR rfl rfl;focus(first|exact cl rfl rfl ENtm h1 rfl rfl rfl|exact mO)))
  refine rT ?_
  rfl
 ·exfalso
  first|(rw[hn2]at h;cases h)|(rw[hne]at h;cases h)|(simp[hne]at h)
theorem indexByte_pc{s:ByteArray}{c:Nat}:PC Tryz.prog 110 [.g (.str s), .g (.int .u8 c)] ⟨[],[],[]⟩ (.g (.int .i64 (Lib.indexByte s.data.toList ((c:Int).toNat.toUInt8)))) ⟨[],[],[]⟩:=
 PC_shelf0 (gs:=[.str s, .int .u8 c]) rfl (fun _=> .g _ _ (.int _ _)) fun cx _=>Any.stringslite_IndexByte layIdx s (c:Int) cx.w
theorem ENib:enterB Tryz.prog 110=true:=by kernel_rfl
theorem ENix:enterB Tryz.prog 89=true:=by kernel_rfl
theorem ENcu:enterB Tryz.prog 63=true:=by kernel_rfl
theorem index1_pc{s:ByteArray}(hne:((⟨#[46]⟩:ByteArray).toList==s.toList)=false):PC Tryz.prog 89 [.g (.str s), .g (.str ⟨#[46]⟩)] ⟨[],[],[]⟩ (.g (.int .i64 (Lib.indexByte s.data.toList 46))) ⟨[],[],[]⟩:=by
 have h1:=indexByte_pc (s:=s) (c:=46)
 have h1:PC Tryz.prog 110 [.g (.str s), .g (.int .u8 46)] ⟨[],[],[]⟩ (.g (.int .i64 (Lib.indexByte s.data.toList 46))) ⟨[],[],[]⟩:=h1
 generalize Lib.indexByte s.data.toList 46=r at *
 refine eN Tryz.func89 ?_
 (try refine uN ?_)
 refine sQ (fun h=> ?_) fun h=> ?_
 ·exfalso;rw[hne]at h;cases h
 clear h
 (repeat first|refine uA ?_|(apply oR rfl rfl;focus(first|exact PO_index (b:=46) rfl (ST rfl) rfl rfl (by decide) rfl|exact cl rfl rfl ENib h1 rfl rfl rfl|exact mO)))
 refine rT ?_
 rfl
theorem cut_none{s:ByteArray}(hne:((⟨#[46]⟩:ByteArray).toList==s.toList)=false)(hr:Lib.indexByte s.data.toList 46= -1):PC Tryz.prog 47 [.g (.str s), .g (.str ⟨#[46]⟩)] ⟨[],[],[]⟩ (.tuple [.g (.str s), .g (.str ⟨#[]⟩), .g (.bool false)]) ⟨[],[],[]⟩:=by
 have h1:=index1_pc hne
 rw[hr]at h1
 have h2:PC Tryz.prog 63 [.g (.str s), .g (.str ⟨#[46]⟩)] ⟨[],[],[]⟩ (.tuple [.g (.str s), .g (.str ⟨#[]⟩), .g (.bool false)]) ⟨[],[],[]⟩:=by
  refine eN Tryz.func63 ?_
  (repeat first|refine uE ?_|((first|apply oR rfl rfl|(apply dF rfl rfl rfl;intro _)|(apply dP rfl rfl rfl;intro _)|(apply dL rfl rfl rfl;intro _)|apply dC rfl rfl rfl rfl);(focus(first|exact cl rfl rfl ENix h1 rfl rfl rfl|exact mO));try exact kQ))
  refine Ret3 (vC vT (vC vT (vC vT vN))) rfl ?_ ?_ ?_
  all_goals rfl
 refine eN Tryz.func47 ?_
 (repeat first|refine uA ?_|(apply oR rfl rfl;focus(first|exact cl rfl rfl ENcu h2 rfl rfl rfl|exact mO)))
 refine Ret3 (vC vT (vC vT (vC vT vN))) rfl ?_ ?_ ?_
 all_goals rfl
theorem cut_at{s a b:ByteArray}{n:Nat}(hne:((⟨#[46]⟩:ByteArray).toList==s.toList)=false)(hr:Lib.indexByte s.data.toList 46=(n:Int))(hn:n<s.size)(hs:s.size≤100000)(ha:s.extract 0 n=a)(hb:s.extract (n+1) s.size=b):PC Tryz.prog 47 [.g (.str s), .g (.str ⟨#[46]⟩)] ⟨[],[],[]⟩ (.tuple [.g (.str a), .g (.str b), .g (.bool true)]) ⟨[],[],[]⟩:=by
 have h1:=index1_pc hne
 rw[hr]at h1
 have hw:IntKind.i64.wrap ((n:Int)+1)=((n+1:Nat):Int):=by rw[w64 (by omega)];omega
 have ha':s.extract 0 ((n:Nat):Int).toNat=a:=by rw[Int.toNat_natCast];exact ha
 have hb':s.extract (IntKind.i64.wrap ((n:Int)+1)).toNat ((s.size:Nat):Int).toNat=b:=by rw[hw,Int.toNat_natCast,Int.toNat_natCast];exact hb
 have h2:PC Tryz.prog 63 [.g (.str s), .g (.str ⟨#[46]⟩)] ⟨[],[],[]⟩ (.tuple [.g (.str a), .g (.str b), .g (.bool true)]) ⟨[],[],[]⟩:=by
  rw[←ha',←hb']
  refine eN Tryz.func63 ?_
  (repeat first|refine uE ?_|((first|apply oR rfl rfl|(apply dF rfl rfl rfl;intro _)|(apply dP rfl rfl rfl;intro _)|(apply dL rfl rfl rfl;intro _)|apply dC rfl rfl rfl rfl);(focus(first|exact cl rfl rfl ENix h1 rfl rfl rfl|exact PO_slice_str rfl (ST rfl) rfl rfl rfl (by decide) (show(0:Int)≤(n:Int) by omega) (show(n:Int)≤(s.size:Int) by omega)|exact PO_slice_str rfl (ST rfl) rfl rfl rfl (show(0:Int)≤IntKind.i64.wrap ((n:Int)+1) by rw[hw];omega) (show IntKind.i64.wrap ((n:Int)+1)≤(s.size:Int) by rw[hw];omega) (show(s.size:Int)≤(s.size:Int) by omega)|exact mO));try exact kQ))
  refine Ret3 (vC vT (vC vT (vC vT vN))) rfl ?_ ?_ ?_
  all_goals rfl
 refine eN Tryz.func47 ?_
 (repeat first|refine uA ?_|(apply oR rfl rfl;focus(first|exact cl rfl rfl ENcu h2 rfl rfl rfl|exact mO)))
 refine Ret3 (vC vT (vC vT (vC vT vN))) rfl ?_ ?_ ?_
 all_goals rfl
end Go.Proofs.YtdoenpeadkoklaaGreatFmtBesafter