/- What the program's functions compute, each shown once; and plain laws of it. -/
import Derived.Test.YtdoenpeadkoklaaGreatFmtBesafterOwnN
import Derived.Test.YtdoenpeadkoklaaGreatFmtBesafterPureD
set_option maxRecDepth 100000
set_option maxHeartbeats 32000000
namespace Go.Proofs.YtdoenpeadkoklaaGreatFmtBesafter
open Go Go.Pure
attribute [local irreducible] PW POps POpsD PO PC Cond
theorem frz_vw{id n off len cap:Nat}{es:List GV}:frz id n es (.vw id n off len cap)= .g (.sl ((es.drop off).take len)):=by simp[frz]
theorem nlsh_nils:PC Tryz.prog 124 [.nils, .nils, .g (.int .u64 1)] ⟨[],[],[]⟩ .nils ⟨[],[],[]⟩:=by
 refine eN Tryz.func124 ?_
 (repeat first|refine uA ?_|(apply oR rfl rfl;focus(first|exact PO_nslice rfl (EL rfl) (SZ rfl) rfl rfl rfl rfl rfl|exact mO)))
 refine rB ?_ ?_ ?_
 all_goals rfl
theorem dbl_lt{X n:Nat}(h:X<WB^n):2 *X<WB^(n+1):=by
 rw[Nat.pow_succ]
 have h1:2 *X<2 *WB^n:=by omega
 have h2:WB^n *2≤WB^n *WB:=Nat.mul_le_mul_left _ (by decide)
 omega
theorem nlsh_row{g c X:Nat}{W:List Nat}(hz:ZOk W c X):PC Tryz.prog 124 [.vw 0 g 0 (dig X).length c, .vw 0 g 0 (dig X).length c, .g (.int .u64 1)] ⟨[],[],[AR g W]⟩ (.g (.sl (wsG (dig (2 *X))))) ⟨[],[],[.gone (g+1)]⟩:=by
 have hXL:X<WB^(dig X).length:=by have:=val_lt (okW_dig X);rwa[val_dig]at this
 have hlt:=dbl_lt hXL
 have hle:=hz.le
 have hcw:=hz.cw
 have hcm:=hz.cm
 have hc1:=hz.c1
 have htk:=hz.tk
 have hup:=up_pad (l:=dig X) (s:=1) (okW_dig X) (by decide)
 rw[val_dig,Nat.pow_one,Nat.mul_comm]at hup
 by_cases h0:X=0
 ·subst h0
  rw[Nat.mul_zero,dig_zero]
  refine eN Tryz.func124 ?_
  (repeat first|refine uC ?_|(apply oR rfl rfl;focus(first|exact PO_vlen rfl (EL rfl) rfl|exact mO))|refine xU [8] rfl ?_)
  refine PW_cut (slots [(6, .vw 0 g 0 0 c)]) ⟨[],[],[AR g W]⟩ ?_ ?_
  ·(repeat first|refine uA ?_|(apply oR rfl rfl;focus(first|exact vcut 0 rfl (EL rfl) (SZ rfl) rfl rfl rfl rfl rfl (Nat.zero_le _)|exact mO)))
   exact⟨SlotsOk.le ⟨.inl rfl,trivial⟩,HLe.of_eq rfl⟩
  refine PW_freeze 0 rfl (PW_weak (env':=slots [(6, .g (.sl []))]) (H':=⟨[],[],[.gone (g+1)]⟩) (SlotsOk.le ⟨.inl frz_vw,trivial⟩) (HLe.of_eq rfl) ?_)
  (try refine uN ?_)
  refine rB ?_ ?_ ?_
  all_goals rfl
 ·have h1:=dig_len_pos h0
  rw[wsG_length]at h1
  have hxo:=okW_dig X
  have hdl:=dig_length_le hlt
  have hpd:=take_padD hlt
  have hnl:=nlen_padD hlt
  generalize dig X=xs at *
  obtain⟨n,hn⟩: ∃n,xs.length=n:=⟨_,rfl⟩
  rw[hn]at hXL hlt hle htk hup h1 hdl hpd hnl⊢
  have hn0:((n:Int)==0)=false:=beq_eq_false_iff_ne.2 (by omega)
  have hw0:IntKind.i64.wrap ((n:Int)+IntKind.i64.wrap 0)=((n:Nat):Int):=by rw[show IntKind.i64.wrap 0=0 by decide,w64 (by omega)];omega
  have hw1:IntKind.i64.wrap ((n:Int)+1)=((n+1:Nat):Int):=by rw[w64 (by omega)];omega
  have hw2:IntKind.i64.wrap ((n:Int)-(n:Int))=0:=by rw[w64 (by omega)];omega
  refine eN Tryz.func124 ?_
  (repeat first|refine uA ?_|(apply oR rfl rfl;focus(first|exact PO_vlen rfl (EL rfl) rfl|exact mO)))
  refine sQ (fun h=> ?_) fun h=> ?_
  ·exfalso;rw[hn0]at h;cases h
  clear h
  (repeat first|refine uC ?_|(apply oR rfl rfl;focus(first|exact PO_quo rfl rfl rfl (by decide)|exact mO))|refine xU [10] rfl ?_)
  refine PW_weak (env':=slots [(0, .vw 0 g 0 n c),(1, .vw 0 g 0 n c),(2, .g (.int .u64 1)),(7, .g (.int .i64 n)),(8, .g (.int .i64 n))]) (H':=⟨[],[],[AR g W]⟩) (SlotsOk.le ⟨.inl rfl, .inl rfl, .inl rfl, .inl rfl, .inl (congrArg (fun k=>PV.g (.int .i64 k)) hw0),trivial⟩) (HLe.of_eq rfl) ?_
  rcases Nat.lt_or_ge c (n+1)with hc|hc
  ·have hmk:=make_out (g:=g) (o:=0) (len:=n) (cap:=c) (m:=AR g W) (n:=n+1) (by omega) hc (by omega)
   rw[←hw1]at hmk
   have hrow:((wsG W).drop 0).take n=wsG xs:=fz_take htk
   have hzl:(List.replicate (n+1+4) 0).length=n+5:=by rw[List.length_replicate]
   have hlx:=lsh_pc (g:=0) (cap:=n+1+4) (s:=1) (ws:=List.replicate (n+1+4) 0) (xs:=xs) hxo (by rw[wsG_length];omega) (by rw[wsG_length];omega) (by rw[wsG_length];omega) (by decide) (by decide)
   rw[wsG_length,hn]at hlx
   have hul:=upR_length xs 1
   have hz0:(wsG (putL (List.replicate (n+1+4) 0) 0 (upR xs 1)))[0+n]? =some (wG ((putL (List.replicate (n+1+4) 0) 0 (upR xs 1))[n]'(by rw[putL_length (by omega)];omega))):=wsG_get (by rw[Nat.zero_add];exact List.getElem?_eq_getElem _)
   have hf0:(putL (List.replicate (n+1+4) 0) 0 (upR xs 1)).set (0+n) (upC xs 1)=putL (List.replicate (n+1+4) 0) 0 (padD (n+1) (2 *X)):=by
    rw[set_putL (by omega) (by omega),hup]
   have hpl:=padD_length (n+1) (2 *X)
   have hnr:=norm_pc (g:=0) (o:=0) (n:=n+1) (cap:=n+1+4) (ws:=putL (List.replicate (n+1+4) 0) 0 (padD (n+1) (2 *X))) (l:=padD (n+1) (2 *X)) (part0 hpl) (by rw[putL_length (by omega),hzl];omega) (by omega) (by unfold maxLen;omega)
   rw[hnl]at hnr
   have hfz:((wsG (putL (List.replicate (n+1+4) 0) 0 (padD (n+1) (2 *X)))).drop 0).take (dig (2 *X)).length=wsG (dig (2 *X)):=fz_take (by
    rw[putL_zero,List.take_append_of_le_length (by omega)];exact hpd)
   generalize(putL (List.replicate (n+1+4) 0) 0 (upR xs 1))[n]'_=z at hz0
   have hclr:=fun(ws:List Nat)=>(show putAt (wsG ws) 0 []=wsG ws from by unfold putAt;simp)
   generalize putL (List.replicate (n+1+4) 0) 0 (padD (n+1) (2 *X))=W2 at *
   generalize dig (2 *X)=ds at *
   generalize hZ0:List.replicate (n+1+4) 0=Z0 at *
   generalize upC xs 1=cx at *
   generalize hux:upR xs 1=ux at *
   generalize putL Z0 0 ux=W1 at *
   (repeat first|refine uC ?_|(apply oR rfl rfl;focus(first|exact cd [] rfl rfl (EN rfl) (hmk) rfl rfl rfl rfl rfl rfl rfl rfl rfl rfl rfl|exact mO))|refine xU [11] rfl ?_)
   refine PW_freeze 0 rfl (PW_weak (env':=slots [(0, .vw 1 0 0 (n+1) (n+1+4)),(1, .g (.sl (wsG xs))),(2, .g (.int .u64 1)),(7, .g (.int .i64 n)),(8, .g (.int .i64 n))]) (H':=⟨[],[],[.gone (g+1),AR 0 Z0]⟩) (SlotsOk.le ⟨.inl rfl, .inl (frz_vw.trans (congrArg (fun l=>PV.g (.sl l)) hrow)), .inl rfl, .inl rfl, .inl rfl,trivial⟩) (HLe.of_eq rfl) ?_)
   have hlx':PC Tryz.prog 67 [.vw 0 0 0 n (n+1+4), .g (.sl (wsG xs)), .g (.int .u64 1)] ⟨[],[],[AR 0 Z0]⟩ (.g (wG cx)) ⟨[],[],[AR 0 W1]⟩:=hlx
   have hf1:(wsG W1).set (0+n) (wG cx)=wsG W2:=wsG_set.trans (congrArg wsG hf0)
   (repeat first|refine uC ?_|(apply oR rfl rfl;focus(first|exact PO_rem rfl rfl rfl (by decide)|exact vcut n rfl (EL rfl) (SZ rfl) rfl rfl rfl hw2 rfl (by omega)|exact ct [] rfl rfl tw_lsh (hlx') rfl rfl rfl rfl rfl rfl rfl rfl rfl rfl rfl|exact PO_vindex n rfl (EL rfl) (SZ rfl) rfl rfl rfl (by omega)|exact PO_asH (PO_store_mref rfl (SZ rfl) rfl rfl rfl rfl (by decide) rfl hz0 (Nat.le_refl _)) (congrArg (fun l=>(⟨[],[],[.gone (g+1),MO.arr 0 WT l]⟩:PH)) hf1)|exact vcut 0 rfl (EL rfl) (SZ rfl) rfl rfl rfl rfl hw2 (Nat.zero_le _)|exact PO_asH (PO_vclear rfl (EL rfl) (ZR rfl) rfl (SZ rfl) rfl rfl (by omega)) (congrArg (fun l=>(⟨[],[],[.gone (g+1),MO.arr 0 WT l]⟩:PH)) (hclr W2))|exact mO))|refine xU [17] rfl ?_)
   refine PW_cut (slots [(6, .vw 1 0 0 ds.length (n+1+4))]) ⟨[],[],[.gone (g+1),AR 0 W2]⟩ ?_ ?_
   ·(repeat first|refine uA ?_|(apply oR rfl rfl;focus(first|exact cd [] rfl rfl (EN rfl) (hnr) rfl rfl rfl rfl rfl rfl rfl rfl rfl rfl rfl|exact mO)))
    exact⟨SlotsOk.le ⟨.inl rfl,trivial⟩,HLe.of_eq rfl⟩
   refine PW_freeze 1 rfl (PW_weak (env':=slots [(6, .g (.sl (wsG ds)))]) (H':=⟨[],[],[.gone (g+1), .gone (0+1)]⟩) (SlotsOk.le ⟨.inl (frz_vw.trans (congrArg (fun l=>PV.g (.sl l)) hfz)),trivial⟩) (HLe.of_eq rfl) ?_)
   (try refine uN ?_)
   refine rB ?_ ?_ ?_
   all_goals rfl
  ·have hmk:=make_in (g:=g) (o:=0) (len:=n) (cap:=c) (m:=AR g W) (n:=n+1) hc
   rw[←hw1]at hmk
   have hlx:=lshIn_pc (g:=g) (n:=n) (cap:=c) (s:=1) (ws:=W) (xs:=xs) hxo htk h1 (by omega) (by omega) (by decide) (by decide)
   have hul:=upR_length xs 1
   have hz0:(wsG (putL W 0 (upR xs 1)))[0+n]? =some (wG ((putL W 0 (upR xs 1))[n]'(by rw[putL_length (by omega)];omega))):=wsG_get (by rw[Nat.zero_add];exact List.getElem?_eq_getElem _)
   have hf0:(putL W 0 (upR xs 1)).set (0+n) (upC xs 1)=putL W 0 (padD (n+1) (2 *X)):=by
    rw[set_putL (by omega) (by omega),hup]
   have hpl:=padD_length (n+1) (2 *X)
   have hnr:=norm_pc (g:=g) (o:=0) (n:=n+1) (cap:=c) (ws:=putL W 0 (padD (n+1) (2 *X))) (l:=padD (n+1) (2 *X)) (part0 hpl) (by rw[putL_length (by omega)];omega) (by omega) (by unfold maxLen;omega)
   rw[hnl]at hnr
   have hfz:((wsG (putL W 0 (padD (n+1) (2 *X)))).drop 0).take (dig (2 *X)).length=wsG (dig (2 *X)):=fz_take (by
    rw[putL_zero,List.take_append_of_le_length (by omega)];exact hpd)
   generalize(putL W 0 (upR xs 1))[n]'_=z at hz0
   have hclr:=fun(ws:List Nat)=>(show putAt (wsG ws) 0 []=wsG ws from by unfold putAt;simp)
   generalize putL W 0 (padD (n+1) (2 *X))=W2 at *
   generalize dig (2 *X)=ds at *
   generalize upC xs 1=cx at *
   generalize hux:upR xs 1=ux at *
   generalize putL W 0 ux=W1 at *
   have hlx':PC Tryz.prog 67 [.vw 0 g 0 n c, .vw 0 g 0 n c, .g (.int .u64 1)] ⟨[],[],[AR g W]⟩ (.g (wG cx)) ⟨[],[],[AR g W1]⟩:=hlx
   have hf1:(wsG W1).set (0+n) (wG cx)=wsG W2:=wsG_set.trans (congrArg wsG hf0)
   (repeat first|refine uC ?_|(apply oR rfl rfl;focus(first|exact cd [] rfl rfl (EN rfl) (hmk) rfl rfl rfl rfl rfl rfl rfl rfl rfl rfl rfl|exact PO_rem rfl rfl rfl (by decide)|exact vcut n rfl (EL rfl) (SZ rfl) rfl rfl rfl hw2 rfl (by omega)|exact ct [] rfl rfl tw_lsh (hlx') rfl rfl rfl rfl rfl rfl rfl rfl rfl rfl rfl|exact PO_vindex n rfl (EL rfl) (SZ rfl) rfl rfl rfl (by omega)|exact PO_asH (PO_store_mref rfl (SZ rfl) rfl rfl rfl rfl (by decide) rfl hz0 (Nat.le_refl _)) (congrArg (fun l=>(⟨[],[],[MO.arr g WT l]⟩:PH)) hf1)|exact vcut 0 rfl (EL rfl) (SZ rfl) rfl rfl rfl rfl hw2 (Nat.zero_le _)|exact PO_asH (PO_vclear rfl (EL rfl) (ZR rfl) rfl (SZ rfl) rfl rfl (by omega)) (congrArg (fun l=>(⟨[],[],[MO.arr g WT l]⟩:PH)) (hclr W2))|exact mO))|refine xU [17] rfl ?_)
   refine PW_cut (slots [(6, .vw 0 g 0 ds.length c)]) ⟨[],[],[AR g W2]⟩ ?_ ?_
   ·(repeat first|refine uA ?_|(apply oR rfl rfl;focus(first|exact cd [] rfl rfl (EN rfl) (hnr) rfl rfl rfl rfl rfl rfl rfl rfl rfl rfl rfl|exact mO)))
    exact⟨SlotsOk.le ⟨.inl rfl,trivial⟩,HLe.of_eq rfl⟩
   refine PW_freeze 0 rfl (PW_weak (env':=slots [(6, .g (.sl (wsG ds)))]) (H':=⟨[],[],[.gone (g+1)]⟩) (SlotsOk.le ⟨.inl (frz_vw.trans (congrArg (fun l=>PV.g (.sl l)) hfz)),trivial⟩) (HLe.of_eq rfl) ?_)
   (try refine uN ?_)
   refine rB ?_ ?_ ?_
   all_goals rfl
theorem lsh_nils:PC Tryz.prog 102 [.ptr 0 0, .ptr 0 0, .g (.int .u64 1)] ⟨[[.g (.bool false), .nils]],[],[]⟩ (.ptr 0 0) ⟨[[.g (.bool false), .nils]],[],[]⟩:=by
 have hl:=nlsh_nils
 refine eN Tryz.func102 ?_
 (repeat first|refine uG ?_|((first|apply oR rfl rfl|(apply dF rfl rfl rfl;intro _)|(apply dP rfl rfl rfl;intro _)|(apply dL rfl rfl rfl;intro _)|apply dC rfl rfl rfl rfl);(focus(first|exact cb [true,true] rfl rfl (EN rfl) (hl) rfl rfl rfl rfl rfl rfl rfl rfl rfl rfl rfl|exact mO));try exact kQ)|refine xK false false [0] rfl mixed (by decide+kernel) ?_|refine xK false true [0] rfl mixed (by decide+kernel) ?_|refine xK true false [0] rfl mixed (by decide+kernel) ?_|refine xK true true [0] rfl mixed (by decide+kernel) ?_)
 refine rB ?_ ?_ ?_
 all_goals rfl
theorem lsh_row{g c X:Nat}{W:List Nat}(hz:ZOk W c X):PC Tryz.prog 102 [.ptr 0 0, .ptr 0 0, .g (.int .u64 1)] ⟨[[.g (.bool false), .vw 0 g 0 (dig X).length c]],[],[AR g W]⟩ (.ptr 0 0) ⟨[[.g (.bool false), .g (.sl (wsG (dig (2 *X))))]],[],[.gone (g+1)]⟩:=by
 have hl:=nlsh_row (g:=g) hz
 generalize dig (2 *X)=ds at *
 generalize(dig X).length=n at *
 refine eN Tryz.func102 ?_
 (repeat first|refine uG ?_|((first|apply oR rfl rfl|(apply dF rfl rfl rfl;intro _)|(apply dP rfl rfl rfl;intro _)|(apply dL rfl rfl rfl;intro _)|apply dC rfl rfl rfl rfl);(focus(first|exact cd [] rfl rfl (EN rfl) (hl) rfl rfl rfl rfl rfl rfl rfl rfl rfl rfl rfl|exact mO));try exact kQ)|refine xK false false [0] rfl mixed (by decide+kernel) ?_|refine xK false true [0] rfl mixed (by decide+kernel) ?_|refine xK true false [0] rfl mixed (by decide+kernel) ?_|refine xK true true [0] rfl mixed (by decide+kernel) ?_)
 refine rB ?_ ?_ ?_
 all_goals rfl
theorem addVW_in{g n cap cap' y:Nat}{W xs:List Nat}(hx:okW xs)(hv:(W.drop 1).take n=xs)(hl:xs.length=n)(h1:1≤n)(hm:n≤100000)(hy:y≤1)(hfit:1+n≤W.length)(hcap:n≤cap)(hcap':n≤cap'):
  PC Tryz.prog 162 [.vw 0 g 1 n cap, .vw 0 g 1 n cap', .g (wG y)] ⟨[],[],[AR g W]⟩ (.g (wG (mulAddC xs 1 y))) ⟨[],[],[AR g (putL W 1 (mulAddW xs 1 y))]⟩:=by
 have hne:((n:Int) !=(n:Int))=false:=by simp
 have hl0:((n:Int)==0)=false:=beq_eq_false_iff_ne.2 (by omega)
 have hget: ∀k a,k<n→xs[k]? =some a→W[1+k]? =some a:=fun k a hk h=>win_get hv hk h
 have hlen: ∀k,k≤n→(mulAddW (xs.take k) 1 y).length=k:=fun k hk=>by rw[mulAddW_length,List.length_take];omega
 have hkeep: ∀k,k≤n→mulAddC (xs.take k) 1 y=0→putL W 1 (mulAddW (xs.take k) 1 y)=putL W 1 (mulAddW xs 1 y)∧mulAddC xs 1 y=0:=fun k hk h0=>by
  have h2:=inc_rest hx h0
  refine⟨?_,h2.2⟩
  rw[h2.1]
  have h3:=putL_keep (us:=mulAddW (xs.take k) 1 y) hv hl (by rw[hlen k hk];exact hk)
  rw[hlen k hk]at h3
  exact h3.symm
 have hx0:xs[0]? =some (xs[0]'(by omega)):=List.getElem?_eq_getElem (by omega)
 obtain⟨x0,hx01⟩: ∃x,x=xs[0]'(by omega):=⟨_,rfl⟩
 rw[←hx01]at hx0
 have hg0:(wsG W)[1+0]? =some (wG x0):=wsG_get (hget 0 x0 (by omega) hx0)
 have hb:=badd_pc (x:=x0) (y:=y) (c:=0) (by decide)
 obtain⟨s1,s2⟩:=mulAdd_stepB (y:=1) (c:=y) hx0
 have s1':mulAddW (xs.take 1) 1 y=[(x0+y+0)%WB]:=by rw[s1,Nat.mul_one];rfl
 have s2':mulAddC (xs.take 1) 1 y=(x0+y+0)/WB:=by rw[s2,Nat.mul_one];rfl
 have hf0:W.set (1+0) ((x0+y+0)%WB)=putL W 1 (mulAddW (xs.take 1) 1 y):=by
  rw[s1']
  have:=set_putL (ws:=W) (us:=[]) (off:=1) (n:=0) (w:=(x0+y+0)%WB) rfl (by omega)
  rw[putL_nil]at this
  exact this
 have hWl:(wsG (putL W 1 (mulAddW (xs.take 1) 1 y))).length=W.length:=by rw[wsG_length,putL_length (by rw[hlen 1 h1];omega)]
 have hx0w:=hx.at hx0
 have hsmall:mulAddC (xs.take 1) 1 y≤1:=by
  rw[s2']
  refine Nat.le_of_lt_succ ((Nat.div_lt_iff_lt_mul (by decide)).2 ?_)
  omega
 rw[←s2']at hb
 refine eN Tryz.func162 ?_
 (repeat first|refine uE ?_|((first|apply oR rfl rfl|(apply dF rfl rfl rfl;intro _)|(apply dP rfl rfl rfl;intro _)|(apply dL rfl rfl rfl;intro _)|apply dC rfl rfl rfl rfl);(focus(first|exact PO_vlen rfl (EL rfl) rfl|exact mO));try exact kQ))
 refine sQ (fun h=> ?_) fun h=> ?_
 ·exfalso;rw[hne]at h;cases h
 clear h
 (repeat first|refine uE ?_|((first|apply oR rfl rfl|(apply dF rfl rfl rfl;intro _)|(apply dP rfl rfl rfl;intro _)|(apply dL rfl rfl rfl;intro _)|apply dC rfl rfl rfl rfl);(focus(first|exact PO_vlen rfl (EL rfl) rfl|exact mO));try exact kQ))
 refine sQ (fun h=> ?_) fun h=> ?_
 ·exfalso;rw[hl0]at h;cases h
 clear h
 (repeat first|refine uE ?_|((first|apply oR rfl rfl|(apply dF rfl rfl rfl;intro _)|(apply dP rfl rfl rfl;intro _)|(apply dL rfl rfl rfl;intro _)|apply dC rfl rfl rfl rfl);(focus(first|exact PO_vindex 0 rfl (EL rfl) (SZ rfl) rfl rfl rfl (by omega)|exact PO_load_mref_one rfl (AG rfl) rfl rfl hg0 rfl|exact cqP hb|exact PO_asH (PO_store_mref rfl (SZ rfl) rfl rfl rfl rfl (by decide) rfl hg0 (Nat.le_refl _)) (congrArg (fun l=>(⟨[],[],[MO.arr g WT l]⟩:PH)) (wsG_set.trans (congrArg wsG hf0)))|exact mO));try exact kQ))
 refine sQ (fun h=> ?_) fun h=> ?_
 ·have hc0:mulAddC (xs.take 1) 1 y=0:=by have:=beq_iff_eq.1 h;omega
  obtain⟨k1,k2⟩:=hkeep 1 h1 hc0
  rw[k1]at hWl⊢
  rw[k2]
  clear h
  (repeat first|refine uG ?_|(apply dR rfl rfl;focus(first|exact Cond_mcmp rfl rfl rfl Tryz.underlying238 (SZ rfl) (.inr rfl) rfl rfl rfl rfl (SZ rfl) (SZ rfl) (by omega) (by omega)))|((first|apply oR rfl rfl|(apply dF rfl rfl rfl;intro _)|(apply dP rfl rfl rfl;intro _)|(apply dL rfl rfl rfl;intro _)|apply dC rfl rfl rfl rfl);(focus(first|exact PO_vindex 0 rfl (EL rfl) (SZ rfl) rfl rfl rfl (by omega)|exact mO));try exact kQ)|refine xK false false [10000] rfl mixed (by decide+kernel) ?_|refine xK false true [10000] rfl mixed (by decide+kernel) ?_|refine xK true false [10000] rfl mixed (by decide+kernel) ?_|refine xK true true [10000] rfl mixed (by decide+kernel) ?_)
  refine rB ?_ ?_ ?_
  all_goals rfl
 ·have hc1:mulAddC (xs.take 1) 1 y=1:=by have:=beq_eq_false_iff_ne.1 h;omega
  clear h
  (try refine uD ?_)
  refine PW_loop (S:=Nat) (fun i=>slots [(0, .vw 0 g 1 n cap),(1, .vw 0 g 1 n cap'),(9, .g (.int .i64 (i:Int)))]) (fun i=>⟨[],[],[AR g (putL W 1 (mulAddW (xs.take i) 1 y))]⟩) (fun i=>1≤i∧i≤n∧mulAddC (xs.take i) 1 y=1) (fun i=>n-i) 1 ⟨Nat.le_refl _,h1,hc1⟩
   (SlotsOk.le ⟨.inl rfl, .inl rfl, .inl rfl,trivial⟩) (HLe.of_eq rfl) (fun i hi=> ?_)
  obtain⟨i1,i2,ic⟩:=hi
  (repeat first|refine uE ?_|((first|apply oR rfl rfl|(apply dF rfl rfl rfl;intro _)|(apply dP rfl rfl rfl;intro _)|(apply dL rfl rfl rfl;intro _)|apply dC rfl rfl rfl rfl);(focus(first|exact PO_vlen rfl (EL rfl) rfl|exact mO));try exact kQ))
  refine sQ (fun h=> ?_) fun h=> ?_
  ·have hin:i<n:=by have:=of_decide_eq_true h;omega
   clear h
   have hxi:xs[i]? =some (xs[i]'(by omega)):=List.getElem?_eq_getElem (by omega)
   obtain⟨x,hxe⟩: ∃x,x=xs[i]'(by omega):=⟨_,rfl⟩
   rw[←hxe]at hxi
   have hxw:=hx.at hxi
   have hgi:(wsG (putL W 1 (mulAddW (xs.take i) 1 y)))[1+i]? =some (wG x):=wsG_get (by
    rw[putL_get (by rw[hlen i i2];exact Nat.le_refl _)]
    exact hget i x hin hxi)
   obtain⟨t1,t2⟩:=mulAdd_stepB (y:=1) (c:=y) hxi
   rw[ic,Nat.mul_one]at t1 t2
   have hset: ∀w,w=(x+1)%WB→(putL W 1 (mulAddW (xs.take i) 1 y)).set (1+i) w=putL W 1 (mulAddW (xs.take (i+1)) 1 y):=fun w hw=>by
    rw[set_putL (hlen i i2) (by omega),t1,hw]
   have hWl2:(wsG (putL W 1 (mulAddW (xs.take (i+1)) 1 y))).length=W.length:=by rw[wsG_length,putL_length (by rw[hlen (i+1) hin];omega)]
   (repeat first|refine uE ?_|((first|apply oR rfl rfl|(apply dF rfl rfl rfl;intro _)|(apply dP rfl rfl rfl;intro _)|(apply dL rfl rfl rfl;intro _)|apply dC rfl rfl rfl rfl);(focus(first|exact PO_vindex i rfl (EL rfl) (SZ rfl) rfl rfl rfl hin|exact PO_load_mref_one rfl (AG rfl) rfl rfl hgi rfl|exact mO));try exact kQ))
   refine sQ (fun h=> ?_) fun h=> ?_
   ·have hlt:x+1<WB:=by have h2:=bne_iff_ne.1 h;unfold WB at *;omega
    have hsw:=hset (x+1) (Nat.mod_eq_of_lt hlt).symm
    have hc0:mulAddC (xs.take (i+1)) 1 y=0:=by rw[t2,Nat.div_eq_of_lt hlt]
    obtain⟨k1,k2⟩:=hkeep (i+1) hin hc0
    have hraw:GV.int .u64 (IntKind.u64.wrap ((x:Int)+1))=wG (x+1):=congrArg (GV.int .u64) (u64_wrap (n:=x+1) rfl hlt)
    rw[k1]at hsw hWl2
    rw[k2]
    clear h
    (repeat first|refine uG ?_|(apply dR rfl rfl;focus(first|exact Cond_mcmp rfl rfl rfl Tryz.underlying238 (SZ rfl) (.inr rfl) rfl rfl rfl rfl (SZ rfl) (SZ rfl) (by omega) (by omega)))|((first|apply oR rfl rfl|(apply dF rfl rfl rfl;intro _)|(apply dP rfl rfl rfl;intro _)|(apply dL rfl rfl rfl;intro _)|apply dC rfl rfl rfl rfl);(focus(first|exact PO_vindex i rfl (EL rfl) (SZ rfl) rfl rfl rfl hin|exact PO_asH (PO_store_mref rfl (SZ rfl) rfl rfl rfl rfl (by decide) rfl hgi (Nat.le_refl _)) (congrArg (fun l=>(⟨[],[],[MO.arr g WT l]⟩:PH)) ((congrArg ((wsG (putL W 1 (mulAddW (xs.take i) 1 y))).set (1+i)) hraw).trans (wsG_set.trans (congrArg wsG hsw))))|exact PO_vindex 0 rfl (EL rfl) (SZ rfl) rfl rfl rfl (by omega)|exact mO));try exact kQ)|refine xK false false [10000] rfl mixed (by decide+kernel) ?_|refine xK false true [10000] rfl mixed (by decide+kernel) ?_|refine xK true false [10000] rfl mixed (by decide+kernel) ?_|refine xK true true [10000] rfl mixed (by decide+kernel) ?_)
    refine rB ?_ ?_ ?_
    all_goals rfl
   ·have hxe:x+1=WB:=by
     rcases Nat.lt_or_ge (x+1) WB with h2|h2
     ·exfalso
      have h3:((x:Int) !=18446744073709551615)=true:=bne_iff_ne.2 (by unfold WB at *;omega)
      rw[h3]at h;cases h
     ·omega
    have hsw:=hset 0 (by rw[hxe,Nat.mod_self])
    have hc1:mulAddC (xs.take (i+1)) 1 y=1:=by rw[t2,hxe];decide
    clear h
    (repeat first|refine uE ?_|((first|apply oR rfl rfl|(apply dF rfl rfl rfl;intro _)|(apply dP rfl rfl rfl;intro _)|(apply dL rfl rfl rfl;intro _)|apply dC rfl rfl rfl rfl);(focus(first|exact PO_vindex i rfl (EL rfl) (SZ rfl) rfl rfl rfl hin|exact PO_asH (PO_store_mref rfl (SZ rfl) rfl rfl rfl rfl (by decide) rfl hgi (Nat.le_refl _)) (congrArg (fun l=>(⟨[],[],[MO.arr g WT l]⟩:PH)) ((wsG_set (w:=0)).trans (congrArg wsG hsw)))|exact mO));try exact kQ))
    exact⟨i+1,⟨by omega,hin,hc1⟩,by omega,SlotsOk.le ⟨.inl rfl, .inl rfl, .inl (congrArg (fun k=>PV.g (.int .i64 k)) (w64 (by omega))),trivial⟩,HLe.of_eq rfl⟩
  ·have hin:i=n:=by have:=of_decide_eq_false h;omega
   clear h
   rw[hin,←hl,List.take_length]at ic⊢
   rw[ic]
   (try refine uD ?_)
   refine rB ?_ ?_ ?_
   all_goals rfl
theorem inc_pad{xs:List Nat}{n X:Nat}(hx:okW xs)(hv:val xs=X)(hl:xs.length=n):mulAddW xs 1 1++[mulAddC xs 1 1]=padD (n+1) (X+1):=by
 have h1:=mulAdd_val xs 1 1
 have h2:=val_lt hx
 rw[hl]at h1 h2
 rw[hv]at h2
 rw[hv,Nat.mul_one]at h1
 have hp:0<WB^n:=Nat.pow_pos (by decide)
 have h3:X+1<WB^(n+1):=by
  rw[Nat.pow_succ]
  have:WB^n *2≤WB^n *WB:=Nat.mul_le_mul_left _ (by decide)
  omega
 have h4:mulAddC xs 1 1<WB:=by
  refine Nat.lt_of_mul_lt_mul_left (a:=WB^n) ?_
  have e:WB^n *WB=WB^(n+1):=(Nat.pow_succ ..).symm
  rw[e]
  omega
 refine val_inj (okW_append.2 ⟨mulAddW_ok _ _ _,okW_cons.2 ⟨h4,okW_nil⟩⟩) (padD_ok _ _) (by rw[List.length_append,mulAddW_length,padD_length,hl];rfl) ?_
 rw[val_padD h3,val_append,mulAddW_length,hl,val_cons,val_nil,Nat.mul_zero,Nat.add_zero]
 exact h1
theorem addVV1_in{g c c' x0:Nat}{W:List Nat}(h0:W[0]? =some x0):PC Tryz.prog 65 [.vw 0 g 0 1 c, .vw 0 g 0 1 c', .g (.sl (wsG [1]))] ⟨[],[],[AR g W]⟩ (.g (wG ((x0+1+0)/WB))) ⟨[],[],[AR g (putL W 0 [(x0+1+0)%WB])]⟩:=by
 have hg0:(wsG W)[0+0]? =some (wG x0):=wsG_get h0
 have hb:=badd_pc (x:=x0) (y:=1) (c:=0) (by decide)
 have hW:0<W.length:=(List.getElem?_eq_some_iff.1 h0).1
 have hf0:W.set (0+0) ((x0+1+0)%WB)=putL W 0 [(x0+1+0)%WB]:=by
  have:=set_putL (ws:=W) (us:=[]) (off:=0) (n:=0) (w:=(x0+1+0)%WB) rfl (by omega)
  rw[putL_nil]at this
  exact this
 generalize(x0+1+0)/WB=cc at *
 generalize(x0+1+0)%WB=zz at *
 generalize putL W 0 [zz]=W1 at *
 refine eN Tryz.func65 ?_
 (repeat first|refine uE ?_|((first|apply oR rfl rfl|(apply dF rfl rfl rfl;intro _)|(apply dP rfl rfl rfl;intro _)|(apply dL rfl rfl rfl;intro _)|apply dC rfl rfl rfl rfl);(focus(first|exact PO_vlen rfl (EL rfl) rfl|exact mO));try exact kQ))
 refine PW_loop_n 2 ?_
 (repeat first|refine uG ?_|(apply dR rfl rfl;focus(first|exact Cond_mload rfl rfl (AG rfl) rfl rfl hg0 rfl))|((first|apply oR rfl rfl|(apply dF rfl rfl rfl;intro _)|(apply dP rfl rfl rfl;intro _)|(apply dL rfl rfl rfl;intro _)|apply dC rfl rfl rfl rfl);(focus(first|exact cqP hb|exact PO_vindex 0 rfl (EL rfl) (SZ rfl) rfl rfl rfl (by decide)|exact iA rfl (EL rfl) (SZ rfl) rfl rfl (by decide) rfl rfl|exact PO_asH (PO_store_mref rfl (SZ rfl) rfl rfl rfl rfl (by decide) rfl hg0 (Nat.le_refl _)) (congrArg (fun l=>(⟨[],[],[MO.arr g WT l]⟩:PH)) (wsG_set.trans (congrArg wsG hf0)))|exact mO));try exact kQ)|refine xK false false [10000] rfl mixed (by decide+kernel) ?_|refine xK false true [10000] rfl mixed (by decide+kernel) ?_|refine xK true false [10000] rfl mixed (by decide+kernel) ?_|refine xK true true [10000] rfl mixed (by decide+kernel) ?_)
 refine rB ?_ ?_ ?_
 all_goals rfl
theorem addVV1_new{g c x0 z0:Nat}{W:List Nat}(h0:W[0]? =some z0):PC Tryz.prog 65 [.vw 0 g 0 1 c, .g (.sl (wsG [x0])), .g (.sl (wsG [1]))] ⟨[],[],[AR g W]⟩ (.g (wG ((x0+1+0)/WB))) ⟨[],[],[AR g (putL W 0 [(x0+1+0)%WB])]⟩:=by
 have hg0:(wsG W)[0+0]? =some (wG z0):=wsG_get h0
 have hb:=badd_pc (x:=x0) (y:=1) (c:=0) (by decide)
 have hW:0<W.length:=(List.getElem?_eq_some_iff.1 h0).1
 have hf0:W.set (0+0) ((x0+1+0)%WB)=putL W 0 [(x0+1+0)%WB]:=by
  have:=set_putL (ws:=W) (us:=[]) (off:=0) (n:=0) (w:=(x0+1+0)%WB) rfl (by omega)
  rw[putL_nil]at this
  exact this
 generalize(x0+1+0)/WB=cc at *
 generalize(x0+1+0)%WB=zz at *
 generalize putL W 0 [zz]=W1 at *
 refine eN Tryz.func65 ?_
 (repeat first|refine uE ?_|((first|apply oR rfl rfl|(apply dF rfl rfl rfl;intro _)|(apply dP rfl rfl rfl;intro _)|(apply dL rfl rfl rfl;intro _)|apply dC rfl rfl rfl rfl);(focus(first|exact PO_vlen rfl (EL rfl) rfl|exact mO));try exact kQ))
 refine PW_loop_n 2 ?_
 (repeat first|refine uG ?_|((first|apply oR rfl rfl|(apply dF rfl rfl rfl;intro _)|(apply dP rfl rfl rfl;intro _)|(apply dL rfl rfl rfl;intro _)|apply dC rfl rfl rfl rfl);(focus(first|exact cqP hb|exact PO_vindex 0 rfl (EL rfl) (SZ rfl) rfl rfl rfl (by decide)|exact iA rfl (EL rfl) (SZ rfl) rfl rfl (by decide) rfl rfl|exact PO_asH (PO_store_mref rfl (SZ rfl) rfl rfl rfl rfl (by decide) rfl hg0 (Nat.le_refl _)) (congrArg (fun l=>(⟨[],[],[MO.arr g WT l]⟩:PH)) (wsG_set.trans (congrArg wsG hf0)))|exact mO));try exact kQ)|refine xK false false [10000] rfl mixed (by decide+kernel) ?_|refine xK false true [10000] rfl mixed (by decide+kernel) ?_|refine xK true false [10000] rfl mixed (by decide+kernel) ?_|refine xK true true [10000] rfl mixed (by decide+kernel) ?_)
 refine rB ?_ ?_ ?_
 all_goals rfl
theorem set_row0{g c:Nat}{W:List Nat}(hc:1≤c)(hW:c≤W.length):PC Tryz.prog 98 [.vw 0 g 0 0 c, .g (.sl (wsG [1]))] ⟨[],[],[AR g W]⟩ (.vw 0 g 0 1 c) ⟨[],[],[AR g (putL W 0 [1])]⟩:=by
 have hmk:=make_in (g:=g) (o:=0) (len:=0) (cap:=c) (m:=AR g W) (n:=1) hc
 have hput:putAt (wsG W) 0 ((wsG [1]).take 1)=wsG (putL W 0 [1]):=by
  unfold putAt putL wsG
  simp
 generalize putL W 0 [1]=W1 at *
 refine eN Tryz.func98 ?_
 (repeat first|refine uA ?_|(apply oR rfl rfl;focus(first|exact cd [] rfl rfl (EN rfl) (hmk) rfl rfl rfl rfl rfl rfl rfl rfl rfl rfl rfl|exact PO_asH (PO_vcopy (ys:=wsG [1]) rfl (EL rfl) (SZ rfl) (SZ rfl) rfl rfl rfl (fun _ _ _ _ _ e=>by cases e) wsG_cells (by rw[wsG_length];omega)) (congrArg (fun l=>(⟨[],[],[MO.arr g WT l]⟩:PH)) hput)|exact mO)))
 refine rB ?_ ?_ ?_
 all_goals rfl
theorem setg_1:PC Tryz.prog 98 [.nils, .g (.sl (wsG [1]))] ⟨[],[],[]⟩ (.g (.sl (wsG [1]))) ⟨[],[],[]⟩:=PC.out (set_pc (xs:=[1]) (by decide) (by decide)) rfl
theorem nadd_nils:PC Tryz.prog 127 [.nils, .nils, .g (.sl (wsG [1]))] ⟨[],[],[]⟩ (.g (.sl (wsG [1]))) ⟨[],[],[]⟩:=by
 have hs:=setg_1
 have hin:PC Tryz.prog 127 [.nils, .g (.sl (wsG [1])), .nils] ⟨[],[],[]⟩ (.g (.sl (wsG [1]))) ⟨[],[],[]⟩:=by
  refine eN Tryz.func127 ?_
  (repeat first|refine uE ?_|((first|apply oR rfl rfl|(apply dF rfl rfl rfl;intro _)|(apply dP rfl rfl rfl;intro _)|(apply dL rfl rfl rfl;intro _)|apply dC rfl rfl rfl rfl);(focus(first|exact cb [true] rfl rfl (EN rfl) (hs) rfl rfl rfl rfl rfl rfl rfl rfl rfl rfl rfl|exact mO));try exact kQ))
  refine rT ?_
  rfl
 refine eN Tryz.func127 ?_
 (repeat first|refine uE ?_|((first|apply oR rfl rfl|(apply dF rfl rfl rfl;intro _)|(apply dP rfl rfl rfl;intro _)|(apply dL rfl rfl rfl;intro _)|apply dC rfl rfl rfl rfl);(focus(first|exact cb [true,false,true] rfl rfl (EN rfl) (hin) rfl rfl rfl rfl rfl rfl rfl rfl rfl rfl rfl|exact mO));try exact kQ))
 refine rT ?_
 rfl
theorem nadd_row{g c X:Nat}{W:List Nat}(hz:ZOk W c X)(hroom:(dig X).length≤1∨(dig X).length+1≤c):PC Tryz.prog 127 [.vw 0 g 0 (dig X).length c, .vw 0 g 0 (dig X).length c, .g (.sl (wsG [1]))] ⟨[],[],[AR g W]⟩ (.g (.sl (wsG (dig (X+1))))) ⟨[],[],[.gone (g+1)]⟩:=by
 have hXL:X<WB^(dig X).length:=by have:=val_lt (okW_dig X);rwa[val_dig]at this
 have hlt:X+1<WB^((dig X).length+1):=by
  rw[Nat.pow_succ]
  have:WB^(dig X).length *2≤WB^(dig X).length *WB:=Nat.mul_le_mul_left _ (by decide)
  omega
 have hle:=hz.le
 have hcw:=hz.cw
 have hcm:=hz.cm
 have hc1:=hz.c1
 have htk:=hz.tk
 have hwo:=hz.ok
 by_cases h0:X=0
 ·subst h0
  rw[dig_zero,dig_one (n:=0+1) (by decide) (by decide)]
  have hs:=set_row0 (g:=g) hc1 hcw
  have hfz:((wsG (putL W 0 [1])).drop 0).take 1=wsG [1]:=fz_take (by rw[putL_zero];rfl)
  have hin:PC Tryz.prog 127 [.vw 0 g 0 0 c, .g (.sl (wsG [1])), .vw 0 g 0 0 c] ⟨[],[],[AR g W]⟩ (.vw 0 g 0 1 c) ⟨[],[],[AR g (putL W 0 [1])]⟩:=by
   generalize putL W 0 [1]=W1 at *
   refine eN Tryz.func127 ?_
   (repeat first|refine uE ?_|((first|apply oR rfl rfl|(apply dF rfl rfl rfl;intro _)|(apply dP rfl rfl rfl;intro _)|(apply dL rfl rfl rfl;intro _)|apply dC rfl rfl rfl rfl);(focus(first|exact PO_vlen rfl (EL rfl) rfl|exact cd [] rfl rfl (EN rfl) (hs) rfl rfl rfl rfl rfl rfl rfl rfl rfl rfl rfl|exact mO));try exact kQ))
   refine rB ?_ ?_ ?_
   all_goals rfl
  generalize putL W 0 [1]=W1 at *
  refine eN Tryz.func127 ?_
  (repeat first|refine uF ?_|((first|apply oR rfl rfl|(apply dF rfl rfl rfl;intro _)|(apply dP rfl rfl rfl;intro _)|(apply dL rfl rfl rfl;intro _)|apply dC rfl rfl rfl rfl);(focus(first|exact PO_vlen rfl (EL rfl) rfl|exact mO));try exact kQ)|refine xU [4] rfl ?_)
  refine PW_cut (slots [(6, .vw 0 g 0 1 c)]) ⟨[],[],[AR g W1]⟩ ?_ ?_
  ·(repeat first|refine uE ?_|((first|apply oR rfl rfl|(apply dF rfl rfl rfl;intro _)|(apply dP rfl rfl rfl;intro _)|(apply dL rfl rfl rfl;intro _)|apply dC rfl rfl rfl rfl);(focus(first|exact cd [] rfl rfl (EN rfl) (hin) rfl rfl rfl rfl rfl rfl rfl rfl rfl rfl rfl|exact mO));try exact kQ))
   exact⟨SlotsOk.le ⟨.inl rfl,trivial⟩,HLe.of_eq rfl⟩
  refine PW_freeze 0 rfl (PW_weak (env':=slots [(6, .g (.sl (wsG [1])))]) (H':=⟨[],[],[.gone (g+1)]⟩) (SlotsOk.le ⟨.inl (frz_vw.trans (congrArg (fun l=>PV.g (.sl l)) hfz)),trivial⟩) (HLe.of_eq rfl) ?_)
  (try refine uD ?_)
  refine rB ?_ ?_ ?_
  all_goals rfl
 ·have h1:=dig_len_pos h0
  rw[wsG_length]at h1
  have hxo:=okW_dig X
  have hpd:=take_padD hlt
  have hnl:=nlen_padD hlt
  have hinc:=inc_pad (n:=(dig X).length) (okW_dig X) (val_dig X) rfl
  generalize dig X=xs at *
  generalize dig (X+1)=ds at *
  obtain⟨n,hn⟩: ∃n,xs.length=n:=⟨_,rfl⟩
  rw[hn]at hXL hlt hle htk hroom h1 hpd hnl hinc⊢
  have hx0:xs[0]? =some (xs[0]'(by omega)):=List.getElem?_eq_getElem (by omega)
  obtain⟨x0,hx01⟩: ∃x,x=xs[0]'(by omega):=⟨_,rfl⟩
  rw[←hx01]at hx0
  have hn0:((n:Int)==0)=false:=beq_eq_false_iff_ne.2 (by omega)
  have hw1:IntKind.i64.wrap ((n:Int)+1)=((n+1:Nat):Int):=by rw[w64 (by omega)];omega
  obtain⟨s1,s2⟩:=mulAdd_stepB (y:=1) (c:=1) hx0
  have s1':mulAddW (xs.take 1) 1 1=[(x0+1+0)%WB]:=by rw[s1,Nat.mul_one];rfl
  have s2':mulAddC (xs.take 1) 1 1=(x0+1+0)/WB:=by rw[s2,Nat.mul_one];rfl
  have happ:=mulAdd_app (xs.take 1) (xs.drop 1) 1 1
  rw[List.take_append_drop,s1',s2']at happ
  have hpl:=padD_length (n+1) (X+1)
  have hx0w:=hxo.at hx0
  have hcy:(x0+1+0)/WB≤1:=by
   refine Nat.le_of_lt_succ ((Nat.div_lt_iff_lt_mul (by decide)).2 ?_)
   omega
  have hxd:(xs.drop 1).length=n-1:=by rw[List.length_drop];omega
  refine eN Tryz.func127 ?_
  (repeat first|refine uE ?_|((first|apply oR rfl rfl|(apply dF rfl rfl rfl;intro _)|(apply dP rfl rfl rfl;intro _)|(apply dL rfl rfl rfl;intro _)|apply dC rfl rfl rfl rfl);(focus(first|exact PO_vlen rfl (EL rfl) rfl|exact mO));try exact kQ))
  refine sQ (fun h=> ?_) fun h=> ?_
  ·exfalso;have h2:=of_decide_eq_true h;change (n:Int)<1 at h2;omega
  clear h
  (try refine uD ?_)
  refine sQ (fun h=> ?_) fun h=> ?_
  ·exfalso;rw[hn0]at h;cases h
  clear h
  (repeat first|refine uF ?_|((first|apply oR rfl rfl|(apply dF rfl rfl rfl;intro _)|(apply dP rfl rfl rfl;intro _)|(apply dL rfl rfl rfl;intro _)|apply dC rfl rfl rfl rfl);(focus(first|exact mO));try exact kQ)|refine xU [9] rfl ?_)
  refine PW_weak (env':=slots [(0, .vw 0 g 0 n c),(1, .vw 0 g 0 n c),(2, .g (.sl (wsG [1]))),(7, .g (.int .i64 n)),(8, .g (.int .i64 1))]) (H':=⟨[],[],[AR g W]⟩) (SlotsOk.le ⟨.inl rfl, .inl rfl, .inl rfl, .inl rfl, .inl rfl,trivial⟩) (HLe.of_eq rfl) ?_
  rcases Nat.lt_or_ge c (n+1)with hc|hc
  ·have hn1:n=1:=by omega
   subst hn1
   have hxs:xs=[x0]:=by
    match xs,hn,hx0 with
    |[a],_,h=>simp at h;rw[h]
   subst hxs
   have hmk:=make_out (g:=g) (o:=0) (len:=1) (cap:=c) (m:=AR g W) (n:=1+1) (by omega) hc (by omega)
   rw[←hw1]at hmk
   have hrow:((wsG W).drop 0).take 1=wsG [x0]:=fz_take htk
   have hav:=addVV1_new (g:=0) (c:=1+1+4) (x0:=x0) (z0:=0) (W:=List.replicate (1+1+4) 0) rfl
   have hz0:(wsG (putL (List.replicate (1+1+4) 0) 0 [(x0+1+0)%WB]))[0+1]? =some (wG 0):=rfl
   have hinc': [(x0+1+0)%WB]++[(x0+1+0)/WB]=padD (1+1) (X+1):=by rw[←hinc,happ.1,happ.2];rfl
   have hf0:(putL (List.replicate (1+1+4) 0) 0 [(x0+1+0)%WB]).set (0+1) ((x0+1+0)/WB)=putL (List.replicate (1+1+4) 0) 0 (padD (1+1) (X+1)):=by
    rw[set_putL (us:=[(x0+1+0)%WB]) (off:=0) (n:=1) rfl (by rw[List.length_replicate];decide),hinc']
   have hnr:=norm_pc (g:=0) (o:=0) (n:=1+1) (cap:=1+1+4) (ws:=putL (List.replicate (1+1+4) 0) 0 (padD (1+1) (X+1))) (l:=padD (1+1) (X+1)) (part0 hpl) (by rw[putL_length (by rw[hpl];decide)];decide) (by omega) (by unfold maxLen;omega)
   rw[hnl]at hnr
   have hfz:((wsG (putL (List.replicate (1+1+4) 0) 0 (padD (1+1) (X+1)))).drop 0).take ds.length=wsG ds:=fz_take (by
    rw[putL_zero,List.take_append_of_le_length (by rw[hpl,←hnl,nlen_padD hlt];exact dig_length_le hlt)];exact hpd)
   generalize putL (List.replicate (1+1+4) 0) 0 (padD (1+1) (X+1))=W2 at *
   generalize(x0+1+0)/WB=cc at *
   generalize(x0+1+0)%WB=zz at *
   obtain⟨W1,hW1⟩: ∃w,w=putL (List.replicate (1+1+4) 0) 0 [zz]:=⟨_,rfl⟩
   rw[←hW1]at hav hz0 hf0
   generalize hZ0:List.replicate (1+1+4) 0=Z0 at *
   have hf1:(wsG W1).set (0+1) (wG cc)=wsG W2:=wsG_set.trans (congrArg wsG hf0)
   (repeat first|refine uF ?_|((first|apply oR rfl rfl|(apply dF rfl rfl rfl;intro _)|(apply dP rfl rfl rfl;intro _)|(apply dL rfl rfl rfl;intro _)|apply dC rfl rfl rfl rfl);(focus(first|exact cd [] rfl rfl (EN rfl) (hmk) rfl rfl rfl rfl rfl rfl rfl rfl rfl rfl rfl|exact mO));try exact kQ)|refine xU [10] rfl ?_)
   refine PW_freeze 0 rfl (PW_weak (env':=slots [(0, .vw 1 0 0 (1+1) (1+1+4)),(1, .g (.sl (wsG [x0]))),(2, .g (.sl (wsG [1]))),(7, .g (.int .i64 1)),(8, .g (.int .i64 1))]) (H':=⟨[],[],[.gone (g+1),AR 0 Z0]⟩) (SlotsOk.le ⟨.inl rfl, .inl (frz_vw.trans (congrArg (fun l=>PV.g (.sl l)) hrow)), .inl rfl, .inl rfl, .inl rfl,trivial⟩) (HLe.of_eq rfl) ?_)
   (repeat first|refine uF ?_|((first|apply oR rfl rfl|(apply dF rfl rfl rfl;intro _)|(apply dP rfl rfl rfl;intro _)|(apply dL rfl rfl rfl;intro _)|apply dC rfl rfl rfl rfl);(focus(first|exact vcut 1 rfl (EL rfl) (SZ rfl) rfl rfl rfl rfl rfl (by omega)|exact PO_slice_sl rfl (EL rfl) (SZ rfl) rfl rfl rfl (by decide) (show(0:Int)≤1 by decide) (show(1:Int)≤1 by decide) (fun x hx=>by rw[wsG_cells x hx];rfl)|exact ct [] rfl rfl tw_add (hav) rfl rfl rfl rfl rfl rfl rfl rfl rfl rfl rfl|exact PO_vindex 1 rfl (EL rfl) (SZ rfl) rfl rfl rfl (by omega)|exact PO_asH (PO_store_mref rfl (SZ rfl) rfl rfl rfl rfl (by decide) rfl hz0 (Nat.le_refl _)) (congrArg (fun l=>(⟨[],[],[.gone (g+1),MO.arr 0 WT l]⟩:PH)) hf1)|exact mO));try exact kQ)|refine xU [14] rfl ?_)
   refine PW_cut (slots [(6, .vw 1 0 0 ds.length (1+1+4))]) ⟨[],[],[.gone (g+1),AR 0 W2]⟩ ?_ ?_
   ·(repeat first|refine uE ?_|((first|apply oR rfl rfl|(apply dF rfl rfl rfl;intro _)|(apply dP rfl rfl rfl;intro _)|(apply dL rfl rfl rfl;intro _)|apply dC rfl rfl rfl rfl);(focus(first|exact cd [] rfl rfl (EN rfl) (hnr) rfl rfl rfl rfl rfl rfl rfl rfl rfl rfl rfl|exact mO));try exact kQ))
    exact⟨SlotsOk.le ⟨.inl rfl,trivial⟩,HLe.of_eq rfl⟩
   refine PW_freeze 1 rfl (PW_weak (env':=slots [(6, .g (.sl (wsG ds)))]) (H':=⟨[],[],[.gone (g+1), .gone (0+1)]⟩) (SlotsOk.le ⟨.inl (frz_vw.trans (congrArg (fun l=>PV.g (.sl l)) hfz)),trivial⟩) (HLe.of_eq rfl) ?_)
   (try refine uD ?_)
   refine rB ?_ ?_ ?_
   all_goals rfl
  ·have hmk:=make_in (g:=g) (o:=0) (len:=n) (cap:=c) (m:=AR g W) (n:=n+1) hc
   rw[←hw1]at hmk
   have hW0:W[0]? =some x0:=by rw[←htk,List.getElem?_take,if_pos (by omega)]at hx0;exact hx0
   have hav:=addVV1_in (g:=g) (c:=c) (c':=c) hW0
   have hml:=mulAddW_length xs 1 1
   have hfull:putL (putL W 0 [(x0+1+0)%WB]) 1 (mulAddW (xs.drop 1) 1 ((x0+1+0)/WB))=putL W 0 (mulAddW xs 1 1):=by
    rw[happ.1]
    exact putL_append (ws:=W) (us:=[(x0+1+0)%WB]) (vs:=mulAddW (xs.drop 1) 1 ((x0+1+0)/WB)) (off:=0) (by rw[mulAddW_length,hxd];show 0+1+(n-1)≤_;omega)
   have hadw:=fun(h2:2≤n)=>addVW_in (g:=g) (n:=n-1) (cap:=c-1) (cap':=c-1) (y:=(x0+1+0)/WB) (W:=putL W 0 [(x0+1+0)%WB]) (xs:=xs.drop 1) (hxo.drop 1)
    (by
     have e1:(putL W 0 [(x0+1+0)%WB]).drop 1=W.drop 1:=by rw[putL_zero];rfl
     rw[e1,←htk,List.drop_take]) hxd (by omega) (by omega) hcy (by rw[putL_length (by show 0+1≤_;omega)];omega) (by omega) (by omega)
   rw[hfull,←happ.2]at hadw
   have hone:n=1→putL W 0 [(x0+1+0)%WB]=putL W 0 (mulAddW xs 1 1)∧(x0+1+0)/WB=mulAddC xs 1 1:=fun h2=>by
    have e:xs.drop 1=[]:=List.drop_of_length_le (by omega)
    rw[happ.1,happ.2,e]
    exact⟨rfl,rfl⟩
   have hz0:(wsG (putL W 0 (mulAddW xs 1 1)))[0+n]? =some (wG ((putL W 0 (mulAddW xs 1 1))[n]'(by rw[putL_length (by omega)];omega))):=wsG_get (by rw[Nat.zero_add];exact List.getElem?_eq_getElem _)
   have hf0:(putL W 0 (mulAddW xs 1 1)).set (0+n) (mulAddC xs 1 1)=putL W 0 (padD (n+1) (X+1)):=by
    rw[set_putL (by omega) (by omega),hinc]
   have hnr:=norm_pc (g:=g) (o:=0) (n:=n+1) (cap:=c) (ws:=putL W 0 (padD (n+1) (X+1))) (l:=padD (n+1) (X+1)) (part0 hpl) (by rw[putL_length (by omega)];omega) (by omega) (by unfold maxLen;omega)
   rw[hnl]at hnr
   have hfz:((wsG (putL W 0 (padD (n+1) (X+1)))).drop 0).take ds.length=wsG ds:=fz_take (by
    rw[putL_zero,List.take_append_of_le_length (by rw[hpl,←hnl,nlen_padD hlt];exact dig_length_le hlt)];exact hpd)
   generalize(putL W 0 (mulAddW xs 1 1))[n]'_=z at hz0
   generalize putL W 0 (padD (n+1) (X+1))=W2 at *
   generalize(x0+1+0)/WB=cc at *
   generalize(x0+1+0)%WB=zz at *
   generalize mulAddC xs 1 1=cx at *
   generalize putL W 0 (mulAddW xs 1 1)=WM at *
   generalize putL W 0 [zz]=W1 at *
   have hf1:(wsG WM).set (0+n) (wG cx)=wsG W2:=wsG_set.trans (congrArg wsG hf0)
   (repeat first|refine uF ?_|((first|apply oR rfl rfl|(apply dF rfl rfl rfl;intro _)|(apply dP rfl rfl rfl;intro _)|(apply dL rfl rfl rfl;intro _)|apply dC rfl rfl rfl rfl);(focus(first|exact cd [] rfl rfl (EN rfl) (hmk) rfl rfl rfl rfl rfl rfl rfl rfl rfl rfl rfl|exact vcut 1 rfl (EL rfl) (SZ rfl) rfl rfl rfl rfl rfl (by omega)|exact PO_slice_sl rfl (EL rfl) (SZ rfl) rfl rfl rfl (by decide) (show(0:Int)≤1 by decide) (show(1:Int)≤1 by decide) (fun x hx=>by rw[wsG_cells x hx];rfl)|exact ct [] rfl rfl tw_add (hav) rfl rfl rfl rfl rfl rfl rfl rfl rfl rfl rfl|exact mO));try exact kQ)|refine xU [11] rfl ?_)
   refine PW_cut (slots [(0, .vw 0 g 0 (n+1) c),(7, .g (.int .i64 n)),(9, .g (wG cx))]) ⟨[],[],[AR g WM]⟩ ?_ ?_
   ·(try refine uD ?_)
    refine sQ (fun h=> ?_) fun h=> ?_
    ·have h2:2≤n:=by have h3:=of_decide_eq_true h;omega
     have hadw:=hadw h2
     clear h
     (repeat first|refine uE ?_|((first|apply oR rfl rfl|(apply dF rfl rfl rfl;intro _)|(apply dP rfl rfl rfl;intro _)|(apply dL rfl rfl rfl;intro _)|apply dC rfl rfl rfl rfl);(focus(first|exact PO_as (vmid 1 n rfl (EL rfl) (SZ rfl) rfl rfl rfl rfl rfl (by omega) (by omega) (by omega)) (show _=PV.vw 0 g 1 (n-1) (c-1)from rfl)|exact cd [] rfl rfl (EN rfl) (hadw) rfl rfl rfl rfl rfl rfl rfl rfl rfl rfl rfl|exact mO));try exact kQ))
     exact⟨SlotsOk.le ⟨.inl rfl, .inl rfl, .inl rfl,trivial⟩,HLe.of_eq rfl⟩
    ·have h2:n=1:=by have h3:=of_decide_eq_false h;omega
     obtain⟨e1,e2⟩:=hone h2
     clear h
     rw[e1,e2]
     (try refine uD ?_)
     exact⟨SlotsOk.le ⟨.inl rfl, .inl rfl, .inl rfl,trivial⟩,HLe.of_eq rfl⟩
   (repeat first|refine uF ?_|((first|apply oR rfl rfl|(apply dF rfl rfl rfl;intro _)|(apply dP rfl rfl rfl;intro _)|(apply dL rfl rfl rfl;intro _)|apply dC rfl rfl rfl rfl);(focus(first|exact PO_vindex n rfl (EL rfl) (SZ rfl) rfl rfl rfl (by omega)|exact PO_asH (PO_store_mref rfl (SZ rfl) rfl rfl rfl rfl (by decide) rfl hz0 (Nat.le_refl _)) (congrArg (fun l=>(⟨[],[],[MO.arr g WT l]⟩:PH)) hf1)|exact mO));try exact kQ)|refine xU [14] rfl ?_)
   refine PW_cut (slots [(6, .vw 0 g 0 ds.length c)]) ⟨[],[],[AR g W2]⟩ ?_ ?_
   ·(repeat first|refine uE ?_|((first|apply oR rfl rfl|(apply dF rfl rfl rfl;intro _)|(apply dP rfl rfl rfl;intro _)|(apply dL rfl rfl rfl;intro _)|apply dC rfl rfl rfl rfl);(focus(first|exact cd [] rfl rfl (EN rfl) (hnr) rfl rfl rfl rfl rfl rfl rfl rfl rfl rfl rfl|exact mO));try exact kQ))
    exact⟨SlotsOk.le ⟨.inl rfl,trivial⟩,HLe.of_eq rfl⟩
   refine PW_freeze 0 rfl (PW_weak (env':=slots [(6, .g (.sl (wsG ds)))]) (H':=⟨[],[],[.gone (g+1)]⟩) (SlotsOk.le ⟨.inl (frz_vw.trans (congrArg (fun l=>PV.g (.sl l)) hfz)),trivial⟩) (HLe.of_eq rfl) ?_)
   (try refine uD ?_)
   refine rB ?_ ?_ ?_
   all_goals rfl
theorem mac_pad{xs:List Nat}{n X y r:Nat}(hx:okW xs)(hv:val xs=X)(hl:xs.length=n)(hy:y<WB)(hr:r<WB):mulAddW xs y r++[mulAddC xs y r]=padD (n+1) (X *y+r)∧X *y+r<WB^(n+1):=by
 have h1:=mulAdd_val xs y r
 have h2:=val_lt (mulAddW_ok xs y r)
 have hc:=mulAddC_lt hx hy hr
 rw[mulAddW_length,hl]at h2
 rw[hv,hl]at h1
 have h3:X *y+r<WB^(n+1):=by
  rw[Nat.pow_succ]
  have h4:WB^n *(mulAddC xs y r+1)≤WB^n *WB:=Nat.mul_le_mul_left _ hc
  rw[Nat.mul_add,Nat.mul_one]at h4
  omega
 refine⟨?_,h3⟩
 refine val_inj (okW_append.2 ⟨mulAddW_ok _ _ _,okW_cons.2 ⟨hc,okW_nil⟩⟩) (padD_ok _ _) (by rw[List.length_append,mulAddW_length,padD_length,hl];rfl) ?_
 rw[val_padD h3,val_append,mulAddW_length,hl,val_cons,val_nil,Nat.mul_zero,Nat.add_zero]
 exact h1
theorem mulAddV_in{g n cap cap':Nat}{ws xs:List Nat}{y r:Nat}(hv:ws.take n=xs)(hx:okW xs)(hn:xs.length=n)(hm:n≤maxLen)(hy:y<WB)(hr:r<WB)(hfit:n≤ws.length):
  PC Tryz.prog 69 [.vw 0 g 0 n cap, .vw 0 g 0 n cap', .g (wG y), .g (wG r)] ⟨[],[],[AR g ws]⟩ (.g (wG (mulAddC xs y r))) ⟨[],[],[AR g (putL ws 0 (mulAddW xs y r))]⟩:=by
 refine eN Tryz.func69 ?_
 (repeat first|refine uA ?_|(apply oR rfl rfl;focus(first|exact PO_vlen rfl (EL rfl) rfl|exact mO)))
 refine sQ (fun h=> ?_) fun h=> ?_
 ·exfalso
  revert h
  simp
 clear h
 (repeat first|refine uA ?_|(apply oR rfl rfl;focus(first|exact PO_vlen rfl (EL rfl) rfl|exact mO)))
 refine PW_loop (S:=Nat) (fun i=>slots [(0, .vw 0 g 0 n cap),(1, .vw 0 g 0 n cap'),(2, .g (wG y)),(8, .g (wG (mulAddC (xs.take i) y r))),(18, .g (.int .i64 n)),(19, .g (.int .i64 i))]) (fun i=>⟨[],[],[AR g (putL ws 0 (mulAddW (xs.take i) y r))]⟩) (fun i=>i≤n) (fun i=>n-i) 0 (Nat.zero_le _)
  (SlotsOk.le ⟨.inl rfl, .inl rfl, .inl rfl, .inl rfl, .inl rfl, .inl rfl,trivial⟩) (HLe.of_eq (by rw[List.take_zero,mulAddW,putL_nil])) (fun i hi=> ?_)
 (try refine uN ?_)
 refine sQ (fun h=> ?_) fun h=> ?_
 ·have hlt:i<n:=by have:=of_decide_eq_true h;omega
  have hxi:xs[i]? =some (xs[i]'(by omega)):=List.getElem?_eq_getElem (by omega)
  generalize xs[i]'(by omega)=x at hxi
  have hw:=www_pc (hx.at hxi) hy (mulAddC_lt (hx.take i) hy hr)
  obtain⟨s1,s2⟩:=mulAdd_step (y:=y) (c:=r) hxi
  have hti:(mulAddW (xs.take i) y r).length=i:=by rw[mulAddW_length,List.length_take];omega
  have hz:(wsG (putL ws 0 (mulAddW (xs.take i) y r)))[0+i]? =some (wG x):=wsG_get (by
   rw[putL_get (by omega),Nat.zero_add]
   rw[←hv,List.getElem?_take,if_pos hlt]at hxi
   exact hxi)
  clear h
  (repeat first|refine uA ?_|(apply oR rfl rfl;focus(first|exact cqP hw|exact PO_load_mref_one rfl (AG rfl) rfl rfl hz rfl|exact PO_vindex i rfl (EL rfl) (SZ rfl) rfl rfl rfl hlt|exact PO_store_mref rfl (SZ rfl) rfl rfl rfl rfl (by decide) rfl hz (Nat.le_refl _)|exact mO)))
  exact⟨i+1,hlt,by omega,SlotsOk.le ⟨.inl rfl, .inl rfl, .inl rfl, .inl (by rw[s2];rfl), .inl rfl, .inl (congrArg (fun k=>PV.g (.int .i64 k)) (w64 (by unfold maxLen at hm;omega))),trivial⟩,
   HLe.of_eq (by
    rw[s1,←set_putL hti (by omega)]
    exact congrArg (fun l=>(⟨[],[],[MO.arr g WT l]⟩:PH)) wsG_set)⟩
 ·have hi':i=n:=by have:=of_decide_eq_false h;omega
  subst hi'
  rw[List.take_of_length_le (Nat.le_of_eq hn)]
  (try refine uN ?_)
  refine rB ?_ ?_ ?_
  all_goals rfl
theorem macWW_in{g c X y r:Nat}{W:List Nat}(hz:ZOk W c X)(h0:X≠0)(hroom:(dig X).length+1≤c)(hy:y<WB)(hy0:y≠0)(hr:r<WB): ∃W',ZOk W' c (X *y+r)∧PC Tryz.prog 133 [.vw 0 g 0 (dig X).length c, .vw 0 g 0 (dig X).length c, .g (wG y), .g (wG r)] ⟨[],[],[AR g W]⟩ (.vw 0 g 0 (dig (X *y+r)).length c) ⟨[],[],[AR g W']⟩:=by
 have h1:=dig_len_pos h0
 rw[wsG_length]at h1
 have hxo:=okW_dig X
 obtain⟨hmp,hlt⟩:=mac_pad (n:=(dig X).length) hxo (val_dig X) rfl hy hr
 have hcw:=hz.cw
 have hcm:=hz.cm
 have htk:=hz.tk
 refine⟨_,ZOk.padded hz.room hlt hroom, ?_⟩
 have hnl:=nlen_padD hlt
 generalize dig X=xs at *
 generalize(dig (X *y+r)).length=nd at *
 obtain⟨n,hn⟩: ∃n,xs.length=n:=⟨_,rfl⟩
 rw[hn]at h1 hroom htk hmp hnl hlt⊢
 have hn0:((n:Int)==0)=false:=beq_eq_false_iff_ne.2 (by omega)
 have hyz:((y:Int)==0)=false:=beq_eq_false_iff_ne.2 (by omega)
 have hw1:IntKind.i64.wrap ((n:Int)+1)=((n+1:Nat):Int):=by rw[w64 (by omega)];omega
 have hmk:=make_in (g:=g) (o:=0) (len:=n) (cap:=c) (m:=AR g W) (n:=n+1) hroom
 rw[←hw1]at hmk
 have hv:=mulAddV_in (g:=g) (cap:=c) (cap':=c) (y:=y) (r:=r) htk hxo hn (by unfold maxLen;omega) hy hr (by omega)
 have hml:=mulAddW_length xs y r
 have hz0:(wsG (putL W 0 (mulAddW xs y r)))[0+n]? =some (wG ((putL W 0 (mulAddW xs y r))[n]'(by rw[putL_length (by omega)];omega))):=wsG_get (by rw[Nat.zero_add];exact List.getElem?_eq_getElem _)
 have hf0:(putL W 0 (mulAddW xs y r)).set (0+n) (mulAddC xs y r)=putL W 0 (padD (n+1) (X *y+r)):=by
  rw[set_putL (by omega) (by omega),hmp]
 have hpl:=padD_length (n+1) (X *y+r)
 have hnr:=norm_pc (g:=g) (o:=0) (n:=n+1) (cap:=c) (ws:=putL W 0 (padD (n+1) (X *y+r))) (l:=padD (n+1) (X *y+r)) (part0 hpl) (by rw[putL_length (by omega)];omega) (by omega) (by unfold maxLen;omega)
 rw[hnl]at hnr
 generalize(putL W 0 (mulAddW xs y r))[n]'_=z at hz0
 generalize putL W 0 (padD (n+1) (X *y+r))=W2 at *
 generalize mulAddC xs y r=cx at *
 generalize putL W 0 (mulAddW xs y r)=W1 at *
 have hf1:(wsG W1).set (0+n) (wG cx)=wsG W2:=wsG_set.trans (congrArg wsG hf0)
 refine eN Tryz.func133 ?_
 (repeat first|refine uA ?_|(apply oR rfl rfl;focus(first|exact PO_vlen rfl (EL rfl) rfl|exact mO)))
 refine sQ (fun h=> ?_) fun h=> ?_
 ·exfalso;rw[hn0]at h;cases h
 clear h
 (try refine uN ?_)
 refine sQ (fun h=> ?_) fun h=> ?_
 ·exfalso;rw[hyz]at h;cases h
 clear h
 (repeat first|refine uA ?_|(apply oR rfl rfl;focus(first|exact cd [] rfl rfl (EN rfl) (hmk) rfl rfl rfl rfl rfl rfl rfl rfl rfl rfl rfl|exact vcut n rfl (EL rfl) (SZ rfl) rfl rfl rfl rfl rfl (by omega)|exact ct [] rfl rfl tw_mulAdd (hv) rfl rfl rfl rfl rfl rfl rfl rfl rfl rfl rfl|exact PO_vindex n rfl (EL rfl) (SZ rfl) rfl rfl rfl (by omega)|exact cd [] rfl rfl (EN rfl) (hnr) rfl rfl rfl rfl rfl rfl rfl rfl rfl rfl rfl|exact PO_asH (PO_store_mref rfl (SZ rfl) rfl rfl rfl rfl (by decide) rfl hz0 (Nat.le_refl _)) (congrArg (fun l=>(⟨[],[],[MO.arr g WT l]⟩:PH)) hf1)|exact mO)))
 refine rB ?_ ?_ ?_
 all_goals rfl
theorem macWW_out{g c X y r:Nat}{W:List Nat}(hz:ZOk W c X)(h0:X≠0)(hlen:(dig X).length≤100)(hroom:c<(dig X).length+1)(hy:y<WB)(hy0:y≠0)(hr:r<WB): ∃W',ZOk W' ((dig X).length+1+4) (X *y+r)∧PC Tryz.prog 133 [.vw 0 g 0 (dig X).length c, .vw 0 g 0 (dig X).length c, .g (wG y), .g (wG r)] ⟨[],[],[AR g W]⟩ (.vw 1 0 0 (dig (X *y+r)).length ((dig X).length+1+4)) ⟨[],[],[.gone (g+1),AR 0 W']⟩:=by
 have h1:=dig_len_pos h0
 rw[wsG_length]at h1
 have hxo:=okW_dig X
 obtain⟨hmp,hlt⟩:=mac_pad (n:=(dig X).length) hxo (val_dig X) rfl hy hr
 have hle:=hz.le
 have hcm:=hz.cm
 have htk:=hz.tk
 refine⟨_,ZOk.padded (ROk.rep (k:=(dig X).length+1+4) (by omega) (by omega)) hlt (by omega), ?_⟩
 have hnl:=nlen_padD hlt
 generalize dig X=xs at *
 generalize(dig (X *y+r)).length=nd at *
 obtain⟨n,hn⟩: ∃n,xs.length=n:=⟨_,rfl⟩
 rw[hn]at h1 hroom htk hmp hnl hlt hle⊢
 have hn0:((n:Int)==0)=false:=beq_eq_false_iff_ne.2 (by omega)
 have hyz:((y:Int)==0)=false:=beq_eq_false_iff_ne.2 (by omega)
 have hw1:IntKind.i64.wrap ((n:Int)+1)=((n+1:Nat):Int):=by rw[w64 (by omega)];omega
 have hmk:=make_out (g:=g) (o:=0) (len:=n) (cap:=c) (m:=AR g W) (n:=n+1) (by omega) hroom (by omega)
 rw[←hw1]at hmk
 have hrow:((wsG W).drop 0).take n=wsG xs:=fz_take htk
 obtain⟨Z0,hZ0⟩: ∃z,z=List.replicate (n+1+4) 0:=⟨_,rfl⟩
 have hzl:Z0.length=n+5:=by rw[hZ0,List.length_replicate]
 rw[←hZ0]at hmk⊢
 have hv:=mulAddV_pc (g:=0) (o:=0) (n:=n) (cap:=n+1+4) (ws:=Z0) (xs:=xs) (y:=y) (r:=r) hxo hn (by unfold maxLen;omega) hy hr (by omega)
 have hml:=mulAddW_length xs y r
 have hz0:(wsG (putL Z0 0 (mulAddW xs y r)))[0+n]? =some (wG ((putL Z0 0 (mulAddW xs y r))[n]'(by rw[putL_length (by omega)];omega))):=wsG_get (by rw[Nat.zero_add];exact List.getElem?_eq_getElem _)
 have hf0:(putL Z0 0 (mulAddW xs y r)).set (0+n) (mulAddC xs y r)=putL Z0 0 (padD (n+1) (X *y+r)):=by
  rw[set_putL (by omega) (by omega),hmp]
 have hpl:=padD_length (n+1) (X *y+r)
 have hnr:=norm_pc (g:=0) (o:=0) (n:=n+1) (cap:=n+1+4) (ws:=putL Z0 0 (padD (n+1) (X *y+r))) (l:=padD (n+1) (X *y+r)) (part0 hpl) (by rw[putL_length (by omega)];omega) (by omega) (by unfold maxLen;omega)
 rw[hnl]at hnr
 generalize(putL Z0 0 (mulAddW xs y r))[n]'_=z at hz0
 generalize putL Z0 0 (padD (n+1) (X *y+r))=W2 at *
 generalize mulAddC xs y r=cx at *
 generalize putL Z0 0 (mulAddW xs y r)=W1 at *
 have hf1:(wsG W1).set (0+n) (wG cx)=wsG W2:=wsG_set.trans (congrArg wsG hf0)
 refine eN Tryz.func133 ?_
 (repeat first|refine uA ?_|(apply oR rfl rfl;focus(first|exact PO_vlen rfl (EL rfl) rfl|exact mO)))
 refine sQ (fun h=> ?_) fun h=> ?_
 ·exfalso;rw[hn0]at h;cases h
 clear h
 (try refine uN ?_)
 refine sQ (fun h=> ?_) fun h=> ?_
 ·exfalso;rw[hyz]at h;cases h
 clear h
 (repeat first|refine uC ?_|(apply oR rfl rfl;focus(first|exact cd [] rfl rfl (EN rfl) (hmk) rfl rfl rfl rfl rfl rfl rfl rfl rfl rfl rfl|exact mO))|refine xU [5] rfl ?_)
 refine PW_freeze 0 rfl (PW_weak (env':=slots [(0, .vw 1 0 0 (n+1) (n+1+4)),(1, .g (.sl (wsG xs))),(2, .g (wG y)),(3, .g (wG r)),(9, .g (.int .i64 n))]) (H':=⟨[],[],[.gone (g+1),AR 0 Z0]⟩) (SlotsOk.le ⟨.inl rfl, .inl (frz_vw.trans (congrArg (fun l=>PV.g (.sl l)) hrow)), .inl rfl, .inl rfl, .inl rfl,trivial⟩) (HLe.of_eq rfl) ?_)
 (repeat first|refine uA ?_|(apply oR rfl rfl;focus(first|exact vcut n rfl (EL rfl) (SZ rfl) rfl rfl rfl rfl rfl (by omega)|exact ct [] rfl rfl tw_mulAdd (hv) rfl rfl rfl rfl rfl rfl rfl rfl rfl rfl rfl|exact PO_vindex n rfl (EL rfl) (SZ rfl) rfl rfl rfl (by omega)|exact cd [] rfl rfl (EN rfl) (hnr) rfl rfl rfl rfl rfl rfl rfl rfl rfl rfl rfl|exact PO_asH (PO_store_mref rfl (SZ rfl) rfl rfl rfl rfl (by decide) rfl hz0 (Nat.le_refl _)) (congrArg (fun l=>(⟨[],[],[.gone (g+1),MO.arr 0 WT l]⟩:PH)) hf1)|exact mO)))
 refine rB ?_ ?_ ?_
 all_goals rfl
theorem macWW_nils{y r:Nat}(hr:r≠0):PC Tryz.prog 133 [.nils, .nils, .g (wG y), .g (wG r)] ⟨[],[],[]⟩ (.vw 0 0 0 1 1) ⟨[],[],[AR 0 [r]]⟩:=by
 have hw:=setWord_pc hr
 refine eN Tryz.func133 ?_
 (repeat first|refine uA ?_|(apply oR rfl rfl;focus(first|exact cd [true] rfl rfl (EN rfl) (hw) rfl rfl rfl rfl rfl rfl rfl rfl rfl rfl rfl|exact mO)))
 refine rB ?_ ?_ ?_
 all_goals rfl
theorem macWW_nils0{y:Nat}:PC Tryz.prog 133 [.nils, .nils, .g (wG y), .g (wG 0)] ⟨[],[],[]⟩ .nils ⟨[],[],[]⟩:=by
 have hw:=setWord_0
 refine eN Tryz.func133 ?_
 (repeat first|refine uA ?_|(apply oR rfl rfl;focus(first|exact cb [true] rfl rfl (EN rfl) (hw) rfl rfl rfl rfl rfl rfl rfl rfl rfl rfl rfl|exact mO)))
 refine rB ?_ ?_ ?_
 all_goals rfl
theorem maxPow_10:PC Tryz.prog 132 [.g (.int .u64 10)] ⟨[],[],[]⟩ (.tuple [.g (.int .u64 10000000000000000000), .g (.int .i64 19)]) ⟨[],[],[]⟩:=by
 refine eN Tryz.func132 ?_
 (repeat first|refine uA ?_|(apply oR rfl rfl;focus(first|exact PO_quo rfl rfl rfl (by decide)|exact mO)))
 refine PW_loop_n 20 ?_
 (try refine uN ?_)
 refine rE ?_ ?_
 ·exact congrArg (GV.int .u64) (by decide+kernel)
 ·exact congrArg (GV.int .i64) (by decide+kernel)
end Go.Proofs.YtdoenpeadkoklaaGreatFmtBesafter