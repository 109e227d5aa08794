/- What the program's functions compute, each shown once; and plain laws of it. -/
import Derived.Test.YtdoenpeadkoklaaGreatFmtBesafterOwnK
import Derived.Test.YtdoenpeadkoklaaGreatFmtBesafterPureC
import Derived.Test.YtdoenpeadkoklaaGreatFmtBesafterPureD
set_option maxRecDepth 100000
set_option maxHeartbeats 32000000
namespace Go.Proofs.YtdoenpeadkoklaaGreatFmtBesafter
open Go Go.Pure
attribute [local irreducible] PW POps POpsD PO PC Cond
theorem subVV_pc{g o n cap cap' g1 o1 c1:Nat}{ws xs ys ws1:List Nat}(hv1:(ws1.drop o1).take n=ys)(hw:okW ws)(hv:(ws.drop o).take n=xs)(hy:okW ys)(hn:ys.length=n)(hm:n≤maxLen)(hfit:o+n≤ws.length):
  PC Tryz.prog 66 [.vw 0 g o n cap, .vw 0 g o n cap', .vw 1 g1 o1 n c1] ⟨[],[],[AR g ws,AR g1 ws1]⟩ (.g (wG (subC xs ys 0))) ⟨[],[],[AR g (putL ws o (subW xs ys 0)),AR g1 ws1]⟩:=by
 have hxl:xs.length=n:=by rw[←hv];simp;omega
 have hxo:okW xs:=by rw[←hv];exact(hw.drop o).take n
 refine eN Tryz.func66 ?_
 (repeat' first|refine uF ?_|((first|apply oR rfl rfl|(apply dF rfl rfl rfl;intro _)|(apply dP rfl rfl rfl;intro _)|(apply dL rfl rfl rfl;intro _)|apply dC rfl rfl rfl rfl);(focus(first|exact PO_vlen rfl (EL rfl) rfl|exact mO));try exact kQ)|refine xU [3] rfl ?_|(refine sQ (fun h=> ?_) (fun h=> ?_)<;>fail_if_success (first|(have:true=true:=h)|(have:false=false:=h)))|fail)
 all_goals(try(exfalso;simp at h;done))
 all_goals try clear h
 (repeat first|refine uE ?_|((first|apply oR rfl rfl|(apply dF rfl rfl rfl;intro _)|(apply dP rfl rfl rfl;intro _)|(apply dL rfl rfl rfl;intro _)|apply dC rfl rfl rfl rfl);(focus(first|exact PO_vlen rfl (EL rfl) rfl|exact mO));try exact kQ))
 refine PW_loop (S:=Nat) (fun i=>slots [(0, .vw 0 g o n cap),(1, .vw 0 g o n cap'),(2, .vw 1 g1 o1 n c1),(6, .g (wG (subC (xs.take i) (ys.take i) 0))),(24, .g (.int .i64 n)),(25, .g (.int .i64 i))]) (fun i=>⟨[],[],[AR g (putL ws o (subW (xs.take i) (ys.take i) 0)),AR g1 ws1]⟩) (fun i=>i≤n) (fun i=>n-i) 0 (Nat.zero_le _)
  (SlotsOk.le ⟨.inl rfl, .inl rfl, .inl rfl, .inl rfl, .inl rfl, .inl rfl,trivial⟩) (HLe.of_eq (by simp only[List.take_zero,subW,putL_nil])) (fun i hi=> ?_)
 (try refine uD ?_)
 refine sQ (fun h=> ?_) fun h=> ?_
 ·have hlt:i<n:=by have:=of_decide_eq_true h;omega
  have hxi:xs[i]? =some (xs[i]'(by omega)):=List.getElem?_eq_getElem (by omega)
  generalize xs[i]'(by omega)=x at hxi
  have hyi:ys[i]? =some (ys[i]'(by omega)):=List.getElem?_eq_getElem (by omega)
  generalize ys[i]'(by omega)=y at hyi
  have hz1:(wsG ws1)[o1+i]? =some (wG y):=wsG_get (by rw[←hv1,List.getElem?_take,if_pos hlt,List.getElem?_drop]at hyi;exact hyi)
  have hC:=subC_le (xs.take i) (ys.take i) 0 (by omega)
  have hti:(subW (xs.take i) (ys.take i) 0).length=i:=by rw[subW_length (by rw[List.length_take,List.length_take];omega),List.length_take];omega
  have hz:(wsG (putL ws o (subW (xs.take i) (ys.take i) 0)))[o+i]? =some (wG x):=wsG_get (by rw[putL_get (by omega)];rw[←hv,List.getElem?_take,if_pos hlt,List.getElem?_drop]at hxi;exact hxi)
  have h1:=bsub_pc (x:=x) (y:=y) hC
  obtain⟨s1,s2⟩:=sub_step (c:=0) hxi hyi
  rw[←s2]at h1
  clear h
  (repeat first|refine uG ?_|(apply dR rfl rfl;focus(first|exact Cond_mload rfl rfl (AG rfl) rfl rfl hz rfl|exact Cond_mload rfl rfl (AG rfl) rfl rfl hz1 rfl))|((first|apply oR rfl rfl|(apply dF rfl rfl rfl;intro _)|(apply dP rfl rfl rfl;intro _)|(apply dL rfl rfl rfl;intro _)|apply dC rfl rfl rfl rfl);(focus(first|exact cqP h1|exact PO_vindex i rfl (EL rfl) (SZ rfl) rfl rfl rfl hlt|exact PO_store_mref rfl (SZ rfl) rfl rfl rfl rfl (by decide) rfl hz (Nat.le_refl _)|exact mO));try exact kQ)|refine xK false false [10000,10001] rfl mixed (by decide+kernel) ?_|refine xK false true [10000,10001] rfl mixed (by decide+kernel) ?_|refine xK true false [10000,10001] rfl mixed (by decide+kernel) ?_|refine xK true true [10000,10001] rfl mixed (by decide+kernel) ?_)
  exact⟨i+1,hlt,by omega,SlotsOk.le ⟨.inl rfl, .inl rfl, .inl rfl, .inl rfl, .inl rfl, .inl (congrArg (fun k=>PV.g (.int .i64 k)) (w64 (by unfold maxLen at hm;omega))),trivial⟩,
   HLe.of_eq (by
    rw[s1,←set_putL hti (by omega)]
    exact congrArg (fun l=>(⟨[],[],[MO.arr g WT l,AR g1 ws1]⟩:PH)) wsG_set)⟩
 ·have hi':i=n:=by have:=of_decide_eq_false h;omega
  subst hi'
  rw[List.take_of_length_le (Nat.le_of_eq hn),List.take_of_length_le (Nat.le_of_eq hxl)]
  (try refine uD ?_)
  refine rB ?_ ?_ ?_
  all_goals rfl
theorem addVV_pc{g o n cap cap' g1 o1 c1:Nat}{ws xs ys ws1:List Nat}(hv1:(ws1.drop o1).take n=ys)(hw:okW ws)(hv:(ws.drop o).take n=xs)(hy:okW ys)(hn:ys.length=n)(hm:n≤maxLen)(hfit:o+n≤ws.length):
  PC Tryz.prog 65 [.vw 0 g o n cap, .vw 0 g o n cap', .vw 1 g1 o1 n c1] ⟨[],[],[AR g ws,AR g1 ws1]⟩ (.g (wG (addC xs ys 0))) ⟨[],[],[AR g (putL ws o (addW xs ys 0)),AR g1 ws1]⟩:=by
 have hxl:xs.length=n:=by rw[←hv];simp;omega
 have hxo:okW xs:=by rw[←hv];exact(hw.drop o).take n
 refine eN Tryz.func65 ?_
 (repeat' first|refine uF ?_|((first|apply oR rfl rfl|(apply dF rfl rfl rfl;intro _)|(apply dP rfl rfl rfl;intro _)|(apply dL rfl rfl rfl;intro _)|apply dC rfl rfl rfl rfl);(focus(first|exact PO_vlen rfl (EL rfl) rfl|exact mO));try exact kQ)|refine xU [3] rfl ?_|(refine sQ (fun h=> ?_) (fun h=> ?_)<;>fail_if_success (first|(have:true=true:=h)|(have:false=false:=h)))|fail)
 all_goals(try(exfalso;simp at h;done))
 all_goals try clear h
 (repeat first|refine uE ?_|((first|apply oR rfl rfl|(apply dF rfl rfl rfl;intro _)|(apply dP rfl rfl rfl;intro _)|(apply dL rfl rfl rfl;intro _)|apply dC rfl rfl rfl rfl);(focus(first|exact PO_vlen rfl (EL rfl) rfl|exact mO));try exact kQ))
 refine PW_loop (S:=Nat) (fun i=>slots [(0, .vw 0 g o n cap),(1, .vw 0 g o n cap'),(2, .vw 1 g1 o1 n c1),(6, .g (wG (addC (xs.take i) (ys.take i) 0))),(24, .g (.int .i64 n)),(25, .g (.int .i64 i))]) (fun i=>⟨[],[],[AR g (putL ws o (addW (xs.take i) (ys.take i) 0)),AR g1 ws1]⟩) (fun i=>i≤n) (fun i=>n-i) 0 (Nat.zero_le _)
  (SlotsOk.le ⟨.inl rfl, .inl rfl, .inl rfl, .inl rfl, .inl rfl, .inl rfl,trivial⟩) (HLe.of_eq (by simp only[List.take_zero,addW,putL_nil])) (fun i hi=> ?_)
 (try refine uD ?_)
 refine sQ (fun h=> ?_) fun h=> ?_
 ·have hlt:i<n:=by have:=of_decide_eq_true h;omega
  have hxi:xs[i]? =some (xs[i]'(by omega)):=List.getElem?_eq_getElem (by omega)
  generalize xs[i]'(by omega)=x at hxi
  have hyi:ys[i]? =some (ys[i]'(by omega)):=List.getElem?_eq_getElem (by omega)
  generalize ys[i]'(by omega)=y at hyi
  have hz1:(wsG ws1)[o1+i]? =some (wG y):=wsG_get (by rw[←hv1,List.getElem?_take,if_pos hlt,List.getElem?_drop]at hyi;exact hyi)
  have hC:=addC_le (hxo.take i) (hy.take i) (show 0≤1 by omega)
  have hti:(addW (xs.take i) (ys.take i) 0).length=i:=by rw[addW_length (by rw[List.length_take,List.length_take];omega),List.length_take];omega
  have hz:(wsG (putL ws o (addW (xs.take i) (ys.take i) 0)))[o+i]? =some (wG x):=wsG_get (by rw[putL_get (by omega)];rw[←hv,List.getElem?_take,if_pos hlt,List.getElem?_drop]at hxi;exact hxi)
  have h1:=badd_pc (x:=x) (y:=y) hC
  obtain⟨s1,s2⟩:=add_step (c:=0) hxi hyi
  rw[←s2]at h1
  clear h
  (repeat first|refine uG ?_|(apply dR rfl rfl;focus(first|exact Cond_mload rfl rfl (AG rfl) rfl rfl hz rfl|exact Cond_mload rfl rfl (AG rfl) rfl rfl hz1 rfl))|((first|apply oR rfl rfl|(apply dF rfl rfl rfl;intro _)|(apply dP rfl rfl rfl;intro _)|(apply dL rfl rfl rfl;intro _)|apply dC rfl rfl rfl rfl);(focus(first|exact cqP h1|exact PO_vindex i rfl (EL rfl) (SZ rfl) rfl rfl rfl hlt|exact PO_store_mref rfl (SZ rfl) rfl rfl rfl rfl (by decide) rfl hz (Nat.le_refl _)|exact mO));try exact kQ)|refine xK false false [10000,10001] rfl mixed (by decide+kernel) ?_|refine xK false true [10000,10001] rfl mixed (by decide+kernel) ?_|refine xK true false [10000,10001] rfl mixed (by decide+kernel) ?_|refine xK true true [10000,10001] rfl mixed (by decide+kernel) ?_)
  exact⟨i+1,hlt,by omega,SlotsOk.le ⟨.inl rfl, .inl rfl, .inl rfl, .inl rfl, .inl rfl, .inl (congrArg (fun k=>PV.g (.int .i64 k)) (w64 (by unfold maxLen at hm;omega))),trivial⟩,
   HLe.of_eq (by
    rw[s1,←set_putL hti (by omega)]
    exact congrArg (fun l=>(⟨[],[],[MO.arr g WT l,AR g1 ws1]⟩:PH)) wsG_set)⟩
 ·have hi':i=n:=by have:=of_decide_eq_false h;omega
  subst hi'
  rw[List.take_of_length_le (Nat.le_of_eq hn),List.take_of_length_le (Nat.le_of_eq hxl)]
  (try refine uD ?_)
  refine rB ?_ ?_ ?_
  all_goals rfl
theorem and63{n:Nat}(h:n<64):IntKind.u64.wrap (((BitVec.ofInt IntKind.u64.bits (n:Int) &&& BitVec.ofInt IntKind.u64.bits 63).toNat:Nat):Int)=((n:Nat):Int):=by
 have e:n &&& 63=n:=by
  have:=Nat.and_two_pow_sub_one_eq_mod n 6
  rw[show 2^6-1=63 from rfl,show 2^6=64 from rfl,Nat.mod_eq_of_lt h]at this
  exact this
 refine u64_wrap ?_ (by unfold WB;omega)
 show(((BitVec.ofInt 64 (n:Int) &&& BitVec.ofInt 64 ((63:Nat):Int)).toNat:Nat):Int)=_
 rw[BitVec.ofInt_natCast,BitVec.ofInt_natCast,BitVec.toNat_and,BitVec.toNat_ofNat,BitVec.toNat_ofNat,Nat.mod_eq_of_lt (show n<2^64 by omega),Nat.mod_eq_of_lt (show 63<2^64 by decide),e]
theorem or_rawB{a b:Nat}(ha:a<WB)(hb:b<WB):IntKind.u64.wrap (((BitVec.ofInt IntKind.u64.bits (a:Int) ||| BitVec.ofInt IntKind.u64.bits (b:Int)).toNat:Nat):Int)=((a ||| b:Nat):Int):=by
 have ha':a<2^64:=ha
 have hb':b<2^64:=hb
 refine u64_wrap ?_ (Nat.or_lt_two_pow ha' hb')
 show(((BitVec.ofInt 64 (a:Int) ||| BitVec.ofInt 64 (b:Int)).toNat:Nat):Int)=_
 rw[BitVec.ofInt_natCast,BitVec.ofInt_natCast,BitVec.toNat_or,BitVec.toNat_ofNat,BitVec.toNat_ofNat,Nat.mod_eq_of_lt ha',Nat.mod_eq_of_lt hb']
theorem shr_rawB{n s:Nat}(hs:s≤64):((n:Int)).fdiv (2^min ((s:Int)).toNat IntKind.u64.bits)=((n/2^s:Nat):Int):=by
 rw[Int.toNat_natCast,Nat.min_eq_left (show s≤IntKind.u64.bits from hs),show((2:Int)^s)=((2^s:Nat):Int) by push_cast;rfl,Int.fdiv_eq_ediv_of_nonneg _ (Int.natCast_nonneg _)]
 rfl
theorem lsh_pc{g cap s:Nat}{ws xs:List Nat}(hx:okW xs)(h1:1≤(wsG xs).length)(hn:(wsG xs).length≤ws.length)(hm:(wsG xs).length≤100000)(hs1:1≤s)(hs:s<64):
  PC Tryz.prog 67 [.vw 0 g 0 (wsG xs).length cap, .g (.sl (wsG xs)), .g (.int .u64 s)] ⟨[],[],[AR g ws]⟩ (.g (wG (upC xs s))) ⟨[],[],[AR g (putL ws 0 (upR xs s))]⟩:=by
 have hl:=wsG_length xs
 have hT:=upR_length xs s
 obtain⟨m,hm1⟩: ∃m,xs.length=m+1:=⟨xs.length-1,by omega⟩
 have hxm:xs[m]? =some (xs[m]'(by omega)):=List.getElem?_eq_getElem (by omega)
 obtain⟨xm,hxm1⟩: ∃x,x=xs[m]'(by omega):=⟨_,rfl⟩
 rw[←hxm1]at hxm
 have hc:=upC_last (s:=s) (by omega) hx hxm
 rw[←hm1,List.take_length]at hc
 have hne:(((wsG xs).length:Int) !=((wsG xs).length:Int))=false:=by simp
 have hs0:((s:Int)==0)=false:=beq_eq_false_iff_ne.2 (by omega)
 have hl0:(((wsG xs).length:Int)==0)=false:=beq_eq_false_iff_ne.2 (by omega)
 have ha:=and63 hs
 have hb:IntKind.u64.wrap (64-(s:Int))=((64-s:Nat):Int):=by rw[show(64:Int)-(s:Int)=((64-s:Nat):Int) by omega];exact u64_wrap rfl (by unfold WB;omega)
 have hd:=and63 (n:=64-s) (by omega)
 have hlen1:IntKind.i64.wrap (((wsG xs).length:Int)-1)=((m:Nat):Int):=by rw[w64 (by omega)];omega
 have hgm:(wsG xs)[(IntKind.i64.wrap (((wsG xs).length:Int)-1)).toNat]? =some (wG xm):=by rw[hlen1,Int.toNat_natCast];exact wsG_get hxm
 refine eN Tryz.func67 ?_
 (repeat first|refine uE ?_|((first|apply oR rfl rfl|(apply dF rfl rfl rfl;intro _)|(apply dP rfl rfl rfl;intro _)|(apply dL rfl rfl rfl;intro _)|apply dC rfl rfl rfl rfl);(focus(first|exact PO_vlen rfl (EL rfl) rfl|exact mO));try exact kQ))
 refine sQ (fun h=> ?_) fun h=> ?_
 ·exfalso;rw[hne]at h;cases h
 clear h
 (try refine uD ?_)
 refine sQ (fun h=> ?_) fun h=> ?_
 ·exfalso;rw[hs0]at h;cases h
 clear h
 (repeat first|refine uE ?_|((first|apply oR rfl rfl|(apply dF rfl rfl rfl;intro _)|(apply dP rfl rfl rfl;intro _)|(apply dL rfl rfl rfl;intro _)|apply dC rfl rfl rfl rfl);(focus(first|exact PO_vlen rfl (EL rfl) rfl|exact mO));try exact kQ))
 refine sQ (fun h=> ?_) fun h=> ?_
 ·exfalso;rw[hl0]at h;cases h
 clear h
 (repeat first|refine uF ?_|((first|apply oR rfl rfl|(apply dF rfl rfl rfl;intro _)|(apply dP rfl rfl rfl;intro _)|(apply dL rfl rfl rfl;intro _)|apply dC rfl rfl rfl rfl);(focus(first|exact mO));try exact kQ)|refine xU [7] rfl ?_)
 refine PW_weak (env':=slots [(0, .vw 0 g 0 (wsG xs).length cap),(1, .g (.sl (wsG xs))),(2, .g (.int .u64 s))]) (H':=⟨[],[],[AR g ws]⟩) (SlotsOk.le ⟨.inl rfl, .inl rfl, .inl (congrArg (fun k=>PV.g (.int .u64 k)) ha),trivial⟩) (HLe.of_eq rfl) ?_
 (repeat first|refine uF ?_|((first|apply oR rfl rfl|(apply dF rfl rfl rfl;intro _)|(apply dP rfl rfl rfl;intro _)|(apply dL rfl rfl rfl;intro _)|apply dC rfl rfl rfl rfl);(focus(first|exact mO));try exact kQ)|refine xU [8] rfl ?_)
 refine PW_weak (env':=slots [(0, .vw 0 g 0 (wsG xs).length cap),(1, .g (.sl (wsG xs))),(2, .g (.int .u64 s)),(7, .g (.int .u64 ((64-s:Nat):Int)))]) (H':=⟨[],[],[AR g ws]⟩) (SlotsOk.le ⟨.inl rfl, .inl rfl, .inl rfl, .inl (congrArg (fun k=>PV.g (.int .u64 k)) hb),trivial⟩) (HLe.of_eq rfl) ?_
 (repeat first|refine uF ?_|((first|apply oR rfl rfl|(apply dF rfl rfl rfl;intro _)|(apply dP rfl rfl rfl;intro _)|(apply dL rfl rfl rfl;intro _)|apply dC rfl rfl rfl rfl);(focus(first|exact mO));try exact kQ)|refine xU [9] rfl ?_)
 refine PW_weak (env':=slots [(0, .vw 0 g 0 (wsG xs).length cap),(1, .g (.sl (wsG xs))),(2, .g (.int .u64 s)),(7, .g (.int .u64 ((64-s:Nat):Int)))]) (H':=⟨[],[],[AR g ws]⟩) (SlotsOk.le ⟨.inl rfl, .inl rfl, .inl rfl, .inl (congrArg (fun k=>PV.g (.int .u64 k)) hd),trivial⟩) (HLe.of_eq rfl) ?_
 (repeat first|refine uE ?_|((first|apply oR rfl rfl|(apply dF rfl rfl rfl;intro _)|(apply dP rfl rfl rfl;intro _)|(apply dL rfl rfl rfl;intro _)|apply dC rfl rfl rfl rfl);(focus(first|exact PO_vlen rfl (EL rfl) rfl|exact iA (g:=wG xm) rfl (EL rfl) (SZ rfl) rfl rfl (by rw[hlen1];exact Int.natCast_nonneg _) hgm rfl|exact PO_shr rfl rfl rfl (Int.natCast_nonneg _)|exact mO));try exact kQ))
 refine PW_loop (S:=Nat) (fun k=>slots [(0, .vw 0 g 0 (wsG xs).length cap),(1, .g (.sl (wsG xs))),(2, .g (.int .u64 s)),(6, .g (wG (upC xs s))),(7, .g (.int .u64 ((64-s:Nat):Int))),(8, .g (.int .i64 (k:Int)))]) (fun k=>⟨[],[],[AR g (upB ws (upR xs s) (k+1))]⟩) (fun k=>k≤m) (fun k=>k) m (Nat.le_refl _)
  (SlotsOk.le ⟨.inl rfl, .inl rfl, .inl rfl, .inl (congrArg (fun z=>PV.g (.int .u64 z)) (by rw[hc];exact shr_rawB (by omega))), .inl rfl, .inl (congrArg (fun z=>PV.g (.int .i64 z)) hlen1),trivial⟩) (HLe.of_eq (by rw[←hm1,←hT,upB_start])) (fun k hk=> ?_)
 have hul:=upB_length (ws:=ws) (T:=upR xs s) (k:=k+1) (by omega) (by omega)
 have hxk:xs[k]? =some (xs[k]'(by omega)):=List.getElem?_eq_getElem (by omega)
 obtain⟨x,hx1⟩: ∃x,x=xs[k]'(by omega):=⟨_,rfl⟩
 rw[←hx1]at hxk
 have hgx:(wsG xs)[((k:Nat):Int).toNat]? =some (wG x):=wsG_get hxk
 have hgz:(wsG (upB ws (upR xs s) (k+1)))[0+k]? =some (wG ((upB ws (upR xs s) (k+1))[k]'(by omega))):=wsG_get (by rw[Nat.zero_add];exact List.getElem?_eq_getElem _)
 obtain⟨z,hz2⟩: ∃z,z=(upB ws (upR xs s) (k+1))[k]'(by omega):=⟨_,rfl⟩
 rw[←hz2]at hgz
 have hsx:=shl_raw (n:=x) (s:=s) (by omega)
 cases k with
 |zero=>
  have hst:=upB_step (ws:=ws) (upR_zero (s:=s) hxk) (by omega)
  rw[upB_done]at hst
  (repeat first|refine uE ?_|((first|apply oR rfl rfl|(apply dF rfl rfl rfl;intro _)|(apply dP rfl rfl rfl;intro _)|(apply dL rfl rfl rfl;intro _)|apply dC rfl rfl rfl rfl);(focus(first|exact iA (g:=wG x) rfl (EL rfl) (SZ rfl) rfl rfl (by decide) hgx rfl|exact PO_as (PO_shl rfl rfl rfl (Int.natCast_nonneg _)) (congrArg (fun k=>PV.g (.int .u64 k)) hsx)|exact PO_vindex 0 rfl (EL rfl) (SZ rfl) rfl rfl rfl (by omega)|exact PO_store_mref rfl (SZ rfl) rfl rfl rfl rfl (by decide) rfl hgz (Nat.le_refl _)|exact mO));try exact kQ))
  have e:(wsG (upB ws (upR xs s) (0+1))).set (0+0) (wG (x *2^s%WB))=wsG (putL ws 0 (upR xs s)):=by rw[←hst];exact wsG_set
  rw[show AR g (putL ws 0 (upR xs s))= .arr g WT ((wsG (upB ws (upR xs s) (0+1))).set (0+0) (wG (x *2^s%WB)))from congrArg (MO.arr g WT) e.symm]
  refine rB ?_ ?_ ?_
  all_goals rfl
 |succ k=>
  have hyk:xs[k]? =some (xs[k]'(by omega)):=List.getElem?_eq_getElem (by omega)
  obtain⟨y,hy1⟩: ∃y,y=xs[k]'(by omega):=⟨_,rfl⟩
  rw[←hy1]at hyk
  have hk1:IntKind.i64.wrap (((k+1:Nat):Int)-1)=((k:Nat):Int):=by rw[w64 (by omega)];omega
  have hgy:(wsG xs)[(IntKind.i64.wrap (((k+1:Nat):Int)-1)).toNat]? =some (wG y):=by rw[hk1,Int.toNat_natCast];exact wsG_get hyk
  have hst:=upB_step (ws:=ws) (upR_get (s:=s) (by omega) hx hxk hyk) (by omega)
  have hsy:=shr_rawB (n:=y) (s:=64-s) (by omega)
  have hy2:y/2^(64-s)<WB:=Nat.lt_of_le_of_lt (Nat.div_le_self _ _) (hx.at hyk)
  have hor:=or_rawB (a:=x *2^s%WB) (b:=y/2^(64-s)) (Nat.mod_lt _ (by decide)) hy2
  obtain⟨A,hA⟩: ∃A,A=x *2^s%WB:=⟨_,rfl⟩
  obtain⟨B,hB⟩: ∃B,B=y/2^(64-s):=⟨_,rfl⟩
  rw[←hA]at hsx hor hst
  rw[←hB]at hsy hor hst
  (try refine uD ?_)
  refine sQ (fun h=> ?_) fun h=> ?_
  ·clear h
   (repeat first|refine uE ?_|(apply dR rfl rfl;focus(first|exact Cond_mstore rfl (SZ rfl) rfl rfl rfl rfl (by decide) rfl hgz (Nat.le_refl _)))|((first|apply oR rfl rfl|(apply dF rfl rfl rfl;intro _)|(apply dP rfl rfl rfl;intro _)|(apply dL rfl rfl rfl;intro _)|apply dC rfl rfl rfl rfl);(focus(first|exact iA (g:=wG x) rfl (EL rfl) (SZ rfl) rfl rfl (Int.natCast_nonneg _) hgx rfl|exact iA (g:=wG y) rfl (EL rfl) (SZ rfl) rfl rfl (by rw[hk1];exact Int.natCast_nonneg _) hgy rfl|exact PO_shl rfl rfl rfl (Int.natCast_nonneg _)|exact PO_shr rfl rfl rfl (Int.natCast_nonneg _)|exact PO_vindex (k+1) rfl (EL rfl) (SZ rfl) rfl rfl rfl (by omega)|exact mO));try exact kQ))
   exact⟨k,by omega,by omega,SlotsOk.le ⟨.inl rfl, .inl rfl, .inl rfl, .inl rfl, .inl rfl, .inl (congrArg (fun z=>PV.g (.int .i64 z)) hk1),trivial⟩,
    HLe.of_eq (congrArg (fun l=>(⟨[],[],[MO.arr g WT l]⟩:PH)) (by
     rw[←hst,hsx,hsy,show GV.int .u64 (IntKind.u64.wrap (((BitVec.ofInt IntKind.u64.bits (A:Int) ||| BitVec.ofInt IntKind.u64.bits (B:Int)).toNat:Nat):Int))=wG (A ||| B)from congrArg (GV.int .u64) hor,Nat.zero_add]
     exact wsG_set))⟩
  ·exfalso;have:=of_decide_eq_false h;omega
theorem rsh_pc{g n cap s x0:Nat}{ws xs:List Nat}(hx:okW xs)(hv:ws.take n=xs)(h1:1≤n)(hn:n≤ws.length)(hm:n≤100000)(hs1:1≤s)(hs:s<64)(hx0:xs[0]? =some x0):
  PC Tryz.prog 68 [.vw 0 g 0 n cap, .vw 0 g 0 n cap, .g (.int .u64 s)] ⟨[],[],[AR g ws]⟩ (.g (wG (x0 *2^(64-s)%WB))) ⟨[],[],[AR g (putL ws 0 (downR xs s))]⟩:=by
 have hl:xs.length=n:=by rw[←hv];simp;omega
 have hT:=downR_length xs s
 obtain⟨m,hm1⟩: ∃m,n=m+1:=⟨n-1,by omega⟩
 have hne:(((n:Nat):Int) !=((n:Nat):Int))=false:=by simp
 have hs0:((s:Int)==0)=false:=beq_eq_false_iff_ne.2 (by omega)
 have hl0:(((n:Nat):Int)==0)=false:=beq_eq_false_iff_ne.2 (by omega)
 have ha:=and63 hs
 have hb:IntKind.u64.wrap (64-(s:Int))=((64-s:Nat):Int):=by rw[show(64:Int)-(s:Int)=((64-s:Nat):Int) by omega];exact u64_wrap rfl (by unfold WB;omega)
 have hd:=and63 (n:=64-s) (by omega)
 have hlen1:IntKind.i64.wrap ((n:Int)-1)=((m:Nat):Int):=by rw[w64 (by omega)];omega
 have hget: ∀k x,k<n→xs[k]? =some x→ws[k]? =some x:=fun k x hk h=>by rw[←hv,List.getElem?_take,if_pos hk]at h;exact h
 have hg0:(wsG ws)[0+0]? =some (wG x0):=wsG_get (hget 0 x0 (by omega) hx0)
 have hs0':=shl_raw (n:=x0) (s:=64-s) (by omega)
 obtain⟨C,hC⟩: ∃C,C=x0 *2^(64-s)%WB:=⟨_,rfl⟩
 rw[←hC]at hs0'⊢
 refine eN Tryz.func68 ?_
 (repeat first|refine uE ?_|((first|apply oR rfl rfl|(apply dF rfl rfl rfl;intro _)|(apply dP rfl rfl rfl;intro _)|(apply dL rfl rfl rfl;intro _)|apply dC rfl rfl rfl rfl);(focus(first|exact PO_vlen rfl (EL rfl) rfl|exact mO));try exact kQ))
 refine sQ (fun h=> ?_) fun h=> ?_
 ·exfalso;rw[hne]at h;cases h
 clear h
 (try refine uD ?_)
 refine sQ (fun h=> ?_) fun h=> ?_
 ·exfalso;rw[hs0]at h;cases h
 clear h
 (repeat first|refine uE ?_|((first|apply oR rfl rfl|(apply dF rfl rfl rfl;intro _)|(apply dP rfl rfl rfl;intro _)|(apply dL rfl rfl rfl;intro _)|apply dC rfl rfl rfl rfl);(focus(first|exact PO_vlen rfl (EL rfl) rfl|exact mO));try exact kQ))
 refine sQ (fun h=> ?_) fun h=> ?_
 ·exfalso;rw[hl0]at h;cases h
 clear h
 (repeat first|refine uF ?_|((first|apply oR rfl rfl|(apply dF rfl rfl rfl;intro _)|(apply dP rfl rfl rfl;intro _)|(apply dL rfl rfl rfl;intro _)|apply dC rfl rfl rfl rfl);(focus(first|exact mO));try exact kQ)|refine xU [7] rfl ?_)
 refine PW_weak (env':=slots [(0, .vw 0 g 0 n cap),(1, .vw 0 g 0 n cap),(2, .g (.int .u64 s))]) (H':=⟨[],[],[AR g ws]⟩) (SlotsOk.le ⟨.inl rfl, .inl rfl, .inl (congrArg (fun k=>PV.g (.int .u64 k)) ha),trivial⟩) (HLe.of_eq rfl) ?_
 (repeat first|refine uF ?_|((first|apply oR rfl rfl|(apply dF rfl rfl rfl;intro _)|(apply dP rfl rfl rfl;intro _)|(apply dL rfl rfl rfl;intro _)|apply dC rfl rfl rfl rfl);(focus(first|exact mO));try exact kQ)|refine xU [8] rfl ?_)
 refine PW_weak (env':=slots [(0, .vw 0 g 0 n cap),(1, .vw 0 g 0 n cap),(2, .g (.int .u64 s)),(7, .g (.int .u64 ((64-s:Nat):Int)))]) (H':=⟨[],[],[AR g ws]⟩) (SlotsOk.le ⟨.inl rfl, .inl rfl, .inl rfl, .inl (congrArg (fun k=>PV.g (.int .u64 k)) hb),trivial⟩) (HLe.of_eq rfl) ?_
 (repeat first|refine uF ?_|((first|apply oR rfl rfl|(apply dF rfl rfl rfl;intro _)|(apply dP rfl rfl rfl;intro _)|(apply dL rfl rfl rfl;intro _)|apply dC rfl rfl rfl rfl);(focus(first|exact mO));try exact kQ)|refine xU [9] rfl ?_)
 refine PW_weak (env':=slots [(0, .vw 0 g 0 n cap),(1, .vw 0 g 0 n cap),(2, .g (.int .u64 s)),(7, .g (.int .u64 ((64-s:Nat):Int)))]) (H':=⟨[],[],[AR g ws]⟩) (SlotsOk.le ⟨.inl rfl, .inl rfl, .inl rfl, .inl (congrArg (fun k=>PV.g (.int .u64 k)) hd),trivial⟩) (HLe.of_eq rfl) ?_
 (repeat first|refine uE ?_|((first|apply oR rfl rfl|(apply dF rfl rfl rfl;intro _)|(apply dP rfl rfl rfl;intro _)|(apply dL rfl rfl rfl;intro _)|apply dC rfl rfl rfl rfl);(focus(first|exact PO_vindex 0 rfl (EL rfl) (SZ rfl) rfl rfl rfl (by omega)|exact PO_load_mref_one rfl (AG rfl) rfl rfl hg0 rfl|exact PO_as (PO_shl rfl rfl rfl (Int.natCast_nonneg _)) (congrArg (fun k=>PV.g (.int .u64 k)) hs0')|exact mO));try exact kQ))
 refine PW_loop (S:=Nat) (fun k=>slots [(0, .vw 0 g 0 n cap),(1, .vw 0 g 0 n cap),(2, .g (.int .u64 s)),(6, .g (wG C)),(7, .g (.int .u64 ((64-s:Nat):Int))),(8, .g (.int .i64 ((k+1:Nat):Int)))]) (fun k=>⟨[],[],[AR g (dnB ws (downR xs s) k)]⟩) (fun k=>k≤m) (fun k=>m-k) 0 (Nat.zero_le _)
  (SlotsOk.le ⟨.inl rfl, .inl rfl, .inl rfl, .inl rfl, .inl rfl, .inl rfl,trivial⟩) (HLe.of_eq (by rw[dnB_zero])) (fun k hk=> ?_)
 have hxk:xs[k]? =some (xs[k]'(by omega)):=List.getElem?_eq_getElem (by omega)
 obtain⟨x,hx1⟩: ∃x,x=xs[k]'(by omega):=⟨_,rfl⟩
 rw[←hx1]at hxk
 have hgx:(wsG (dnB ws (downR xs s) k))[0+k]? =some (wG x):=wsG_get (by rw[Nat.zero_add,dnB_get (Nat.le_refl _) (by omega)];exact hget k x (by omega) hxk)
 (repeat first|refine uE ?_|((first|apply oR rfl rfl|(apply dF rfl rfl rfl;intro _)|(apply dP rfl rfl rfl;intro _)|(apply dL rfl rfl rfl;intro _)|apply dC rfl rfl rfl rfl);(focus(first|exact PO_vlen rfl (EL rfl) rfl|exact mO));try exact kQ))
 refine sQ (fun h=> ?_) fun h=> ?_
 ·have hlt:k+1<n:=by have:=of_decide_eq_true h;omega
  clear h
  have hyk:xs[k+1]? =some (xs[k+1]'(by omega)):=List.getElem?_eq_getElem (by omega)
  obtain⟨y,hy1⟩: ∃y,y=xs[k+1]'(by omega):=⟨_,rfl⟩
  rw[←hy1]at hyk
  have hgy:(wsG (dnB ws (downR xs s) k))[0+(k+1)]? =some (wG y):=wsG_get (by rw[Nat.zero_add,dnB_get (by omega) (by omega)];exact hget (k+1) y (by omega) hyk)
  have hk1:IntKind.i64.wrap (((k+1:Nat):Int)-1)=((k:Nat):Int):=by rw[w64 (by omega)];omega
  have hst:=dnB_step (ws:=ws) (downR_get (s:=s) hxk hyk) (by omega)
  have hsx:=shr_rawB (n:=x) (s:=s) (by omega)
  have hsy:=shl_raw (n:=y) (s:=64-s) (by omega)
  have hx2:x/2^s<WB:=Nat.lt_of_le_of_lt (Nat.div_le_self _ _) (hx.at hxk)
  have hor:=or_rawB (a:=x/2^s) (b:=y *2^(64-s)%WB) hx2 (Nat.mod_lt _ (by decide))
  obtain⟨A,hA⟩: ∃A,A=x/2^s:=⟨_,rfl⟩
  obtain⟨B,hB⟩: ∃B,B=y *2^(64-s)%WB:=⟨_,rfl⟩
  rw[←hA]at hsx hor hst
  rw[←hB]at hsy hor hst
  (repeat first|refine uG ?_|(apply dR rfl rfl;focus(first|exact Cond_mload rfl rfl (AG rfl) rfl rfl hgx rfl|exact Cond_mload rfl rfl (AG rfl) rfl rfl hgy rfl|exact Cond_mstore rfl (SZ rfl) rfl rfl rfl rfl (by decide) rfl hgx (Nat.le_refl _)))|((first|apply oR rfl rfl|(apply dF rfl rfl rfl;intro _)|(apply dP rfl rfl rfl;intro _)|(apply dL rfl rfl rfl;intro _)|apply dC rfl rfl rfl rfl);(focus(first|exact PO_vindex k rfl (EL rfl) (SZ rfl) rfl rfl hk1 (by omega)|exact PO_vindex (k+1) rfl (EL rfl) (SZ rfl) rfl rfl rfl (by omega)|exact PO_shl rfl rfl rfl (Int.natCast_nonneg _)|exact PO_shr rfl rfl rfl (Int.natCast_nonneg _)|exact mO));try exact kQ)|refine xK false false [10000] rfl mixed (by decide+kernel) ?_|refine xK false true [10000] rfl mixed (by decide+kernel) ?_|refine xK true false [10000] rfl mixed (by decide+kernel) ?_|refine xK true true [10000] rfl mixed (by decide+kernel) ?_)
  exact⟨k+1,by omega,by omega,SlotsOk.le ⟨.inl rfl, .inl rfl, .inl rfl, .inl rfl, .inl rfl, .inl (congrArg (fun z=>PV.g (.int .i64 z)) (by rw[w64 (by omega)];omega)),trivial⟩,
   HLe.of_eq (congrArg (fun l=>(⟨[],[],[MO.arr g WT l]⟩:PH)) (by
    rw[←hst,hsx,hsy,show GV.int .u64 (IntKind.u64.wrap (((BitVec.ofInt IntKind.u64.bits (A:Int) ||| BitVec.ofInt IntKind.u64.bits (B:Int)).toNat:Nat):Int))=wG (A ||| B)from congrArg (GV.int .u64) hor,Nat.zero_add]
    exact wsG_set))⟩
 ·have hkm:k=m:=by have:=of_decide_eq_false h;omega
  subst hkm
  clear h
  have hst:=dnB_step (ws:=ws) (downR_last (s:=s) hxk (by omega)) (by omega)
  rw[show k+1=(downR xs s).length by omega,dnB_done]at hst
  have hsx:=shr_rawB (n:=x) (s:=s) (by omega)
  (repeat first|refine uE ?_|((first|apply oR rfl rfl|(apply dF rfl rfl rfl;intro _)|(apply dP rfl rfl rfl;intro _)|(apply dL rfl rfl rfl;intro _)|apply dC rfl rfl rfl rfl);(focus(first|exact PO_vlen rfl (EL rfl) rfl|exact PO_vindex k rfl (EL rfl) (SZ rfl) rfl rfl hlen1 (by omega)|exact PO_load_mref_one rfl (AG rfl) rfl rfl hgx rfl|exact PO_as (PO_shr rfl rfl rfl (Int.natCast_nonneg _)) (congrArg (fun k=>PV.g (.int .u64 k)) hsx)|exact PO_store_mref rfl (SZ rfl) rfl rfl rfl rfl (by decide) rfl hgx (Nat.le_refl _)|exact mO));try exact kQ))
  have e:(wsG (dnB ws (downR xs s) k)).set (0+k) (wG (x/2^s))=wsG (putL ws 0 (downR xs s)):=by rw[←hst,Nat.zero_add];exact wsG_set
  rw[show AR g (putL ws 0 (downR xs s))= .arr g WT ((wsG (dnB ws (downR xs s) k)).set (0+k) (wG (x/2^s)))from congrArg (MO.arr g WT) e.symm]
  refine rB ?_ ?_ ?_
  all_goals rfl
theorem tw_sub(args:Array Value)(w:World):(callFunc 158 args).run Tryz.prog w= .ok (.enter 66 args) w:=
 run_callFunc_twin (twin:=Tryz.f66.name) Tryz.func158 (by kernel_rfl) (by kernel_rfl) (by kernel_rfl) (by kernel_rfl) Tryz.func66 (by kernel_rfl) (by kernel_rfl) (by kernel_rfl) args w
theorem tw_add(args:Array Value)(w:World):(callFunc 161 args).run Tryz.prog w= .ok (.enter 65 args) w:=
 run_callFunc_twin (twin:=Tryz.f65.name) Tryz.func161 (by kernel_rfl) (by kernel_rfl) (by kernel_rfl) (by kernel_rfl) Tryz.func65 (by kernel_rfl) (by kernel_rfl) (by kernel_rfl) args w
theorem tw_lsh(args:Array Value)(w:World):(callFunc 157 args).run Tryz.prog w= .ok (.enter 67 args) w:=
 run_callFunc_twin (twin:=Tryz.f67.name) Tryz.func157 (by kernel_rfl) (by kernel_rfl) (by kernel_rfl) (by kernel_rfl) Tryz.func67 (by kernel_rfl) (by kernel_rfl) (by kernel_rfl) args w
theorem tw_rsh(args:Array Value)(w:World):(callFunc 166 args).run Tryz.prog w= .ok (.enter 68 args) w:=
 run_callFunc_twin (twin:=Tryz.f68.name) Tryz.func166 (by kernel_rfl) (by kernel_rfl) (by kernel_rfl) (by kernel_rfl) Tryz.func68 (by kernel_rfl) (by kernel_rfl) (by kernel_rfl) args w
theorem save_pc:PC Tryz.prog 147 [.ptr 0 0] ⟨[[.nilp]],[],[]⟩ (.g (.int .i64 0)) ⟨[[.nilp]],[],[]⟩:=by
 refine eN Tryz.func147 ?_
 (repeat' first|refine uA ?_|(apply oR rfl rfl;focus(first|exact PO_pnil rfl Tryz.underlying240 rfl rfl|exact mO))|(refine sQ (fun h=> ?_) (fun h=> ?_)<;>fail_if_success (first|(have:true=true:=h)|(have:false=false:=h)))|fail)
 all_goals(refine rB ?_ ?_ ?_;all_goals rfl)
theorem restore4_pcd{g0 g1 g2 g3:Nat}{w0 w1 w2 w3:List Nat}:PCd Tryz.prog 146 [.ptr 0 0, .g (.int .i64 0)] ⟨[[.nilp]],[],[AR g0 w0,AR g1 w1,AR g2 w2,AR g3 w3]⟩ ⟨[[.nilp]],[],[AR g0 w0,AR g1 w1,AR g2 w2,AR g3 w3]⟩:=by
 refine PCd_of_PW Tryz.func146 rfl rfl (rs:=_) (v:= .tuple []) rfl (Nat.le_of_ble_eq_true (by kernel_rfl)) ?_
 (repeat' first|refine uA ?_|(apply oR rfl rfl;focus(first|exact PO_pnil rfl Tryz.underlying240 rfl rfl|exact mO))|(refine sQ (fun h=> ?_) (fun h=> ?_)<;>fail_if_success (first|(have:true=true:=h)|(have:false=false:=h)))|fail)
 all_goals(refine rB ?_ ?_ ?_;all_goals rfl)
theorem greater_pc{a b c d:Nat}(hb:b<WB)(hd:d<WB):PC Tryz.prog 219 [.g (wG a), .g (wG b), .g (wG c), .g (wG d)] ⟨[],[],[]⟩ (.g (.bool (decide (c *WB+d<a *WB+b)))) ⟨[],[],[]⟩:=by
 obtain⟨x,hx⟩: ∃x:Bool,x=decide (c *WB+d<a *WB+b):=⟨_,rfl⟩
 rw[←hx]
 refine eN Tryz.func219 ?_
 (repeat' first|refine uN ?_|(refine sQ (fun h=> ?_) (fun h=> ?_)<;>fail_if_success (first|(have:true=true:=h)|(have:false=false:=h)))|fail)
 all_goals(refine rT ?_)
 ·have h1:=of_decide_eq_true h
  have h2:(c+1) *WB≤a *WB:=Nat.mul_le_mul_right _ (by omega)
  rw[Nat.add_mul,Nat.one_mul]at h2
  rw[hx,eq_comm,decide_eq_true_iff]
  omega
 ·have h1:=beq_iff_eq.1 h
  have h2:a=c:=by omega
  subst h2
  rw[hx]
  exact decide_eq_decide.2 ⟨fun h=>by omega,fun h=>by omega⟩
 ·rename_i h0
  have h1:=beq_eq_false_iff_ne.1 h
  have h2:=of_decide_eq_false h0
  have h3:(a+1) *WB≤c *WB:=Nat.mul_le_mul_right _ (by omega)
  rw[Nat.add_mul,Nat.one_mul]at h3
  rw[hx,eq_comm,decide_eq_false_iff_not]
  omega
end Go.Proofs.YtdoenpeadkoklaaGreatFmtBesafter