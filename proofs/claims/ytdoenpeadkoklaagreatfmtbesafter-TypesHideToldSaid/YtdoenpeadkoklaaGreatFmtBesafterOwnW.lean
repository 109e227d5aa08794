/- What the program's functions compute, each shown once; and plain laws of it. -/
import Derived.Test.YtdoenpeadkoklaaGreatFmtBesafterOwnV
import Derived.Test.YtdoenpeadkoklaaGreatFmtBesafterPureD
import Derived.Test.YtdoenpeadkoklaaGreatFmtBesafterPureC
import Derived.Test.YtdoenpeadkoklaaGreatFmtBesafterOwnF
set_option maxRecDepth 100000
set_option maxHeartbeats 32000000
namespace Go.Proofs.YtdoenpeadkoklaaGreatFmtBesafter
open Go Go.Pure
attribute [local irreducible] PW POps POpsD PO PC Cond
def sgN(name:ByteArray):Option Nat:=(findSig name sigT).map fun q=>q.1.length
abbrev lookP:=lookT resP sgN
def LookOK(x:VExpr)(s:List (ByteArray×TyP)):Prop:=
 PC Tryz.prog 11 [.g (.sl (varsG s)), .pat x.g.cells] ⟨[],[],[]⟩ (.tuple [.g (tyP (lookP x s).1).g, .g (.int .i64 (lookP x s).2)]) ⟨[],[],[]⟩∧((lookP x s).2=0→baseK (lookP x s).1.2)
theorem lookTs_eq(x:VExpr)(r:List VExpr)(s:List (ByteArray×TyP)):lookTs resP sgN (x::r) s=if(lookP x s).2≠0 then([],(lookP x s).2)else if(lookTs resP sgN r s).2≠0 then([],(lookTs resP sgN r s).2)else((lookP x s).1::(lookTs resP sgN r s).1,0):=by rw[lookTs]
theorem lookTs_err: ∀(l:List VExpr) (s:List (ByteArray×TyP)),(lookTs resP sgN l s).2≠0→lookTs resP sgN l s=([],(lookTs resP sgN l s).2)
 |[],s,h=>absurd (by rw[lookTs]) h
 |x::r,s,h=>by
  rw[lookTs_eq]at h⊢
  split
  ·rfl
  ·split
   ·rfl
   ·rename_i h1 h2
    rw[if_neg h1,if_neg h2]at h
    exact absurd rfl h
theorem lookTs_base: ∀(l:List VExpr) (s:List (ByteArray×TyP)),(∀y∈l,LookOK y s)→(lookTs resP sgN l s).2=0→(∀t∈(lookTs resP sgN l s).1,baseK t.2)∧(lookTs resP sgN l s).1.length=l.length
 |[],s,_,_=>by rw[lookTs];exact⟨fun t h=>absurd h List.not_mem_nil,rfl⟩
 |x::r,s,ih,h=>by
  rw[lookTs_eq]at h⊢
  split at h
  ·rename_i h1;exact absurd h h1
  ·rename_i h1
   rw[if_neg h1]
   split at h
   ·rename_i h2;exact absurd h h2
   ·rename_i h2
    rw[if_neg h2]
    obtain⟨k1,k2⟩:=lookTs_base r s (fun y hy=>ih y (List.mem_cons_of_mem _ hy)) (by omega)
    refine⟨fun t ht=> ?_,by rw[List.length_cons,List.length_cons,k2]⟩
    rcases List.mem_cons.1 ht with rfl|ht
    ·exact(ih x List.mem_cons_self).2 (by omega)
    ·exact k1 t ht
theorem kids_pc2(k:Int)(v:VVal)(name:ByteArray)(kids:List VExpr)(s:List (ByteArray×TyP))(hl:kids.length≤1000)(ih: ∀y∈kids,LookOK y s):
  PC Tryz.prog 20 [.g (.sl (varsG s)), .pat (VExpr.mk k v name kids).g.cells] ⟨[],[],[]⟩ (.tuple [.g (.sl (tsG (lookTs resP sgN kids s).1)), .g (.int .i64 (lookTs resP sgN kids s).2)]) ⟨[],[],[]⟩:=by
 have g1:(VExpr.gs kids).length=kids.length:=by simp[VExpr.gs_eq]
 obtain⟨y0,y1,y2,y3,y4,y5⟩:=v
 have hI:lookTs resP sgN kids s=(if(lookTs resP sgN (kids.drop 0) s).2≠0 then([],(lookTs resP sgN (kids.drop 0) s).2)else([]++(lookTs resP sgN (kids.drop 0) s).1,0)):=by
  rw[List.drop_zero]
  split
  ·rename_i h;exact lookTs_err _ _ h
  ·rename_i h;rw[List.nil_append];exact Prod.ext rfl (by omega)
 generalize lookTs resP sgN kids s=R at hI⊢
 refine eN Tryz.func20 ?_
 (repeat first|refine uC ?_|(apply oR rfl rfl;focus(first|exact mO))|refine xU [2] rfl ?_)
 refine PW_buf 6 33 (SZ rfl) rfl ?_
 (try refine uN ?_)
 refine PW_loop_cut (S:=Nat×List TyP) (fun q=>[(0, .g (.sl (varsG s))),(1, .pat (VExpr.mk k (VVal.mk y0 y1 y2 y3 y4 y5) name kids).g.cells),(6, .own (tsG q.2) 0),(14, .g (.int .i64 kids.length)),(15, .g (.int .i64 q.1))]) (fun q=>⟨[],[(33,q.2.length)],[]⟩)
  (fun q=>q.1≤kids.length∧q.2.length=q.1∧R=(if(lookTs resP sgN (kids.drop q.1) s).2≠0 then([],(lookTs resP sgN (kids.drop q.1) s).2)else(q.2++(lookTs resP sgN (kids.drop q.1) s).1,0))) (fun q=>kids.length-q.1) (0,[]) ⟨Nat.zero_le _,rfl,hI⟩
  (SlotsOk.le ⟨.inl rfl, .inl rfl, .inl rfl, .inl (congrArg (fun k:Nat=>PV.g (.int .i64 k)) g1), .inl rfl,trivial⟩) (HLe.of_eq rfl) (fun _=>rfl) (fun q hq=> ?_)
 obtain⟨i,acc⟩:=q
 obtain⟨hi,hacc,hgo⟩:=hq
 dsimp only at hi hacc hgo
 clear hI
 (try refine uN ?_)
 refine sQ (fun h=> ?_) fun h=> ?_
 ·have hlt:i<kids.length:=by have:=of_decide_eq_true h;dsimp only at this;omega
  clear h
  have hg:(VExpr.gs kids)[((i:Int)).toNat]? =some kids[i].g:=by rw[VExpr.gs_eq];exact map_get hlt
  have ih:=(ih kids[i] (List.getElem_mem hlt)).1
  rw[List.drop_eq_getElem_cons hlt,lookTs_eq]at hgo
  generalize kids[i]=x at hg ih hgo
  generalize lookP x s=r at ih hgo
  obtain⟨t,e⟩:=r
  obtain⟨x0,⟨z0,z1,z2,z3,z4,z5⟩,x2,x3⟩:=x
  dsimp only at ih hgo
  obtain⟨es,he⟩:=tyP_mk t
  rw[he]at ih
  have hap:tsG acc++[(VTy.mk (kdP t) es).g]=tsG (acc++[t]):=by unfold tsG;rw[List.map_append,←he];rfl
  generalize kdP t=kd at *
  (repeat first|refine uA ?_|(apply oR rfl rfl;focus(first|exact cd [] rfl rfl (EN rfl) (ih) rfl rfl rfl rfl rfl rfl rfl rfl rfl rfl rfl|exact iA rfl (EL rfl) (SZ rfl) rfl rfl (Int.natCast_nonneg _) hg rfl|exact mO)))
  refine sQ (fun h=> ?_) fun h=> ?_
  ·have hne:e≠0:=by simpa[bne]using h
   rw[if_pos hne,if_pos hne]at hgo
   subst hgo
   clear h
   (try refine uN ?_)
   refine Ret_boxp (vC vT (vC vT vN)) rfl rfl rfl rfl rfl rfl rfl rfl rfl ?_ ?_ ?_ rfl
   all_goals rfl
  ·have hz:e=0:=by simpa[bne]using h
   have hz': ¬e≠0:=fun q=>q hz
   simp only[if_neg hz']at hgo
   clear h
   (repeat first|refine uA ?_|(apply oR rfl rfl;focus(first|exact aP (xs:=[(VTy.mk kd es).g]) rfl (EL rfl) (SZ rfl) (BY rfl) (ZR rfl) rfl rfl rfl rfl (tsG_len _) (fun x hx=>by rw[List.mem_singleton.1 hx];rfl) (by show(acc.length+1) *_≤_;omega) (by show acc.length+1≤maxLen;unfold maxLen;omega)|exact mO)))
   refine⟨(i+1,acc++[t]),⟨hlt,by dsimp only;rw[List.length_append,hacc];rfl, ?_⟩,by dsimp only;omega,SlotsOk.le ⟨.inl rfl, .inl rfl, .inl (congrArg (fun l=>PV.own l 0) hap), .inl rfl, .inl (congrArg (fun k=>PV.g (.int .i64 k)) (i64w (by dsimp only;omega))),trivial⟩,Drops.mk [[.g (.int .i64 kd), .g (.sl (VTy.gs es))]] [] [] (by rw[List.length_append];rfl)⟩
   dsimp only
   rw[hgo]
   by_cases h2:(lookTs resP sgN (kids.drop (i+1)) s).2≠0
   ·simp only[if_pos h2]
   ·simp only[if_neg h2,ne_eq,not_true_eq_false,if_false,List.append_assoc,List.singleton_append]
 ·have hi':i=kids.length:=by have:=of_decide_eq_false h;dsimp only at this;omega
  subst hi'
  clear h
  rw[List.drop_length,lookTs]at hgo
  simp only[ne_eq,not_true_eq_false,if_false,List.append_nil]at hgo
  subst hgo
  (try refine uN ?_)
  refine Ret_boxp (vC vT (vC vT vN)) rfl rfl rfl rfl rfl rfl rfl rfl rfl ?_ ?_ ?_ rfl
  all_goals rfl
theorem overT_eq(k:Int)(name:ByteArray)(x:VExpr)(r:List VExpr)(s:List (ByteArray×TyP)):overT resP sgN k name (x::r) s=
  if(lookP x s).2≠0 then lookP x s else if mayP (lookP x s).1 [5]=false then((lookP x s).1,9)else bodyT resP sgN k r (s++[(name,elemP (lookP x s).1)]):=by rw[overT]
theorem bodyT_eq(k:Int)(x:VExpr)(r:List VExpr)(s:List (ByteArray×TyP)):bodyT resP sgN k (x::r) s=
  if(lookP x s).2≠0 then lookP x s else if k=20 then(((lookP x s).1.1+1,(lookP x s).1.2),0)else if mayP (lookP x s).1 [2]=false then((lookP x s).1,9)else((0,2),0):=by rw[bodyT]
theorem mayP_eq(t:TyP)(ks:List Int):mayP t ks=mayK (kdP t) ks:=rfl
theorem elemP_eq(t:TyP):elemP t=elP t:=by
 unfold elemP elP
 split
 ·rename_i h;obtain⟨a,b⟩:=t;simp at h;subst h;rfl
 ·rfl
theorem over_pc2{k:Int}(hk:k=20∨k=21∨k=22)(v:VVal)(name:ByteArray)(x y:VExpr)(s:List (ByteArray×TyP))(hl:s.length≤10000)(hx:LookOK x s)(hy: ∀t:TyP,baseK t.2→LookOK y (s++[(name,t)])):
  PC Tryz.prog 18 [.g (.sl (varsG s)), .pat (VExpr.mk k v name [x,y]).g.cells] ⟨[],[],[]⟩ (.tuple [.g (tyP (overT resP sgN k name [x,y] s).1).g, .g (.int .i64 (overT resP sgN k name [x,y] s).2)]) ⟨[],[],[]⟩:=by
 obtain⟨v0,v1,v2,v3,v4,v5⟩:=v
 have hgl:=varsG_len s
 obtain⟨hx1,hx2⟩:=hx
 rw[overT_eq]
 generalize lookP x s=rx at *
 obtain⟨lt,le⟩:=rx
 dsimp only at hx1 hx2⊢
 have hm5:=my_pc lt (ks:=[5]) (by decide)
 rw[mayP_eq,elemP_eq]
 obtain⟨x0,⟨a0,a1,a2,a3,a4,a5⟩,x2,x3⟩:=x
 obtain⟨z0,⟨b0,b1,b2,b3,b4,b5⟩,z2,z3⟩:=y
 have hgx:(VExpr.gs [VExpr.mk x0 (VVal.mk a0 a1 a2 a3 a4 a5) x2 x3,VExpr.mk z0 (VVal.mk b0 b1 b2 b3 b4 b5) z2 z3])[(0:Int).toNat]? =some (VExpr.mk x0 (VVal.mk a0 a1 a2 a3 a4 a5) x2 x3).g:=rfl
 have hgy:(VExpr.gs [VExpr.mk x0 (VVal.mk a0 a1 a2 a3 a4 a5) x2 x3,VExpr.mk z0 (VVal.mk b0 b1 b2 b3 b4 b5) z2 z3])[(1:Int).toNat]? =some (VExpr.mk z0 (VVal.mk b0 b1 b2 b3 b4 b5) z2 z3).g:=rfl
 obtain⟨es,he⟩:=tyP_mk lt
 by_cases h1:le≠0
 ·rw[if_pos h1]
  rw[he]at hx1⊢
  clear hm5 hy hx2
  generalize kdP lt=kd at *
  refine eN Tryz.func18 ?_
  (repeat first|refine uE ?_|((first|apply oR rfl rfl|(apply dF rfl rfl rfl;intro _)|(apply dP rfl rfl rfl;intro _)|(apply dL rfl rfl rfl;intro _)|apply dC rfl rfl rfl rfl);(focus(first|exact cd [] rfl rfl (EN rfl) (hx1) rfl rfl rfl rfl rfl rfl rfl rfl rfl rfl rfl|exact iA (g:=(VExpr.mk x0 (VVal.mk a0 a1 a2 a3 a4 a5) x2 x3).g) rfl (EL rfl) (SZ rfl) rfl rfl (by decide) hgx rfl|exact mO));try exact kQ))
  refine sQ (fun h=> ?_) fun h=> ?_
  ·(try refine uD ?_)
   refine rE ?_ ?_
   all_goals rfl
  ·exact absurd (by simpa[bne]using h) h1
 have h1:le=0:=by omega
 subst h1
 rw[if_neg (fun q=>q rfl)]
 cases hM:mayK (kdP lt) [5]with
 |false=>
  rw[if_pos rfl]
  rw[hM]at hm5
  rw[he]at hx1 hm5⊢
  clear hy hx2
  generalize kdP lt=kd at *
  refine eN Tryz.func18 ?_
  (repeat first|refine uE ?_|((first|apply oR rfl rfl|(apply dF rfl rfl rfl;intro _)|(apply dP rfl rfl rfl;intro _)|(apply dL rfl rfl rfl;intro _)|apply dC rfl rfl rfl rfl);(focus(first|exact cd [] rfl rfl (EN rfl) (hx1) rfl rfl rfl rfl rfl rfl rfl rfl rfl rfl rfl|exact iA (g:=(VExpr.mk x0 (VVal.mk a0 a1 a2 a3 a4 a5) x2 x3).g) rfl (EL rfl) (SZ rfl) rfl rfl (by decide) hgx rfl|exact cqP hm5|exact mO));try exact kQ))
  refine rE ?_ ?_
  all_goals rfl
 |true=>
  rw[if_neg (by decide)]
  have hbl:=hx2 rfl
  have hel:=el_pc hbl
  obtain⟨hy1,hy2⟩:=hy (elP lt) hbl
  have hap:varsG (s++[(name,elP lt)])=varsG s++[(VVar.mk name (tyP (elP lt))).g]:=by unfold varsG;rw[List.map_append];rfl
  rw[bodyT_eq]
  rw[hap]at hy1
  generalize lookP (VExpr.mk z0 (VVal.mk b0 b1 b2 b3 b4 b5) z2 z3) (s++[(name,elP lt)])=ry at *
  obtain⟨bt,be⟩:=ry
  dsimp only at hy1 hy2⊢
  rw[hM]at hm5
  have hm2:=my_pc bt (ks:=[2]) (by decide)
  rw[mayP_eq]
  have hls:=ls_pc bt
  have ho:=of_pc 2
  obtain⟨es2,he2⟩:=tyP_mk (elP lt)
  obtain⟨es3,he3⟩:=tyP_mk bt
  rw[he]at hx1 hm5 hel
  rw[he2]at hel hy1
  rw[he3]at hy1 hls hm2
  have hes: ∀x∈varsG s,x.cells.length=3:=fun x hx=>by
   obtain⟨p,_,rfl⟩:=List.mem_map.1 hx
   exact VVar.cells _
  clear hy hx2 hy2 hap
  generalize mayK (kdP bt) [2]=M2 at *
  generalize kdP lt=kd at *
  generalize kdP (elP lt)=kd2 at *
  generalize kdP bt=kd3 at *
  rcases hk with rfl|rfl|rfl
  all_goals
   refine eN Tryz.func18 ?_
   (repeat first|refine uE ?_|((first|apply oR rfl rfl|(apply dF rfl rfl rfl;intro _)|(apply dP rfl rfl rfl;intro _)|(apply dL rfl rfl rfl;intro _)|apply dC rfl rfl rfl rfl);(focus(first|exact cd [] rfl rfl (EN rfl) (hx1) rfl rfl rfl rfl rfl rfl rfl rfl rfl rfl rfl|exact iA (g:=(VExpr.mk x0 (VVal.mk a0 a1 a2 a3 a4 a5) x2 x3).g) rfl (EL rfl) (SZ rfl) rfl rfl (by decide) hgx rfl|exact iA (g:=(VExpr.mk z0 (VVal.mk b0 b1 b2 b3 b4 b5) z2 z3).g) rfl (EL rfl) (SZ rfl) rfl rfl (by decide) hgy rfl|exact cqP hm5|exact cqP hel|exact PO_slice3 rfl Tryz.underlying46 (SZ rfl) rfl rfl rfl rfl rfl|exact PO_append_lit (xs:=[(VVar.mk name (VTy.mk kd2 es2)).g]) rfl (EL rfl) (SZ rfl) (BY rfl) (ZR rfl) rfl rfl rfl hes (fun x hx=>by rw[List.mem_singleton.1 hx];rfl) (Nat.succ_pos 0) (by rw[hgl];show(s.length+1) *_≤_;omega) (by rw[hgl];show s.length+1≤maxLen;unfold maxLen;omega)|exact cd [] rfl rfl (EN rfl) (hy1) rfl rfl rfl rfl rfl rfl rfl rfl rfl rfl rfl|exact cqP hls|exact cqP hm2|exact cqP ho|exact mO));try exact kQ))
   refine sQ (fun h=> ?_) fun h=> ?_
   ·have h1:be≠0:=by simpa[bne]using h
    rw[if_pos h1]
    clear h
    (try refine uD ?_)
    refine rE ?_ ?_
    ·rw[he3];rfl
    ·rfl
   have h1: ¬be≠0:=fun q=>q (by simpa[bne]using h)
   rw[if_neg h1]
   clear h
  ·rw[if_pos rfl]
   (repeat first|refine uE ?_|((first|apply oR rfl rfl|(apply dF rfl rfl rfl;intro _)|(apply dP rfl rfl rfl;intro _)|(apply dL rfl rfl rfl;intro _)|apply dC rfl rfl rfl rfl);(focus(first|exact cd [] rfl rfl (EN rfl) (hx1) rfl rfl rfl rfl rfl rfl rfl rfl rfl rfl rfl|exact iA (g:=(VExpr.mk x0 (VVal.mk a0 a1 a2 a3 a4 a5) x2 x3).g) rfl (EL rfl) (SZ rfl) rfl rfl (by decide) hgx rfl|exact iA (g:=(VExpr.mk z0 (VVal.mk b0 b1 b2 b3 b4 b5) z2 z3).g) rfl (EL rfl) (SZ rfl) rfl rfl (by decide) hgy rfl|exact cqP hm5|exact cqP hel|exact PO_slice3 rfl Tryz.underlying46 (SZ rfl) rfl rfl rfl rfl rfl|exact PO_append_lit (xs:=[(VVar.mk name (VTy.mk kd2 es2)).g]) rfl (EL rfl) (SZ rfl) (BY rfl) (ZR rfl) rfl rfl rfl hes (fun x hx=>by rw[List.mem_singleton.1 hx];rfl) (Nat.succ_pos 0) (by rw[hgl];show(s.length+1) *_≤_;omega) (by rw[hgl];show s.length+1≤maxLen;unfold maxLen;omega)|exact cd [] rfl rfl (EN rfl) (hy1) rfl rfl rfl rfl rfl rfl rfl rfl rfl rfl rfl|exact cqP hls|exact cqP hm2|exact cqP ho|exact mO));try exact kQ))
   refine rE ?_ ?_
   all_goals rfl
  all_goals
   rw[if_neg (by decide)]
   (repeat first|refine uE ?_|((first|apply oR rfl rfl|(apply dF rfl rfl rfl;intro _)|(apply dP rfl rfl rfl;intro _)|(apply dL rfl rfl rfl;intro _)|apply dC rfl rfl rfl rfl);(focus(first|exact cd [] rfl rfl (EN rfl) (hx1) rfl rfl rfl rfl rfl rfl rfl rfl rfl rfl rfl|exact iA (g:=(VExpr.mk x0 (VVal.mk a0 a1 a2 a3 a4 a5) x2 x3).g) rfl (EL rfl) (SZ rfl) rfl rfl (by decide) hgx rfl|exact iA (g:=(VExpr.mk z0 (VVal.mk b0 b1 b2 b3 b4 b5) z2 z3).g) rfl (EL rfl) (SZ rfl) rfl rfl (by decide) hgy rfl|exact cqP hm5|exact cqP hel|exact PO_slice3 rfl Tryz.underlying46 (SZ rfl) rfl rfl rfl rfl rfl|exact PO_append_lit (xs:=[(VVar.mk name (VTy.mk kd2 es2)).g]) rfl (EL rfl) (SZ rfl) (BY rfl) (ZR rfl) rfl rfl rfl hes (fun x hx=>by rw[List.mem_singleton.1 hx];rfl) (Nat.succ_pos 0) (by rw[hgl];show(s.length+1) *_≤_;omega) (by rw[hgl];show s.length+1≤maxLen;unfold maxLen;omega)|exact cd [] rfl rfl (EN rfl) (hy1) rfl rfl rfl rfl rfl rfl rfl rfl rfl rfl rfl|exact cqP hls|exact cqP hm2|exact cqP ho|exact mO));try exact kQ))
   refine sQ (fun h=> ?_) fun h=> ?_
   ·have h2:M2=false:=by have:(!M2)=true:=h;simpa using this
    rw[if_pos h2]
    clear h
    (try refine uD ?_)
    refine rE ?_ ?_
    ·rw[he3];rfl
    ·rfl
   ·have h2: ¬M2=false:=by have:(!M2)=false:=h;intro q;rw[q]at this;cases this
    rw[if_neg h2]
    clear h
    (repeat first|refine uE ?_|((first|apply oR rfl rfl|(apply dF rfl rfl rfl;intro _)|(apply dP rfl rfl rfl;intro _)|(apply dL rfl rfl rfl;intro _)|apply dC rfl rfl rfl rfl);(focus(first|exact cd [] rfl rfl (EN rfl) (hx1) rfl rfl rfl rfl rfl rfl rfl rfl rfl rfl rfl|exact iA (g:=(VExpr.mk x0 (VVal.mk a0 a1 a2 a3 a4 a5) x2 x3).g) rfl (EL rfl) (SZ rfl) rfl rfl (by decide) hgx rfl|exact iA (g:=(VExpr.mk z0 (VVal.mk b0 b1 b2 b3 b4 b5) z2 z3).g) rfl (EL rfl) (SZ rfl) rfl rfl (by decide) hgy rfl|exact cqP hm5|exact cqP hel|exact PO_slice3 rfl Tryz.underlying46 (SZ rfl) rfl rfl rfl rfl rfl|exact PO_append_lit (xs:=[(VVar.mk name (VTy.mk kd2 es2)).g]) rfl (EL rfl) (SZ rfl) (BY rfl) (ZR rfl) rfl rfl rfl hes (fun x hx=>by rw[List.mem_singleton.1 hx];rfl) (Nat.succ_pos 0) (by rw[hgl];show(s.length+1) *_≤_;omega) (by rw[hgl];show s.length+1≤maxLen;unfold maxLen;omega)|exact cd [] rfl rfl (EN rfl) (hy1) rfl rfl rfl rfl rfl rfl rfl rfl rfl rfl rfl|exact cqP hls|exact cqP hm2|exact cqP ho|exact mO));try exact kQ))
    refine rE ?_ ?_
    all_goals rfl
theorem lookP_eq(k:Int)(v:VVal)(name:ByteArray)(kids:List VExpr)(s:List (ByteArray×TyP)):lookP (.mk k v name kids) s=
  (if k=1 then((litT v,0):TyP×Int)
  else if k=2 then(match findS s name with|some t=>(t,0)|none=>((0,0),7))
  else if k=20∨k=21∨k=22 then overT resP sgN k name kids s
  else if k=18∧sgN name=none then((0,0),7)
  else if k=18∧sgN name≠some kids.length then((0,0),5)
  else if(lookTs resP sgN kids s).2≠0 then((0,0),(lookTs resP sgN kids s).2)
  else if(resP k name (lookTs resP sgN kids s).1).2=true then((resP k name (lookTs resP sgN kids s).1).1,0)else((0,0),9)):=by
 show lookT resP sgN (.mk k v name kids) s=_
 rw[lookT]
 rfl
theorem lookLit_pc{k:Int}(hk:k=1)(v:VVal)(name:ByteArray)(kids:List VExpr)(s:List (ByteArray×TyP))(hv:litK v):LookOK (.mk k v name kids) s:=by
 unfold LookOK
 rw[lookP_eq,if_pos hk]
 refine⟨?_,fun _=>litT_base v hv⟩
 have hl:=literal_pc v hv
 obtain⟨es,he⟩:=tyP_mk (litT v)
 dsimp only
 rw[he]at hl⊢
 generalize kdP (litT v)=kd at *
 clear he hv
 obtain⟨y0,y1,y2,y3,y4,y5⟩:=v
 subst hk
 refine eN Tryz.func11 ?_
 (repeat first|refine uE ?_|((first|apply oR rfl rfl|(apply dF rfl rfl rfl;intro _)|(apply dP rfl rfl rfl;intro _)|(apply dL rfl rfl rfl;intro _)|apply dC rfl rfl rfl rfl);(focus(first|exact cqP hl|exact mO));try exact kQ))
 refine rE ?_ ?_
 all_goals rfl
theorem lookName_pc{k:Int}(hk:k=2)(v:VVal)(name:ByteArray)(kids:List VExpr)(s:List (ByteArray×TyP))(hs:s.length≤100000)(hb: ∀t,findS s name=some t→baseK t.2):LookOK (.mk k v name kids) s:=by
 unfold LookOK
 rw[lookP_eq,if_neg (by omega),if_pos hk]
 have hf:=find_pc s name hs
 obtain⟨y0,y1,y2,y3,y4,y5⟩:=v
 cases hF:findS s name with
 |none=>
  rw[hF]at hf
  dsimp only[Option.getD,Option.isSome]at hf⊢
  refine⟨?_,fun h=>absurd h (by decide)⟩
  subst hk
  refine eN Tryz.func11 ?_
  (repeat first|refine uE ?_|((first|apply oR rfl rfl|(apply dF rfl rfl rfl;intro _)|(apply dP rfl rfl rfl;intro _)|(apply dL rfl rfl rfl;intro _)|apply dC rfl rfl rfl rfl);(focus(first|exact cqP hf|exact mO));try exact kQ))
  refine rE ?_ ?_
  all_goals rfl
 |some t=>
  rw[hF]at hf
  dsimp only[Option.getD,Option.isSome]at hf⊢
  refine⟨?_,fun _=>hb t hF⟩
  obtain⟨es,he⟩:=tyP_mk t
  rw[he]at hf⊢
  generalize kdP t=kd at *
  subst hk
  refine eN Tryz.func11 ?_
  (repeat first|refine uE ?_|((first|apply oR rfl rfl|(apply dF rfl rfl rfl;intro _)|(apply dP rfl rfl rfl;intro _)|(apply dL rfl rfl rfl;intro _)|apply dC rfl rfl rfl rfl);(focus(first|exact cqP hf|exact mO));try exact kQ))
  refine rE ?_ ?_
  all_goals rfl
theorem lookOver_pc{k:Int}(hk:k=20∨k=21∨k=22)(v:VVal)(name:ByteArray)(x y:VExpr)(s:List (ByteArray×TyP))(hs:s.length≤10000)(hx:LookOK x s)(hy: ∀t:TyP,baseK t.2→LookOK y (s++[(name,t)])):LookOK (.mk k v name [x,y]) s:=by
 unfold LookOK
 rw[lookP_eq,if_neg (by omega),if_neg (by omega),if_pos hk]
 have ho:=over_pc2 hk v name x y s hs hx hy
 refine⟨?_,fun h=> ?_⟩
 ·generalize overT resP sgN k name [x,y] s=r at *
  obtain⟨t,e⟩:=r
  dsimp only at ho⊢
  obtain⟨es,he⟩:=tyP_mk t
  rw[he]at ho⊢
  generalize kdP t=kd at *
  obtain⟨y0,y1,y2,y3,y4,y5⟩:=v
  generalize hgs: [x,y]=kk at *
  clear hx hy hgs
  rcases hk with rfl|rfl|rfl
  all_goals
   refine eN Tryz.func11 ?_
   (repeat first|refine uE ?_|((first|apply oR rfl rfl|(apply dF rfl rfl rfl;intro _)|(apply dP rfl rfl rfl;intro _)|(apply dL rfl rfl rfl;intro _)|apply dC rfl rfl rfl rfl);(focus(first|exact cd [] rfl rfl (EN rfl) (ho) rfl rfl rfl rfl rfl rfl rfl rfl rfl rfl rfl|exact mO));try exact kQ))
   refine rE ?_ ?_
   all_goals rfl
 ·rw[overT_eq]at h⊢
  split at h
  ·rename_i h1;exact absurd h h1
  ·rename_i h1
   rw[if_neg h1]
   split at h
   ·cases h
   ·rename_i h2
    rw[if_neg h2]
    have hbx:=hx.2 (by omega)
    rw[elemP_eq]at h⊢
    have hyb:=(hy (elP (lookP x s).1) hbx).2
    rw[bodyT_eq]at h⊢
    split at h
    ·rename_i h3;exact absurd h h3
    ·rename_i h3
     rw[if_neg h3]
     have hb3:=hyb (by omega)
     split
     ·exact hb3
     ·rename_i h4
      rw[if_neg h4]at h
      split at h
      ·cases h
      ·rename_i h5
       rw[if_neg h5]
       exact b2
theorem lookNode_pc{k m most:Int}(hm:kidsN k=some (m,most))(hk: ¬(k=1∨k=2∨k=20∨k=21∨k=22))(v:VVal)(name:ByteArray)(kids:List VExpr)(s:List (ByteArray×TyP))(h1:0≤m→(kids.length:Int)=m)(hl:kids.length≤1000)(ih: ∀y∈kids,LookOK y s):LookOK (.mk k v name kids) s:=by
 unfold LookOK
 rw[lookP_eq,if_neg (by omega),if_neg (by omega),if_neg (by omega)]
 have hkd:=kids_pc2 k v name kids s hl ih
 have hbs:=lookTs_base kids s ih
 have g1:(VExpr.gs kids).length=kids.length:=by simp[VExpr.gs_eq]
 have hres: ∀h:(lookTs resP sgN kids s).2=0,(k=18→sgN name=some kids.length)→_:=fun h hsg=>resP_pc (ts:=(lookTs resP sgN kids s).1) hm hk v name kids (fun h0=>by rw[(hbs h).2];exact h1 h0) (by rw[(hbs h).2];exact hl) (hbs h).1 (fun h18=>by
  have:=hsg h18
  unfold sgN at this
  cases hq:findSig name sigT with
  |none=>rw[hq]at this;cases this
  |some q=>
   rw[hq]at this
   exact⟨q,rfl,by rw[(hbs h).2];exact(Option.some.inj this).symm⟩)
 have hsgs:=sigs_pc
 have hlk0:=lookAll_sig name sigT sigT_nodup
 by_cases h18:k=18
 ·subst h18
  cases hq:findSig name sigT with
  |none=>
   rw[hq]at hlk0
   have hlk:lookAll (.str name) (sigE sigT)=some none:=hlk0
   rw[if_pos ⟨rfl,by unfold sgN;rw[hq];rfl⟩]
   refine⟨?_,fun h=>absurd h (by decide)⟩
   clear hres hbs hkd
   obtain⟨y0,y1,y2,y3,y4,y5⟩:=v
   refine eN Tryz.func11 ?_
   (repeat first|refine uE ?_|((first|apply oR rfl rfl|(apply dF rfl rfl rfl;intro _)|(apply dP rfl rfl rfl;intro _)|(apply dL rfl rfl rfl;intro _)|apply dC rfl rfl rfl rfl);(focus(first|exact cd [] rfl rfl (EN rfl) (hsgs) rfl rfl rfl rfl rfl rfl rfl rfl rfl rfl rfl|exact PO_lookup rfl MsS UsS (ZR rfl) rfl rfl rfl rfl rfl hlk|exact mO));try exact kQ))
   refine rE ?_ ?_
   all_goals rfl
  |some q=>
   obtain⟨tk,tells⟩:=q
   rw[hq]at hlk0
   have hlk:lookAll (.str name) (sigE sigT)=some (some (sigG (tk,tells))):=hlk0
   have hsn:sgN name=some tk.length:=by unfold sgN;rw[hq];rfl
   have hkl:(intG tk).length=tk.length:=by simp[intG]
   rw[if_neg (fun q=>by rw[hsn]at q;cases q.2)]
   clear hlk0
   by_cases har:tk.length≠kids.length
   ·rw[if_pos ⟨rfl,fun q=>har (by rw[hsn]at q;exact Option.some.inj q)⟩]
    refine⟨?_,fun h=>absurd h (by decide)⟩
    clear hres hbs hkd
    obtain⟨y0,y1,y2,y3,y4,y5⟩:=v
    refine eN Tryz.func11 ?_
    (repeat first|refine uE ?_|((first|apply oR rfl rfl|(apply dF rfl rfl rfl;intro _)|(apply dP rfl rfl rfl;intro _)|(apply dL rfl rfl rfl;intro _)|apply dC rfl rfl rfl rfl);(focus(first|exact cd [] rfl rfl (EN rfl) (hsgs) rfl rfl rfl rfl rfl rfl rfl rfl rfl rfl rfl|exact PO_lookup rfl MsS UsS (ZR rfl) rfl rfl rfl rfl rfl hlk|exact mO));try exact kQ))
    refine sQ (fun h=> ?_) fun h=> ?_
    ·(try refine uD ?_)
     refine rE ?_ ?_
     all_goals rfl
    ·exfalso
     have h2:((intG tk).length:Int)=((VExpr.gs kids).length:Int):=by simpa[bne]using h
     omega
   have har:tk.length=kids.length:=by omega
   rw[if_neg (fun q=>q.2 (by rw[hsn,har]))]
   have hres2:=fun h=>hres h (fun _=>by rw[hsn,har])
   clear hres
   generalize lookTs resP sgN kids s=L at *
   obtain⟨ts,e⟩:=L
   dsimp only at hkd hbs hres2⊢
   by_cases he0:e≠0
   ·rw[if_pos he0]
    refine⟨?_,fun h=>absurd h he0⟩
    obtain⟨y0,y1,y2,y3,y4,y5⟩:=v
    refine eN Tryz.func11 ?_
    (repeat first|refine uE ?_|((first|apply oR rfl rfl|(apply dF rfl rfl rfl;intro _)|(apply dP rfl rfl rfl;intro _)|(apply dL rfl rfl rfl;intro _)|apply dC rfl rfl rfl rfl);(focus(first|exact cd [] rfl rfl (EN rfl) (hsgs) rfl rfl rfl rfl rfl rfl rfl rfl rfl rfl rfl|exact PO_lookup rfl MsS UsS (ZR rfl) rfl rfl rfl rfl rfl hlk|exact mO));try exact kQ))
    refine sQ (fun h=> ?_) fun h=> ?_
    ·exfalso
     have h2:((intG tk).length:Int)≠((VExpr.gs kids).length:Int):=by simpa[bne]using h
     omega
    clear h
    (repeat first|refine uE ?_|((first|apply oR rfl rfl|(apply dF rfl rfl rfl;intro _)|(apply dP rfl rfl rfl;intro _)|(apply dL rfl rfl rfl;intro _)|apply dC rfl rfl rfl rfl);(focus(first|exact cd [] rfl rfl (EN rfl) (hkd) rfl rfl rfl rfl rfl rfl rfl rfl rfl rfl rfl|exact mO));try exact kQ))
    refine sQ (fun h=> ?_) fun h=> ?_
    ·(try refine uD ?_)
     refine rE ?_ ?_
     all_goals rfl
    ·exact absurd (by simpa[bne]using h) he0
   have he0:e=0:=by omega
   subst he0
   rw[if_neg (fun q=>q rfl)]
   obtain⟨hr1,hr2⟩:=hres2 rfl
   generalize resP 18 name ts=r at *
   obtain⟨rt,rb⟩:=r
   dsimp only at hr1 hr2⊢
   obtain⟨es,he⟩:=tyP_mk rt
   rw[he]at hr1
   cases rb with
   |false=>
    rw[if_neg (by decide)]
    refine⟨?_,fun h=>absurd h (by decide)⟩
    clear hr2
    obtain⟨y0,y1,y2,y3,y4,y5⟩:=v
    refine eN Tryz.func11 ?_
    (repeat first|refine uE ?_|((first|apply oR rfl rfl|(apply dF rfl rfl rfl;intro _)|(apply dP rfl rfl rfl;intro _)|(apply dL rfl rfl rfl;intro _)|apply dC rfl rfl rfl rfl);(focus(first|exact cd [] rfl rfl (EN rfl) (hsgs) rfl rfl rfl rfl rfl rfl rfl rfl rfl rfl rfl|exact PO_lookup rfl MsS UsS (ZR rfl) rfl rfl rfl rfl rfl hlk|exact mO));try exact kQ))
    refine sQ (fun h=> ?_) fun h=> ?_
    ·exfalso
     have h2:((intG tk).length:Int)≠((VExpr.gs kids).length:Int):=by simpa[bne]using h
     omega
    clear h
    (repeat first|refine uE ?_|((first|apply oR rfl rfl|(apply dF rfl rfl rfl;intro _)|(apply dP rfl rfl rfl;intro _)|(apply dL rfl rfl rfl;intro _)|apply dC rfl rfl rfl rfl);(focus(first|exact cd [] rfl rfl (EN rfl) (hkd) rfl rfl rfl rfl rfl rfl rfl rfl rfl rfl rfl|exact cd [] rfl rfl (EN rfl) (hr1) rfl rfl rfl rfl rfl rfl rfl rfl rfl rfl rfl|exact mO));try exact kQ))
    refine rE ?_ ?_
    all_goals rfl
   |true=>
    rw[if_pos rfl]
    refine⟨?_,fun _=>hr2 rfl⟩
    dsimp only
    rw[he]
    clear hr2
    generalize kdP rt=kd at *
    obtain⟨y0,y1,y2,y3,y4,y5⟩:=v
    refine eN Tryz.func11 ?_
    (repeat first|refine uE ?_|((first|apply oR rfl rfl|(apply dF rfl rfl rfl;intro _)|(apply dP rfl rfl rfl;intro _)|(apply dL rfl rfl rfl;intro _)|apply dC rfl rfl rfl rfl);(focus(first|exact cd [] rfl rfl (EN rfl) (hsgs) rfl rfl rfl rfl rfl rfl rfl rfl rfl rfl rfl|exact PO_lookup rfl MsS UsS (ZR rfl) rfl rfl rfl rfl rfl hlk|exact mO));try exact kQ))
    refine sQ (fun h=> ?_) fun h=> ?_
    ·exfalso
     have h2:((intG tk).length:Int)≠((VExpr.gs kids).length:Int):=by simpa[bne]using h
     omega
    clear h
    (repeat first|refine uE ?_|((first|apply oR rfl rfl|(apply dF rfl rfl rfl;intro _)|(apply dP rfl rfl rfl;intro _)|(apply dL rfl rfl rfl;intro _)|apply dC rfl rfl rfl rfl);(focus(first|exact cd [] rfl rfl (EN rfl) (hkd) rfl rfl rfl rfl rfl rfl rfl rfl rfl rfl rfl|exact cd [] rfl rfl (EN rfl) (hr1) rfl rfl rfl rfl rfl rfl rfl rfl rfl rfl rfl|exact mO));try exact kQ))
    refine rE ?_ ?_
    all_goals rfl
 ·have hk1: ¬k=1:=by omega
  have hk2: ¬k=2:=by omega
  have hk20: ¬k=20:=by omega
  have hk21: ¬k=21:=by omega
  have hk22: ¬k=22:=by omega
  have hk18:=h18
  rw[if_neg (fun q=>h18 q.1),if_neg (fun q=>h18 q.1)]
  have hres2:=fun h=>hres h (fun q=>absurd q h18)
  clear hres hlk0 hsgs
  generalize lookTs resP sgN kids s=L at *
  obtain⟨ts,e⟩:=L
  dsimp only at hkd hbs hres2⊢
  by_cases he0:e≠0
  ·rw[if_pos he0]
   refine⟨?_,fun h=>absurd h he0⟩
   obtain⟨y0,y1,y2,y3,y4,y5⟩:=v
   refine eN Tryz.func11 ?_
   (try refine uD ?_)
   refine sQ (fun h=> ?_) fun h=> ?_
   ·exact absurd (eq_of_beq h) hk1
   clear h
   (try refine uD ?_)
   refine sQ (fun h=> ?_) fun h=> ?_
   ·exact absurd (eq_of_beq h) hk2
   clear h
   (try refine uD ?_)
   refine sQ (fun h=> ?_) fun h=> ?_
   ·exact absurd (eq_of_beq h) hk20
   clear h
   (try refine uD ?_)
   refine sQ (fun h=> ?_) fun h=> ?_
   ·exact absurd (eq_of_beq h) hk21
   clear h
   (try refine uD ?_)
   refine sQ (fun h=> ?_) fun h=> ?_
   ·exact absurd (eq_of_beq h) hk22
   clear h
   (try refine uD ?_)
   refine sQ (fun h=> ?_) fun h=> ?_
   ·exact absurd (eq_of_beq h) hk18
   clear h
   (repeat first|refine uE ?_|((first|apply oR rfl rfl|(apply dF rfl rfl rfl;intro _)|(apply dP rfl rfl rfl;intro _)|(apply dL rfl rfl rfl;intro _)|apply dC rfl rfl rfl rfl);(focus(first|exact cd [] rfl rfl (EN rfl) (hkd) rfl rfl rfl rfl rfl rfl rfl rfl rfl rfl rfl|exact mO));try exact kQ))
   refine sQ (fun h=> ?_) fun h=> ?_
   ·(try refine uD ?_)
    refine rE ?_ ?_
    all_goals rfl
   ·exact absurd (by simpa[bne]using h) he0
  have he0:e=0:=by omega
  subst he0
  rw[if_neg (fun q=>q rfl)]
  obtain⟨hr1,hr2⟩:=hres2 rfl
  generalize resP k name ts=r at *
  obtain⟨rt,rb⟩:=r
  dsimp only at hr1 hr2⊢
  obtain⟨es,he⟩:=tyP_mk rt
  rw[he]at hr1
  cases rb with
  |false=>
   rw[if_neg (by decide)]
   refine⟨?_,fun h=>absurd h (by decide)⟩
   clear hr2
   obtain⟨y0,y1,y2,y3,y4,y5⟩:=v
   refine eN Tryz.func11 ?_
   (try refine uD ?_)
   refine sQ (fun h=> ?_) fun h=> ?_
   ·exact absurd (eq_of_beq h) hk1
   clear h
   (try refine uD ?_)
   refine sQ (fun h=> ?_) fun h=> ?_
   ·exact absurd (eq_of_beq h) hk2
   clear h
   (try refine uD ?_)
   refine sQ (fun h=> ?_) fun h=> ?_
   ·exact absurd (eq_of_beq h) hk20
   clear h
   (try refine uD ?_)
   refine sQ (fun h=> ?_) fun h=> ?_
   ·exact absurd (eq_of_beq h) hk21
   clear h
   (try refine uD ?_)
   refine sQ (fun h=> ?_) fun h=> ?_
   ·exact absurd (eq_of_beq h) hk22
   clear h
   (try refine uD ?_)
   refine sQ (fun h=> ?_) fun h=> ?_
   ·exact absurd (eq_of_beq h) hk18
   clear h
   (repeat first|refine uE ?_|((first|apply oR rfl rfl|(apply dF rfl rfl rfl;intro _)|(apply dP rfl rfl rfl;intro _)|(apply dL rfl rfl rfl;intro _)|apply dC rfl rfl rfl rfl);(focus(first|exact cd [] rfl rfl (EN rfl) (hkd) rfl rfl rfl rfl rfl rfl rfl rfl rfl rfl rfl|exact cd [] rfl rfl (EN rfl) (hr1) rfl rfl rfl rfl rfl rfl rfl rfl rfl rfl rfl|exact mO));try exact kQ))
   refine rE ?_ ?_
   all_goals rfl
  |true=>
   rw[if_pos rfl]
   refine⟨?_,fun _=>hr2 rfl⟩
   dsimp only
   rw[he]
   clear hr2
   generalize kdP rt=kd at *
   obtain⟨y0,y1,y2,y3,y4,y5⟩:=v
   refine eN Tryz.func11 ?_
   (try refine uD ?_)
   refine sQ (fun h=> ?_) fun h=> ?_
   ·exact absurd (eq_of_beq h) hk1
   clear h
   (try refine uD ?_)
   refine sQ (fun h=> ?_) fun h=> ?_
   ·exact absurd (eq_of_beq h) hk2
   clear h
   (try refine uD ?_)
   refine sQ (fun h=> ?_) fun h=> ?_
   ·exact absurd (eq_of_beq h) hk20
   clear h
   (try refine uD ?_)
   refine sQ (fun h=> ?_) fun h=> ?_
   ·exact absurd (eq_of_beq h) hk21
   clear h
   (try refine uD ?_)
   refine sQ (fun h=> ?_) fun h=> ?_
   ·exact absurd (eq_of_beq h) hk22
   clear h
   (try refine uD ?_)
   refine sQ (fun h=> ?_) fun h=> ?_
   ·exact absurd (eq_of_beq h) hk18
   clear h
   (repeat first|refine uE ?_|((first|apply oR rfl rfl|(apply dF rfl rfl rfl;intro _)|(apply dP rfl rfl rfl;intro _)|(apply dL rfl rfl rfl;intro _)|apply dC rfl rfl rfl rfl);(focus(first|exact cd [] rfl rfl (EN rfl) (hkd) rfl rfl rfl rfl rfl rfl rfl rfl rfl rfl rfl|exact cd [] rfl rfl (EN rfl) (hr1) rfl rfl rfl rfl rfl rfl rfl rfl rfl rfl rfl|exact mO));try exact kQ))
   refine rE ?_ ?_
   all_goals rfl
inductive okL:Nat→VExpr→Prop where
 |mk (d:Nat) (k:Int) (v:VVal) (name:ByteArray) (kids:List VExpr) (m most:Int) (hd:d≤60) (h:kidsN k=some (m,most)) (h1:0≤m→(kids.length:Int)=m) (h2:m<0→(kids.length:Int)≤most) (hv:k=1→litK v) (hk: ∀x∈kids,okL (d+1) x):okL d (.mk k v name kids)
theorem lit_ok{V:ByteArray→Bool}(v:VVal)(h:litE V v=0):litK v:=by
 obtain⟨k,y,c,e,t,l⟩:=v
 unfold litE at h
 dsimp only at h
 split at h
 ·rename_i h1;exact absurd h h1
 ·rename_i h1
  split at h
  ·cases h
  ·rename_i h2
   have h3:(lookV V (.mk k y c e t l) 0 1).2=0:=by omega
   rw[lookV_eq]at h3
   unfold litK
   dsimp only
   by_cases k1:k=1∨k=2
   ·omega
   ·by_cases k3:k=3
    ·omega
    ·by_cases k4:k=4
     ·omega
     ·exfalso
      have k5: ¬k=5:=fun q=>h2 (.inl q)
      simp[k1,k3,k4,k5]at h3
theorem lookX_okL{V nm:ByteArray→Bool}: ∀(x:VExpr) (n d:Nat),(lookX V nm x n d).2=0→okL d x:=by
 intro x
 induction x using VExpr.rec (motive_2:=fun l=> ∀n d,(lookXs V nm l n d).2=0→ ∀x∈l,okL d x)with
 |mk k v name kids ih=>
  intro n d h
  rw[lookX_eq]at h
  split at h
  ·cases h
  ·rename_i h0
   cases hm:kidsN k with
   |none=>rw[hm]at h;cases h
   |some p=>
    obtain⟨m,most⟩:=p
    rw[hm]at h
    dsimp only at h
    split at h
    ·rename_i h1;exact absurd h h1.2
    ·rename_i h1
     split at h
     ·cases h
     ·split at h
      ·cases h
      ·rename_i h3
       exact .mk d k v name kids m most (by omega) hm (fun h4=>by omega) (fun h4=>by omega) (fun hk=>lit_ok (V:=V) v (by
        rcases Classical.em (litE V v=0)with q|q
        ·exact q
        ·exact absurd ⟨hk,q⟩ h1)) (ih (n+1) (d+1) h)
 |nil=>
  rename_i n d h y hy
  exact absurd hy List.not_mem_nil
 |cons x r h1 h2=>
  rename_i n d h y hy
  rw[lookXs_cons]at h
  split at h
  ·rename_i h3;exact absurd h h3
  ·rename_i h3
   rcases List.mem_cons.1 hy with rfl|hy
   ·exact h1 n d (by omega)
   ·exact h2 _ d h y hy
theorem findS_base{name:ByteArray}{t:TyP}: ∀{s:List (ByteArray×TyP)},(∀p∈s,baseK p.2.2)→findS s name=some t→baseK t.2
 |(m,u)::r,hb,h=>by
  rw[findS]at h
  cases hr:findS r name with
  |some w=>
   rw[hr]at h
   cases h
   exact findS_base (fun p hp=>hb p (by simp[hp])) hr
  |none=>
   rw[hr]at h
   dsimp only at h
   split at h
   ·have e:=Option.some.inj h;subst e;exact hb (m,u) (by simp)
   ·cases h
theorem look_all: ∀(x:VExpr) (d:Nat) (s:List (ByteArray×TyP)),okL d x→s.length≤60+d→(∀p∈s,baseK p.2.2)→LookOK x s
 | .mk k v name kids,d,s,ho,hs,hb=>by
  cases ho with
  |mk _ _ _ _ _ m most hd h h1 h2 hv hk=>
   have ih: ∀y∈kids,∀s':List (ByteArray×TyP),s'.length≤60+(d+1)→(∀p∈s',baseK p.2.2)→LookOK y s':=fun y hy s' hl' hb'=>look_all y (d+1) s' (hk y hy) hl' hb'
   by_cases k1:k=1
   ·exact lookLit_pc k1 v name kids s (hv k1)
   by_cases k2:k=2
   ·exact lookName_pc k2 v name kids s (by omega) fun t ht=>findS_base hb ht
   by_cases k3:k=20∨k=21∨k=22
   ·unfold kidsN at h
    rw[if_neg (by omega),if_neg (by omega),if_pos (by omega)]at h
    obtain⟨rfl,rfl⟩:(2:Int)=m∧(0:Int)=most:=by simpa using h
    match kids,h1 (by decide),ih with
    |[x,y],_,ih=>
     exact lookOver_pc k3 v name x y s (by omega) (ih x (by simp) s (by omega) hb) fun t ht=>ih y (by simp) _ (by rw[List.length_append];show s.length+1≤_;omega) fun p hp=>by
      rcases List.mem_append.1 hp with hp|hp
      ·exact hb p hp
      ·rw[List.mem_singleton.1 hp];exact ht
    |[],hh,_=>simp at hh
    |[x],hh,_=>simp at hh
    |x::y::z::r,hh,_=>simp at hh;omega
   ·have hl:kids.length≤1000:=by
     by_cases h0:0≤m
     ·have e1:=h1 h0
      have:m≤3:=by
       unfold kidsN at h
       repeat' split at h
       all_goals first|(cases h;done)|(obtain⟨rfl,rfl⟩:=Prod.mk.inj (Option.some.inj h);omega)
      omega
     ·have e2:=h2 (by omega)
      have:most≤200:=by
       unfold kidsN at h
       repeat' split at h
       all_goals first|(cases h;done)|(obtain⟨rfl,rfl⟩:=Prod.mk.inj (Option.some.inj h);omega)
      omega
    exact lookNode_pc h (by omega) v name kids s h1 hl fun y hy=>ih y hy s (by omega) hb
def varsE(nm:ByteArray→Bool):List VVar→Int
 |[]=>0
 | .mk n ty::r=>if nm n=false then 7 else if wrongT 1 ty≠0 then wrongT 1 ty else varsE nm r
def tyZ0:VTy:= .mk 0 []
theorem type_bad{V nm:ByteArray→Bool}(hV: ∀s:ByteArray,s.size≤maxLen→PC Tryz.prog 59 [.g (.str s)] ⟨[],[],[]⟩ (.g (.bool (V s))) ⟨[],[],[]⟩)
  (hN: ∀s:ByteArray,PC Tryz.prog 9 [.g (.str s)] ⟨[],[],[]⟩ (.g (.bool (nm s))) ⟨[],[],[]⟩) (x:VExpr) (hz:gsz x.g) (vs:List VVar) (h0:(lookX V nm x 0 1).2≠0∨50<vs.length):
  PC Tryz.prog 5 [.g x.g, .g (.sl (VVar.gs vs))] ⟨[],[],[]⟩ (.tuple [.g tyZ0.g, .g (.int .i64 (if(lookX V nm x 0 1).2≠0 then(lookX V nm x 0 1).2 else 5))]) ⟨[],[],[]⟩:=by
 have hW:=synWrong_pc hV hN x hz
 have hgl:(VVar.gs vs).length=vs.length:=by simp[VVar.gs]
 generalize(lookX V nm x 0 1).2=E0 at *
 obtain⟨k,⟨y0,y1,y2,y3,y4,y5⟩,name,kids⟩:=x
 clear hz hV hN
 refine eN Tryz.func5 ?_
 refine PW_cutp2 [(1, .g (.sl (VVar.gs vs))),(5, .g (.int .i64 0))] 2 4 (VExpr.mk k (VVal.mk y0 y1 y2 y3 y4 y5) name kids).g.cells [constC (Value.int IntKind.i64 0),constC (Value.slice none 0 0)] rfl rfl ?_ ?_
 ·(try refine uN ?_)
  exact⟨SlotsOk.le ⟨.inl rfl, .inl rfl,trivial⟩,rfl,rfl,HLe.of_eq rfl⟩
 (repeat first|refine uA ?_|(apply oR rfl rfl;focus(first|exact cqP hW|exact mO)))
 refine sQ (fun h=> ?_) fun h=> ?_
 ·have h1:E0≠0:=by simpa[bne]using h
  rw[if_pos h1]
  clear h h0
  (try refine uN ?_)
  refine rE ?_ ?_
  all_goals rfl
 ·have h1: ¬E0≠0:=fun q=>q (by simpa[bne]using h)
  rw[if_neg h1]
  have h2:50<vs.length:=by
   rcases h0 with h0|h0
   ·exact absurd h0 h1
   ·exact h0
  clear h h0
  (try refine uN ?_)
  refine sQ (fun h=> ?_) fun h=> ?_
  ·(try refine uN ?_)
   refine rE ?_ ?_
   all_goals rfl
  ·exfalso
   have:=of_decide_eq_false h
   omega
theorem type_in{V nm:ByteArray→Bool}(hV: ∀s:ByteArray,s.size≤maxLen→PC Tryz.prog 59 [.g (.str s)] ⟨[],[],[]⟩ (.g (.bool (V s))) ⟨[],[],[]⟩)
  (hN: ∀s:ByteArray,PC Tryz.prog 9 [.g (.str s)] ⟨[],[],[]⟩ (.g (.bool (nm s))) ⟨[],[],[]⟩) (x:VExpr) (hz:gsz x.g) (vs:List VVar) (h0:(lookX V nm x 0 1).2=0) (hl:vs.length≤50) {T:VTy} {e:Int}
  (hC:varsE nm vs≠0→T=tyZ0∧e=varsE nm vs) (hD:varsE nm vs=0→ ∃s,VVar.gs vs=varsG s∧LookOK x s∧T=(if(lookP x s).2≠0 then tyZ0 else tyP (lookP x s).1)∧e=(lookP x s).2):
  PC Tryz.prog 5 [.g x.g, .g (.sl (VVar.gs vs))] ⟨[],[],[]⟩ (.tuple [.g T.g, .g (.int .i64 e)]) ⟨[],[],[]⟩:=by
 have hW:=synWrong_pc hV hN x hz
 rw[h0]at hW
 have hgl:(VVar.gs vs).length=vs.length:=by simp[VVar.gs]
 obtain⟨k,⟨y0,y1,y2,y3,y4,y5⟩,name,kids⟩:=x
 clear hz hV h0
 refine eN Tryz.func5 ?_
 refine PW_cutp2 [(1, .g (.sl (VVar.gs vs))),(5, .g (.int .i64 0))] 2 4 (VExpr.mk k (VVal.mk y0 y1 y2 y3 y4 y5) name kids).g.cells [constC (Value.int IntKind.i64 0),constC (Value.slice none 0 0)] rfl rfl ?_ ?_
 ·(try refine uN ?_)
  exact⟨SlotsOk.le ⟨.inl rfl, .inl rfl,trivial⟩,rfl,rfl,HLe.of_eq rfl⟩
 (repeat first|refine uA ?_|(apply oR rfl rfl;focus(first|exact cqP hW|exact mO)))
 refine sQ (fun h=> ?_) fun h=> ?_
 ·exfalso
  have:=of_decide_eq_true h
  omega
 clear h hW
 (try refine uN ?_)
 refine PW_loop_cut (S:=Nat) (fun i=>[(1, .g (.sl (VVar.gs vs))),(2, .pat (VExpr.mk k (VVal.mk y0 y1 y2 y3 y4 y5) name kids).g.cells),(4, .ptr 0 0),(22, .g (.sl (VVar.gs vs))),(23, .g (.int .i64 vs.length)),(24, .g (.int .i64 i))]) (fun _=>⟨[[constC (Value.int IntKind.i64 0),constC (Value.slice none 0 0)]],[],[]⟩)
  (fun i=>i≤vs.length∧varsE nm (vs.drop i)=varsE nm vs) (fun i=>vs.length-i) 0 ⟨Nat.zero_le _,rfl⟩
  (SlotsOk.le ⟨.inl rfl, .inl rfl, .inl rfl, .inl rfl, .inl (congrArg (fun k:Nat=>PV.g (.int .i64 k)) hgl), .inl rfl,trivial⟩) (HLe.of_eq rfl) (fun _=>rfl) (fun i hi=> ?_)
 obtain⟨hi,hgo⟩:=hi
 (try refine uN ?_)
 refine sQ (fun h=> ?_) fun h=> ?_
 ·have hlt:i<vs.length:=by have:=of_decide_eq_true h;omega
  clear h hD
  have hq:vs[i]? =some vs[i]:=List.getElem?_eq_getElem hlt
  have hg:(VVar.gs vs)[((i:Int)).toNat]? =some vs[i].g:=by rw[Int.toNat_natCast,VVar.gs,List.getElem?_map,hq];rfl
  rw[List.drop_eq_getElem_cons hlt]at hgo
  generalize vs[i]=p at *
  obtain⟨n,⟨tk,tes⟩⟩:=p
  rw[varsE]at hgo
  have hNm:=hN n
  have hwt:=wrong4_pc (.mk tk tes)
  generalize wrongT 1 (.mk tk tes)=w at *
  generalize nm n=b at *
  (repeat first|refine uA ?_|(apply oR rfl rfl;focus(first|exact iA rfl (EL rfl) (SZ rfl) rfl rfl (Int.natCast_nonneg _) hg rfl|exact cqP hNm|exact cqP hwt|exact mO)))
  refine sQ (fun h=> ?_) fun h=> ?_
  ·have hb:b=false:=by have:(!b)=true:=h;simpa using this
   rw[if_pos hb]at hgo
   obtain⟨rfl,rfl⟩:=hC (by rw[←hgo];decide)
   rw[←hgo]
   clear h
   (try refine uN ?_)
   refine rE ?_ ?_
   all_goals rfl
  have hb: ¬b=false:=by have:(!b)=false:=h;intro q;rw[q]at this;cases this
  rw[if_neg hb]at hgo
  clear h
  (repeat first|refine uA ?_|(apply oR rfl rfl;focus(first|exact cqP hwt|exact mO)))
  refine sQ (fun h=> ?_) fun h=> ?_
  ·have hw:w≠0:=by simpa[bne]using h
   rw[if_pos hw]at hgo
   obtain⟨rfl,rfl⟩:=hC (by rw[←hgo];exact hw)
   rw[←hgo]
   clear h
   (try refine uN ?_)
   refine rE ?_ ?_
   all_goals rfl
  ·have hw: ¬w≠0:=fun q=>q (by simpa[bne]using h)
   rw[if_neg hw]at hgo
   clear h
   (try refine uN ?_)
   exact⟨i+1,⟨hlt,hgo⟩,by omega,SlotsOk.le ⟨.inl rfl, .inl rfl, .inl rfl, .inl rfl, .inl rfl, .inl (congrArg (fun k=>PV.g (.int .i64 k)) (i64w (by omega))),trivial⟩,Drops.mk [[.g (.str n), .g (.int .i64 tk), .g (.sl (VTy.gs tes))]] [] [] rfl⟩
 ·have hi':i=vs.length:=by have:=of_decide_eq_false h;omega
  subst hi'
  clear h
  rw[List.drop_length,varsE]at hgo
  obtain⟨s,hs1,⟨hlk,_⟩,hs3,hs4⟩:=hD hgo.symm
  clear hC hD
  rw[hs1]
  generalize lookP (VExpr.mk k (VVal.mk y0 y1 y2 y3 y4 y5) name kids) s=r at *
  obtain⟨t,le⟩:=r
  dsimp only at hlk hs3 hs4
  subst hs4
  obtain⟨es,he⟩:=tyP_mk t
  rw[he]at hlk hs3
  generalize kdP t=kd at *
  (repeat first|refine uA ?_|(apply oR rfl rfl;focus(first|exact cd [] rfl rfl (EN rfl) (hlk) rfl rfl rfl rfl rfl rfl rfl rfl rfl rfl rfl|exact mO)))
  refine sQ (fun h=> ?_) fun h=> ?_
  ·have h1:e≠0:=by simpa[bne]using h
   rw[if_pos h1]at hs3
   subst hs3
   clear h
   (try refine uN ?_)
   refine rE ?_ ?_
   all_goals rfl
  ·have h1:e=0:=by simpa[bne]using h
   rw[if_neg (fun q=>q h1)]at hs3
   subst hs3
   subst h1
   clear h
   (try refine uN ?_)
   refine rE ?_ ?_
   all_goals rfl
theorem same9_pc: ∀(n:Nat) (b:Int),PC Tryz.prog 6 [.g (tyL n b).g, .g (tyL n b).g] ⟨[],[],[]⟩ (.g (.bool true)) ⟨[],[],[]⟩
 |0,b=>by
  rw[tyZ]
  refine eN Tryz.func6 ?_
  (repeat' first|refine uF ?_|((first|apply oR rfl rfl|(apply dF rfl rfl rfl;intro _)|(apply dP rfl rfl rfl;intro _)|(apply dL rfl rfl rfl;intro _)|apply dC rfl rfl rfl rfl);(focus(first|exact mO));try exact kQ)|refine xU [3] rfl ?_|(refine sQ (fun h=> ?_) (fun h=> ?_)<;>fail_if_success (first|(have:true=true:=h)|(have:false=false:=h)))|fail)
  all_goals(first|(exfalso;simp_all;done)|skip)
  (try refine uD ?_)
  refine PW_loop (S:=Unit) (fun _=>slots [(22, .g (.int .i64 0)),(23, .g (.int .i64 0))]) (fun _=>⟨[[.g (.int .i64 b), .g (.sl [])],[.g (.int .i64 b), .g (.sl [])]],[],[]⟩) (fun _=>True) (fun _=>0) () trivial (SlotsOk.le ⟨.inl rfl, .inl rfl,trivial⟩) (HLe.of_eq rfl) (fun _ _=> ?_)
  (try refine uD ?_)
  refine rT ?_
  rfl
 |n+1,b=>by
  have ih:=same9_pc n b
  rw[tyS]
  generalize tyL n b=u at ih
  obtain⟨uk,ues⟩:=u
  refine eN Tryz.func6 ?_
  (try refine uD ?_)
  refine PW_loop (S:=Nat) (fun i=>slots [(2, .ptr 0 0),(3, .ptr 1 0),(22, .g (.int .i64 1)),(23, .g (.int .i64 i))]) (fun _=>⟨[[.g (.int .i64 5), .g (.sl [(VTy.mk uk ues).g])],[.g (.int .i64 5), .g (.sl [(VTy.mk uk ues).g])]],[],[]⟩) (fun i=>i≤1) (fun i=>1-i) 0 (by omega) (SlotsOk.le ⟨.inl rfl, .inl rfl, .inl rfl, .inl rfl,trivial⟩) (HLe.of_eq rfl) (fun i hi=> ?_)
  match i with
  |0=>
   (repeat first|refine uE ?_|((first|apply oR rfl rfl|(apply dF rfl rfl rfl;intro _)|(apply dP rfl rfl rfl;intro _)|(apply dL rfl rfl rfl;intro _)|apply dC rfl rfl rfl rfl);(focus(first|exact cqP ih|exact iA (g:=((VTy.mk uk ues)).g) rfl (EL rfl) (SZ rfl) rfl rfl (by decide) rfl rfl|exact mO));try exact kQ))
   exact⟨1,by omega,by omega,SlotsOk.le ⟨.inl rfl, .inl rfl, .inl rfl, .inl rfl,trivial⟩,HLe.of_eq rfl⟩
  |1=>
   (try refine uD ?_)
   refine rT ?_
   rfl
  |i+2=>omega
theorem name_num:PC Tryz.prog 7 [.g (tyL 0 3).g] ⟨[],[],[]⟩ (.g (.str (bstr [110,117,109,98,101,114]))) ⟨[],[],[]⟩:=by
 rw[tyZ]
 refine eN Tryz.func7 ?_
 (try refine uN ?_)
 refine rT ?_
 rfl
theorem Ret_two{P:Program}{env:Env}{rs:List ResultVar}{ps:List PV}{e:Exit}{H2:PH}{a b a' b':GV}(hs:resVs P env H2 rs=some ps)(hp:ps=[.g a, .g b])(ha:a=a')(hb:b=b')
  (he:e= .normal∨e= .ret:=by first|exact .inl rfl|exact .inr rfl):Ret P rs ⟨[],[],[]⟩ (.tuple [.g a', .g b']) ⟨[],[],[]⟩ e env H2:=by
 subst ha;subst hb;subst hp
 refine Ret_pure hs rfl (.tuple _ fun p hp=> ?_) he
 simp at hp
 rcases hp with rfl|rfl<;>exact .g _
theorem Ret_three{P:Program}{env:Env}{rs:List ResultVar}{ps:List PV}{e:Exit}{H2:PH}{a b c a' b' c':GV}(hs:resVs P env H2 rs=some ps)(hp:ps=[.g a, .g b, .g c])(ha:a=a')(hb:b=b')(hc:c=c')
  (he:e= .normal∨e= .ret:=by first|exact .inl rfl|exact .inr rfl):Ret P rs ⟨[],[],[]⟩ (.tuple [.g a', .g b', .g c']) ⟨[],[],[]⟩ e env H2:=by
 subst ha;subst hb;subst hc;subst hp
 refine Ret_pure hs rfl (.tuple _ fun p hp=> ?_) he
 simp at hp
 rcases hp with rfl|rfl|rfl<;>exact .g _
abbrev lst0:List PV:=[.g (.int .i64 19), .g (.int .i64 0), .g (.bool false), .g (.int .i64 0), .g (.int .i64 0), .g (.str ⟨#[]⟩), .g (.sl []), .g (.str ⟨#[]⟩), .g (.sl [])]
abbrev lstE:VExpr:= .mk 19 (.mk 0 false 0 0 ⟨#[]⟩ []) ⟨#[]⟩ []
theorem kids_pc:PC Tryz.prog 22 [.g (.int .i64 19)] ⟨[],[],[]⟩ (.tuple [.g (.int .i64 (-1)), .g (.int .i64 200), .g (.int .i64 0)]) ⟨[],[],[]⟩:=by
 refine eN Tryz.func22 ?_
 (try refine uN ?_)
 exact Ret_three (vC vT (vC vT (vC vT vN))) rfl rfl rfl rfl
theorem shape_pc:PC Tryz.prog 12 [.ptr 0 0, .ptr 1 0, .g (.int .i64 1)] ⟨[[.g (.int .i64 0)],lst0],[],[]⟩ (.g (.int .i64 0)) ⟨[[.g (.int .i64 1)],lst0],[],[]⟩:=by
 have hk:=kids_pc
 refine eN Tryz.func12 ?_
 (repeat first|refine uA ?_|(apply oR rfl rfl;focus(first|exact cqP hk|exact mO)))
 refine PW_loop (S:=Unit) (fun _=>slots [(118, .g (.int .i64 0)),(119, .g (.int .i64 0))]) (fun _=>⟨[[.g (.int .i64 1)],lst0],[],[]⟩) (fun _=>True) (fun _=>0) () trivial (SlotsOk.le ⟨.inl rfl, .inl rfl,trivial⟩) (HLe.of_eq rfl) (fun _ _=> ?_)
 (try refine uN ?_)
 refine rB ?_ ?_ ?_
 all_goals rfl
theorem synwrong_pc:PC Tryz.prog 8 [.g lstE.g] ⟨[],[],[]⟩ (.g (.int .i64 0)) ⟨[],[],[]⟩:=by
 have hs:=shape_pc
 refine eN Tryz.func8 ?_
 (repeat first|refine uA ?_|(apply oR rfl rfl;focus(first|exact cb [] rfl rfl (EN rfl) (hs) rfl rfl rfl rfl rfl rfl rfl rfl rfl rfl rfl|exact mO)))
 refine rT ?_
 rfl
theorem kidtypes_pc:PC Tryz.prog 20 [.g (.sl []), .ptr 0 0] ⟨[lst0],[],[]⟩ (.tuple [.g (.sl []), .g (.int .i64 0)]) ⟨[lst0],[],[]⟩:=by
 refine eN Tryz.func20 ?_
 (try refine uN ?_)
 refine PW_loop (S:=Unit) (fun _=>slots [(6, .nils),(14, .g (.int .i64 0)),(15, .g (.int .i64 0))]) (fun _=>⟨[lst0],[],[]⟩) (fun _=>True) (fun _=>0) () trivial (SlotsOk.le ⟨.inl rfl, .inl rfl, .inl rfl,trivial⟩) (HLe.of_eq rfl) (fun _ _=> ?_)
 (try refine uN ?_)
 refine rP ?_ ?_ ?_
 all_goals rfl
theorem result_pc:PC Tryz.prog 21 [.ptr 0 0, .g (.sl [])] ⟨[lst0],[],[]⟩ (.tuple [.g (VTy.mk 5 [VTy.mk 1 []]).g, .g (.bool true)]) ⟨[lst0],[],[]⟩:=by
 have h3:=of_pc 3
 have h2:=of_pc 2
 have h1:=of_pc 1
 have hl:=list_pc (.mk 1 [])
 refine eN Tryz.func21 ?_
 (repeat first|refine uE ?_|((first|apply oR rfl rfl|(apply dF rfl rfl rfl;intro _)|(apply dP rfl rfl rfl;intro _)|(apply dL rfl rfl rfl;intro _)|apply dC rfl rfl rfl rfl);(focus(first|exact cqP h3|exact cqP h2|exact cqP h1|exact cqP hl|exact mO));try exact kQ))
 refine PW_loop (S:=Unit) (fun _=>slots [(4, .ptr 1 0),(8, .ptr 4 0),(148, .g (.int .i64 0)),(149, .g (.int .i64 0))]) (fun _=>⟨[lst0,[.g (.int .i64 0), .nils],[.g (.int .i64 3), .g (.sl [])],[.g (.int .i64 2), .g (.sl [])],[.g (.int .i64 1), .g (.sl [])]],[],[]⟩) (fun _=>True) (fun _=>0) () trivial (SlotsOk.le ⟨.inl rfl, .inl rfl, .inl rfl, .inl rfl,trivial⟩) (HLe.of_eq rfl) (fun _ _=> ?_)
 (repeat first|refine uE ?_|((first|apply oR rfl rfl|(apply dF rfl rfl rfl;intro _)|(apply dP rfl rfl rfl;intro _)|(apply dL rfl rfl rfl;intro _)|apply dC rfl rfl rfl rfl);(focus(first|exact cqP hl|exact mO));try exact kQ))
 refine rP ?_ ?_ ?_
 all_goals rfl
theorem scope_pc:PC Tryz.prog 11 [.g (.sl []), .ptr 0 0] ⟨[lst0],[],[]⟩ (.tuple [.g (VTy.mk 5 [VTy.mk 1 []]).g, .g (.int .i64 0)]) ⟨[lst0],[],[]⟩:=by
 have hk:=kidtypes_pc
 have hr:=result_pc
 refine eN Tryz.func11 ?_
 (repeat first|refine uE ?_|((first|apply oR rfl rfl|(apply dF rfl rfl rfl;intro _)|(apply dP rfl rfl rfl;intro _)|(apply dL rfl rfl rfl;intro _)|apply dC rfl rfl rfl rfl);(focus(first|exact cb [] rfl rfl (EN rfl) (hk) rfl rfl rfl rfl rfl rfl rfl rfl rfl rfl rfl|exact cb [] rfl rfl (EN rfl) (hr) rfl rfl rfl rfl rfl rfl rfl rfl rfl rfl rfl|exact mO));try exact kQ))
 refine rP ?_ ?_ ?_
 all_goals rfl
theorem type_pc:PC Tryz.prog 5 [.g lstE.g, .g (.sl [])] ⟨[],[],[]⟩ (.tuple [.g (VTy.mk 5 [VTy.mk 1 []]).g, .g (.int .i64 0)]) ⟨[],[],[]⟩:=by
 have hw:=synwrong_pc
 have hs:=scope_pc
 refine eN Tryz.func5 ?_
 (repeat first|refine uA ?_|(apply oR rfl rfl;focus(first|exact cqP hw|exact cb [] rfl rfl (EN rfl) (hs) rfl rfl rfl rfl rfl rfl rfl rfl rfl rfl rfl|exact mO)))
 refine PW_loop (S:=Unit) (fun _=>slots [(1, .g (.sl [])),(2, .ptr 0 0),(4, .ptr 1 0),(23, .g (.int .i64 0)),(24, .g (.int .i64 0))]) (fun _=>⟨[lst0,[.g (.int .i64 0), .nils]],[],[]⟩) (fun _=>True) (fun _=>0) () trivial (SlotsOk.le ⟨.inl rfl, .inl rfl, .inl rfl, .inl rfl, .inl rfl,trivial⟩) (HLe.of_eq rfl) (fun _ _=> ?_)
 (repeat first|refine uA ?_|(apply oR rfl rfl;focus(first|exact cb [] rfl rfl (EN rfl) (hs) rfl rfl rfl rfl rfl rfl rfl rfl rfl rfl rfl|exact mO)))
 exact Ret_two (vC (vA (AG rfl) (SZ rfl) rfl rfl (lB rfl)) (vC vT vN)) rfl rfl rfl
theorem alive_pc:PC Tryz.prog 4 [] ⟨[],[],[]⟩ (.g (.bool true)) ⟨[],[],[]⟩:=by
 have ht:=type_pc
 have hn:=name_num
 rw[tyZ]at hn
 refine eN Tryz.func4 ?_
 (repeat first|refine uA ?_|(apply oR rfl rfl;focus(first|exact cqP ht|exact cqP hn|exact mO)))
 refine rT ?_
 exact(show((bstr [110,117,109,98,101,114]).toList==(bstr [110,117,109,98,101,114]).toList)=true by simp)
end Go.Proofs.YtdoenpeadkoklaaGreatFmtBesafter