/- What the program's functions compute, each shown once; and plain laws of it. -/
import Derived.Test.YtdoenpeadkoklaaGreatFmtBesafterOwnU
set_option maxRecDepth 100000
set_option maxHeartbeats 32000000
namespace Go.Proofs.YtdoenpeadkoklaaGreatFmtBesafter
open Go Go.Pure
attribute [local irreducible] PW POps POpsD PO PC Cond
def tsG(ts:List TyP):List GV:=ts.map fun t=>(tyP t).g
theorem tsG_len(ts:List TyP):(tsG ts).length=ts.length:=by simp[tsG]
theorem tsG_get{ts:List TyP}{i:Nat}{t:TyP}(h:ts[i]? =some t):(tsG ts)[((i:Nat):Int).toNat]? =some (tyP t).g:=by
 rw[Int.toNat_natCast,tsG,List.getElem?_map,h];rfl
def kdP(t:TyP):Int:=kdL t.1 t.2
theorem tyP_mk(t:TyP): ∃es,tyP t=VTy.mk (kdP t) es:=tyK t.1 t.2
def takesP:List Int→List TyP→Bool
 |k::ks,t::ts=>(k==0||mayK (kdP t) [k])&&takesP ks ts
 |_,_=>true
def allP(k:Int)(ts:List TyP):Bool:=ts.all fun t=>mayK (kdP t) [k]
def joinP(a b:TyP):TyP:=joinT a.1 a.2 b.1 b.2
def elP(t:TyP):TyP:=(t.1-1,t.2)
def betweenS:ByteArray:=⟨#[98,101,116,119,101,101,110]⟩
def sumS:ByteArray:=⟨#[115,117,109]⟩
def concatS:ByteArray:=⟨#[99,111,110,99,97,116]⟩
def calledP(name:ByteArray)(tk:List Int)(tells:Int)(ts:List TyP):TyP×Bool:=
 if takesP tk ts=false then((0,0),false)
 else if(name.toList==betweenS.toList)=true then((0,2),allP 3 ts||allP 4 ts)
 else match ts with
 |[]=>((0,0),false)
 |t::r=>
  if(name.toList==sumS.toList)=true∧mayK (kdP (elP t)) [3]=false then((0,0),false)
  else if(name.toList==concatS.toList)=true then(((joinP (elP t) (elP (r.headD (0,0)))).1+1,(joinP (elP t) (elP (r.headD (0,0)))).2),true)
  else if tells<0 then(((elP t).1+1,(elP t).2),true)
  else if tells=6 then(elP t,true)else((0,tells),true)
theorem takesP_drop{k:Int}{t:TyP}{tk:List Int}{ts:List TyP}{i:Nat}(h1:tk[i]? =some k)(h2:ts[i]? =some t):takesP (tk.drop i) (ts.drop i)=((k==0||mayK (kdP t) [k])&&takesP (tk.drop (i+1)) (ts.drop (i+1))):=by
 obtain⟨a1,b1⟩:=List.getElem?_eq_some_iff.1 h1
 obtain⟨a2,b2⟩:=List.getElem?_eq_some_iff.1 h2
 rw[List.drop_eq_getElem_cons a1,List.drop_eq_getElem_cons a2,b1,b2,takesP]
theorem el_pc{t:TyP}(hb:baseK t.2):PC Tryz.prog 36 [.g (tyP t).g] ⟨[],[],[]⟩ (.g (tyP (elP t)).g) ⟨[],[],[]⟩:=elem_pc hb t.1
theorem jn_pc{a b:TyP}(ha:baseK a.2)(hb:baseK b.2):PC Tryz.prog 40 [.g (tyP a).g, .g (tyP b).g] ⟨[],[],[]⟩ (.g (tyP (joinP a b)).g) ⟨[],[],[]⟩:=join10_pc ha hb a.1 b.1
theorem ls_pc(t:TyP):PC Tryz.prog 37 [.g (tyP t).g] ⟨[],[],[]⟩ (.g (tyP (t.1+1,t.2)).g) ⟨[],[],[]⟩:=list_pc (tyP t)
theorem my_pc(t:TyP){ks:List Int}(hl:ks.length≤1000):PC Tryz.prog 35 [.g (tyP t).g, .g (.sl (intG ks))] ⟨[],[],[]⟩ (.g (.bool (mayK (kdP t) ks))) ⟨[],[],[]⟩:=by
 obtain⟨es,he⟩:=tyP_mk t
 rw[he]
 exact may_pc _ es hl
theorem called_pc{name:ByteArray}{tk:List Int}{tells:Int}{ts:List TyP}(hs:lookAll (.str name) (sigE sigT)=some (some (sigG (tk,tells))))(hlen:ts.length=tk.length)(hb: ∀t∈ts,baseK t.2)(h1:1≤ts.length)(h3:ts.length≤3)(hcat:(name.toList==concatS.toList)=true→2≤ts.length):
  PC Tryz.prog 41 [.g (.str name), .g (.sl (tsG ts))] ⟨[],[],[]⟩ (.tuple [.g (tyP (calledP name tk tells ts).1).g, .g (.bool (calledP name tk tells ts).2)]) ⟨[],[],[]⟩:=by
 have hgl:=tsG_len ts
 have hkl:(intG tk).length=tk.length:=by simp[intG]
 have hsg:=sigs_pc
 generalize hR:calledP name tk tells ts=R
 refine eN Tryz.func41 ?_
 (repeat first|refine uE ?_|((first|apply oR rfl rfl|(apply dF rfl rfl rfl;intro _)|(apply dP rfl rfl rfl;intro _)|(apply dL rfl rfl rfl;intro _)|apply dC rfl rfl rfl rfl);(focus(first|exact cd [] rfl rfl (EN rfl) (hsg) rfl rfl rfl rfl rfl rfl rfl rfl rfl rfl rfl|exact PO_lookup rfl MsS UsS (ZR rfl) rfl rfl rfl rfl rfl hs|exact mO));try exact kQ))
 refine PW_loop (S:=Nat) (fun i=>slots [(0, .g (.str name)),(1, .g (.sl (tsG ts))),(4, .ptr 0 0),(6, .ptr 1 0),(17, .g (.sl (intG tk))),(18, .g (.int .i64 tk.length)),(19, .g (.int .i64 i))]) (fun _=>⟨[[constC (Value.int IntKind.i64 0),constC (Value.slice none 0 0)],[.g (.sl (intG tk)), .g (.int .i64 tells)]],[],[.map (sigE sigT)]⟩) (fun i=>i≤tk.length∧takesP (tk.drop i) (ts.drop i)=takesP tk ts) (fun i=>tk.length-i) 0 ⟨Nat.zero_le _,rfl⟩
  (SlotsOk.le ⟨.inl rfl, .inl rfl, .inl rfl, .inl rfl, .inl rfl, .inl (congrArg (fun k:Nat=>PV.g (.int .i64 k)) hkl), .inl rfl,trivial⟩) (HLe.of_eq rfl) (fun i hi=> ?_)
 obtain⟨hi,hgo⟩:=hi
 clear hsg hs
 (try refine uD ?_)
 refine sQ (fun h=> ?_) fun h=> ?_
 ·have hlt:i<tk.length:=by have:=of_decide_eq_true h;omega
  clear h
  have hq:tk[i]? =some tk[i]:=List.getElem?_eq_getElem hlt
  have hgq:(intG tk)[((i:Int)).toNat]? =some (.int .i64 tk[i]):=by rw[Int.toNat_natCast,intG,List.getElem?_map,hq];rfl
  have ht:ts[i]? =some (ts[i]'(by omega)):=List.getElem?_eq_getElem (by omega)
  have hg:=tsG_get ht
  have hmy:=my_pc (ts[i]'(by omega)) (ks:=[tk[i]]) (by simp)
  have hdr:=takesP_drop hq ht
  obtain⟨es,he⟩:=tyP_mk (ts[i]'(by omega))
  rw[he]at hg hmy
  generalize tk[i]=q at *
  generalize mayK (kdP (ts[i]'(by omega))) [q]=M at *
  generalize kdP (ts[i]'(by omega))=kd at *
  rw[hdr]at hgo
  (repeat first|refine uE ?_|((first|apply oR rfl rfl|(apply dF rfl rfl rfl;intro _)|(apply dP rfl rfl rfl;intro _)|(apply dL rfl rfl rfl;intro _)|apply dC rfl rfl rfl rfl);(focus(first|exact iA rfl (EL rfl) (SZ rfl) rfl rfl (Int.natCast_nonneg _) hgq rfl|exact mO));try exact kQ))
  refine sQ (fun h=> ?_) fun h=> ?_
  ·have hq0:(q==0)=false:=by have:(!(q==0))=true:=h;simpa using this
   clear h
   rw[hq0,Bool.false_or]at hgo
   (repeat first|refine uE ?_|((first|apply oR rfl rfl|(apply dF rfl rfl rfl;intro _)|(apply dP rfl rfl rfl;intro _)|(apply dL rfl rfl rfl;intro _)|apply dC rfl rfl rfl rfl);(focus(first|exact iA rfl (EL rfl) (SZ rfl) rfl rfl (Int.natCast_nonneg _) hg rfl|exact cqP hmy|exact mO));try exact kQ))
   refine sQ (fun h=> ?_) fun h=> ?_
   ·have hM:M=false:=by have:(!M)=true:=h;simpa using this
    rw[hM,Bool.false_and]at hgo
    unfold calledP at hR
    rw[if_pos hgo.symm]at hR
    subst hR
    clear h
    (try refine uD ?_)
    refine rE ?_ ?_
    all_goals rfl
   ·have hM:M=true:=by have:(!M)=false:=h;simpa using this
    rw[hM,Bool.true_and]at hgo
    clear h
    (try refine uD ?_)
    exact⟨i+1,⟨hlt,hgo⟩,by omega,SlotsOk.le ⟨.inl rfl, .inl rfl, .inl rfl, .inl rfl, .inl rfl, .inl rfl, .inl (congrArg (fun k=>PV.g (.int .i64 k)) (i64w (by omega))),trivial⟩,HLe.of_eq rfl⟩
  ·have hq0:(q==0)=true:=by have:(!(q==0))=false:=h;simpa using this
   clear h
   rw[hq0,Bool.true_or,Bool.true_and]at hgo
   (try refine uD ?_)
   exact⟨i+1,⟨hlt,hgo⟩,by omega,SlotsOk.le ⟨.inl rfl, .inl rfl, .inl rfl, .inl rfl, .inl rfl, .inl rfl, .inl (congrArg (fun k=>PV.g (.int .i64 k)) (i64w (by omega))),trivial⟩,HLe.of_eq rfl⟩
 have hi':i=tk.length:=by have:=of_decide_eq_false h;omega
 subst hi'
 clear h
 rw[List.drop_length,takesP.eq_def]at hgo
 dsimp only at hgo
 unfold calledP at hR
 rw[if_neg (by rw[←hgo];decide)]at hR
 clear hgo hi
 (try refine uD ?_)
 refine sQ (fun h=> ?_) fun h=> ?_
 ·rw[if_pos (show(name.toList==betweenS.toList)=true from h)]at hR
  clear h
  (try refine uD ?_)
  refine PW_loop_cut (S:=Nat×Bool×Bool) (fun s=>[(4, .ptr 0 0),(9, .g (.bool s.2.1)),(10, .g (.bool s.2.2)),(41, .g (.sl (tsG ts))),(42, .g (.int .i64 ts.length)),(43, .g (.int .i64 s.1))]) (fun _=>⟨[[constC (Value.int IntKind.i64 0),constC (Value.slice none 0 0)],[.g (.sl (intG tk)), .g (.int .i64 tells)]],[],[.map (sigE sigT)]⟩) (fun s=>s.1≤ts.length∧(s.2.1&&allP 3 (ts.drop s.1))=allP 3 ts∧(s.2.2&&allP 4 (ts.drop s.1))=allP 4 ts) (fun s=>ts.length-s.1) (0,true,true) ⟨Nat.zero_le _,rfl,rfl⟩
   (SlotsOk.le ⟨.inl rfl, .inl rfl, .inl rfl, .inl rfl, .inl (congrArg (fun k:Nat=>PV.g (.int .i64 k)) hgl), .inl rfl,trivial⟩) (HLe.of_eq rfl) (fun _=>rfl) (fun s hs=> ?_)
  obtain⟨i,u3,u4⟩:=s
  obtain⟨hi,g3,g4⟩:=hs
  dsimp only at hi g3 g4
  (try refine uD ?_)
  refine sQ (fun h=> ?_) fun h=> ?_
  ·have hlt:i<ts.length:=by have:=of_decide_eq_true h;dsimp only at this;omega
   clear h
   have ht:ts[i]? =some ts[i]:=List.getElem?_eq_getElem hlt
   have hg:=tsG_get ht
   have hm3:=my_pc ts[i] (ks:=[3]) (by decide)
   have hm4:=my_pc ts[i] (ks:=[4]) (by decide)
   rw[List.drop_eq_getElem_cons hlt]at g3 g4
   unfold allP at g3 g4
   rw[List.all_cons]at g3 g4
   obtain⟨es,he⟩:=tyP_mk ts[i]
   rw[he]at hg hm3 hm4
   generalize mayK (kdP ts[i]) [3]=M3 at *
   generalize mayK (kdP ts[i]) [4]=M4 at *
   generalize kdP ts[i]=kd at *
   cases u3<;>cases u4
   ·(repeat first|refine uE ?_|((first|apply oR rfl rfl|(apply dF rfl rfl rfl;intro _)|(apply dP rfl rfl rfl;intro _)|(apply dL rfl rfl rfl;intro _)|apply dC rfl rfl rfl rfl);(focus(first|exact iA rfl (EL rfl) (SZ rfl) rfl rfl (Int.natCast_nonneg _) hg rfl|exact cqP hm3|exact cqP hm4|exact mO));try exact kQ))
    exact⟨(i+1,false,false),⟨hlt,by simpa[allP]using g3,by simpa[allP]using g4⟩,by dsimp only;omega,SlotsOk.le ⟨.inl rfl, .inl rfl, .inl rfl, .inl rfl, .inl rfl, .inl (congrArg (fun k=>PV.g (.int .i64 k)) (i64w (by dsimp only;omega))),trivial⟩,Drops.mk [[.g (.int .i64 kd), .g (.sl (VTy.gs es))]] [] [] rfl⟩
   ·(repeat first|refine uE ?_|((first|apply oR rfl rfl|(apply dF rfl rfl rfl;intro _)|(apply dP rfl rfl rfl;intro _)|(apply dL rfl rfl rfl;intro _)|apply dC rfl rfl rfl rfl);(focus(first|exact iA rfl (EL rfl) (SZ rfl) rfl rfl (Int.natCast_nonneg _) hg rfl|exact cqP hm3|exact cqP hm4|exact mO));try exact kQ))
    exact⟨(i+1,false,M4),⟨hlt,by simpa[allP]using g3,by simpa[allP]using g4⟩,by dsimp only;omega,SlotsOk.le ⟨.inl rfl, .inl rfl, .inl rfl, .inl rfl, .inl rfl, .inl (congrArg (fun k=>PV.g (.int .i64 k)) (i64w (by dsimp only;omega))),trivial⟩,Drops.mk [[.g (.int .i64 kd), .g (.sl (VTy.gs es))]] [] [] rfl⟩
   ·(repeat first|refine uE ?_|((first|apply oR rfl rfl|(apply dF rfl rfl rfl;intro _)|(apply dP rfl rfl rfl;intro _)|(apply dL rfl rfl rfl;intro _)|apply dC rfl rfl rfl rfl);(focus(first|exact iA rfl (EL rfl) (SZ rfl) rfl rfl (Int.natCast_nonneg _) hg rfl|exact cqP hm3|exact cqP hm4|exact mO));try exact kQ))
    exact⟨(i+1,M3,false),⟨hlt,by simpa[allP]using g3,by simpa[allP]using g4⟩,by dsimp only;omega,SlotsOk.le ⟨.inl rfl, .inl rfl, .inl rfl, .inl rfl, .inl rfl, .inl (congrArg (fun k=>PV.g (.int .i64 k)) (i64w (by dsimp only;omega))),trivial⟩,Drops.mk [[.g (.int .i64 kd), .g (.sl (VTy.gs es))]] [] [] rfl⟩
   ·(repeat first|refine uE ?_|((first|apply oR rfl rfl|(apply dF rfl rfl rfl;intro _)|(apply dP rfl rfl rfl;intro _)|(apply dL rfl rfl rfl;intro _)|apply dC rfl rfl rfl rfl);(focus(first|exact iA rfl (EL rfl) (SZ rfl) rfl rfl (Int.natCast_nonneg _) hg rfl|exact cqP hm3|exact cqP hm4|exact mO));try exact kQ))
    exact⟨(i+1,M3,M4),⟨hlt,by simpa[allP]using g3,by simpa[allP]using g4⟩,by dsimp only;omega,SlotsOk.le ⟨.inl rfl, .inl rfl, .inl rfl, .inl rfl, .inl rfl, .inl (congrArg (fun k=>PV.g (.int .i64 k)) (i64w (by dsimp only;omega))),trivial⟩,Drops.mk [[.g (.int .i64 kd), .g (.sl (VTy.gs es))]] [] [] rfl⟩
  ·have hi':i=ts.length:=by have:=of_decide_eq_false h;dsimp only at this;omega
   subst hi'
   clear h
   rw[List.drop_length]at g3 g4
   have ho:=of_pc 2
   rw[←g3,←g4]at hR
   subst hR
   cases u3<;>cases u4
   all_goals
    (repeat first|refine uE ?_|((first|apply oR rfl rfl|(apply dF rfl rfl rfl;intro _)|(apply dP rfl rfl rfl;intro _)|(apply dL rfl rfl rfl;intro _)|apply dC rfl rfl rfl rfl);(focus(first|exact cqP ho|exact mO));try exact kQ))
    refine rE ?_ ?_
    all_goals rfl
 ·rw[if_neg (by rw[show(name.toList==betweenS.toList)=false from h];decide)]at hR
  clear h
  obtain⟨t,r,rfl⟩: ∃t r,ts=t::r:=by
   cases ts with
   |nil=>simp at h1
   |cons a b=>exact⟨a,b,rfl⟩
  dsimp only at hR
  have hb0:baseK t.2:=hb t (by simp)
  have hg0:(tsG (t::r))[(0:Int).toNat]? =some (tyP t).g:=rfl
  have hel:=el_pc hb0
  have hmy:=my_pc (elP t) (ks:=[3]) (by decide)
  obtain⟨es,he⟩:=tyP_mk t
  obtain⟨es2,he2⟩:=tyP_mk (elP t)
  rw[he]at hg0 hel
  rw[he2]at hel hmy
  generalize mayK (kdP (elP t)) [3]=M at *
  generalize kdP t=kd at *
  generalize kdP (elP t)=kd2 at *
  (try refine uD ?_)
  refine sQ (fun h=> ?_) fun h=> ?_
  ·have hsm:(name.toList==sumS.toList)=true:=h
   clear h
   (repeat first|refine uE ?_|((first|apply oR rfl rfl|(apply dF rfl rfl rfl;intro _)|(apply dP rfl rfl rfl;intro _)|(apply dL rfl rfl rfl;intro _)|apply dC rfl rfl rfl rfl);(focus(first|exact iA (g:=(VTy.mk kd es).g) rfl (EL rfl) (SZ rfl) rfl rfl (by decide) hg0 rfl|exact cqP hel|exact cqP hmy|exact mO));try exact kQ))
   refine sQ (fun h=> ?_) fun h=> ?_
   ·have hM:M=false:=by have:(!M)=true:=h;simpa using this
    rw[if_pos ⟨hsm,hM⟩]at hR
    subst hR
    clear h
    (try refine uD ?_)
    refine rE ?_ ?_
    all_goals rfl
   have hM: ¬M=false:=by have:(!M)=false:=h;intro q;rw[q]at this;cases this
   rw[if_neg (fun q=>hM q.2)]at hR
   clear h
   (try refine uD ?_)
   refine sQ (fun h=> ?_) fun h=> ?_
   ·have hc:(name.toList==concatS.toList)=true:=h
    rw[if_pos hc]at hR
    clear h
    obtain⟨t2,r2,rfl⟩: ∃t2 r2,r=t2::r2:=by
     cases r with
     |nil=>have:=hcat hc;simp at this
     |cons a b=>exact⟨a,b,rfl⟩
    have hb2:baseK t2.2:=hb _ (by simp)
    have hg1:(tsG (t::t2::r2))[(1:Int).toNat]? =some (tyP t2).g:=rfl
    have hel2:=el_pc hb2
    have hj:=jn_pc (a:=elP t) (b:=elP t2) hb0 hb2
    have hls:=ls_pc (joinP (elP t) (elP t2))
    dsimp only[List.headD]at hR
    subst hR
    obtain⟨es3,he3⟩:=tyP_mk t2
    rw[he3]at hg1 hel2
    obtain⟨es4,he4⟩:=tyP_mk (elP t2)
    obtain⟨es5,he5⟩:=tyP_mk (joinP (elP t) (elP t2))
    rw[he4]at hel2 hj
    rw[he2]at hj
    rw[he5]at hj hls
    generalize kdP t2=kd3 at *
    generalize kdP (elP t2)=kd4 at *
    generalize joinP (elP t) (elP t2)=jt at *
    generalize kdP jt=kd5 at *
    (repeat first|refine uE ?_|((first|apply oR rfl rfl|(apply dF rfl rfl rfl;intro _)|(apply dP rfl rfl rfl;intro _)|(apply dL rfl rfl rfl;intro _)|apply dC rfl rfl rfl rfl);(focus(first|exact iA (g:=(VTy.mk kd es).g) rfl (EL rfl) (SZ rfl) rfl rfl (by decide) hg0 rfl|exact iA (g:=(VTy.mk kd3 es3).g) rfl (EL rfl) (SZ rfl) rfl rfl (by decide) hg1 rfl|exact cqP hel|exact cqP hel2|exact cqP hj|exact cqP hls|exact mO));try exact kQ))
    refine rE ?_ ?_
    all_goals rfl
   have hc: ¬(name.toList==concatS.toList)=true:=by rw[show(name.toList==concatS.toList)=false from h];decide
   rw[if_neg hc]at hR
   clear h
   (try refine uD ?_)
   refine sQ (fun h=> ?_) fun h=> ?_
   ·rw[if_pos (of_decide_eq_true h)]at hR
    have hls:=ls_pc (elP t)
    rw[he2]at hls
    subst hR
    clear h
    (repeat first|refine uE ?_|((first|apply oR rfl rfl|(apply dF rfl rfl rfl;intro _)|(apply dP rfl rfl rfl;intro _)|(apply dL rfl rfl rfl;intro _)|apply dC rfl rfl rfl rfl);(focus(first|exact iA (g:=(VTy.mk kd es).g) rfl (EL rfl) (SZ rfl) rfl rfl (by decide) hg0 rfl|exact cqP hel|exact cqP hls|exact mO));try exact kQ))
    refine rE ?_ ?_
    all_goals rfl
   rw[if_neg (of_decide_eq_false h)]at hR
   clear h
   (try refine uD ?_)
   refine sQ (fun h=> ?_) fun h=> ?_
   ·rw[if_pos (eq_of_beq h)]at hR
    subst hR
    clear h
    (repeat first|refine uE ?_|((first|apply oR rfl rfl|(apply dF rfl rfl rfl;intro _)|(apply dP rfl rfl rfl;intro _)|(apply dL rfl rfl rfl;intro _)|apply dC rfl rfl rfl rfl);(focus(first|exact iA (g:=(VTy.mk kd es).g) rfl (EL rfl) (SZ rfl) rfl rfl (by decide) hg0 rfl|exact cqP hel|exact mO));try exact kQ))
    refine rE ?_ ?_
    ·rw[he2];rfl
    ·rfl
   rw[if_neg (ne_of_beq_false h)]at hR
   subst hR
   clear h
   have ho:=of_pc tells
   (repeat first|refine uE ?_|((first|apply oR rfl rfl|(apply dF rfl rfl rfl;intro _)|(apply dP rfl rfl rfl;intro _)|(apply dL rfl rfl rfl;intro _)|apply dC rfl rfl rfl rfl);(focus(first|exact cqP ho|exact mO));try exact kQ))
   refine rE ?_ ?_
   all_goals rfl
  ·have hsm: ¬(name.toList==sumS.toList)=true:=by rw[show(name.toList==sumS.toList)=false from h];decide
   rw[if_neg (fun q=>hsm q.1)]at hR
   clear h
   (try refine uD ?_)
   refine sQ (fun h=> ?_) fun h=> ?_
   ·have hc:(name.toList==concatS.toList)=true:=h
    rw[if_pos hc]at hR
    clear h
    obtain⟨t2,r2,rfl⟩: ∃t2 r2,r=t2::r2:=by
     cases r with
     |nil=>have:=hcat hc;simp at this
     |cons a b=>exact⟨a,b,rfl⟩
    have hb2:baseK t2.2:=hb _ (by simp)
    have hg1:(tsG (t::t2::r2))[(1:Int).toNat]? =some (tyP t2).g:=rfl
    have hel2:=el_pc hb2
    have hj:=jn_pc (a:=elP t) (b:=elP t2) hb0 hb2
    have hls:=ls_pc (joinP (elP t) (elP t2))
    dsimp only[List.headD]at hR
    subst hR
    obtain⟨es3,he3⟩:=tyP_mk t2
    rw[he3]at hg1 hel2
    obtain⟨es4,he4⟩:=tyP_mk (elP t2)
    obtain⟨es5,he5⟩:=tyP_mk (joinP (elP t) (elP t2))
    rw[he4]at hel2 hj
    rw[he2]at hj
    rw[he5]at hj hls
    generalize kdP t2=kd3 at *
    generalize kdP (elP t2)=kd4 at *
    generalize joinP (elP t) (elP t2)=jt at *
    generalize kdP jt=kd5 at *
    (repeat first|refine uE ?_|((first|apply oR rfl rfl|(apply dF rfl rfl rfl;intro _)|(apply dP rfl rfl rfl;intro _)|(apply dL rfl rfl rfl;intro _)|apply dC rfl rfl rfl rfl);(focus(first|exact iA (g:=(VTy.mk kd es).g) rfl (EL rfl) (SZ rfl) rfl rfl (by decide) hg0 rfl|exact iA (g:=(VTy.mk kd3 es3).g) rfl (EL rfl) (SZ rfl) rfl rfl (by decide) hg1 rfl|exact cqP hel|exact cqP hel2|exact cqP hj|exact cqP hls|exact mO));try exact kQ))
    refine rE ?_ ?_
    all_goals rfl
   have hc: ¬(name.toList==concatS.toList)=true:=by rw[show(name.toList==concatS.toList)=false from h];decide
   rw[if_neg hc]at hR
   clear h
   (try refine uD ?_)
   refine sQ (fun h=> ?_) fun h=> ?_
   ·rw[if_pos (of_decide_eq_true h)]at hR
    have hls:=ls_pc (elP t)
    rw[he2]at hls
    subst hR
    clear h
    (repeat first|refine uE ?_|((first|apply oR rfl rfl|(apply dF rfl rfl rfl;intro _)|(apply dP rfl rfl rfl;intro _)|(apply dL rfl rfl rfl;intro _)|apply dC rfl rfl rfl rfl);(focus(first|exact iA (g:=(VTy.mk kd es).g) rfl (EL rfl) (SZ rfl) rfl rfl (by decide) hg0 rfl|exact cqP hel|exact cqP hls|exact mO));try exact kQ))
    refine rE ?_ ?_
    all_goals rfl
   rw[if_neg (of_decide_eq_false h)]at hR
   clear h
   (try refine uD ?_)
   refine sQ (fun h=> ?_) fun h=> ?_
   ·rw[if_pos (eq_of_beq h)]at hR
    subst hR
    clear h
    (repeat first|refine uE ?_|((first|apply oR rfl rfl|(apply dF rfl rfl rfl;intro _)|(apply dP rfl rfl rfl;intro _)|(apply dL rfl rfl rfl;intro _)|apply dC rfl rfl rfl rfl);(focus(first|exact iA (g:=(VTy.mk kd es).g) rfl (EL rfl) (SZ rfl) rfl rfl (by decide) hg0 rfl|exact cqP hel|exact mO));try exact kQ))
    refine rE ?_ ?_
    ·rw[he2];rfl
    ·rfl
   rw[if_neg (ne_of_beq_false h)]at hR
   subst hR
   clear h
   have ho:=of_pc tells
   (repeat first|refine uE ?_|((first|apply oR rfl rfl|(apply dF rfl rfl rfl;intro _)|(apply dP rfl rfl rfl;intro _)|(apply dL rfl rfl rfl;intro _)|apply dC rfl rfl rfl rfl);(focus(first|exact cqP ho|exact mO));try exact kQ))
   refine rE ?_ ?_
   all_goals rfl
theorem mt_pc{a b:TyP}(ha:baseK a.2)(hb:baseK b.2):PC Tryz.prog 39 [.g (tyP a).g, .g (tyP b).g] ⟨[],[],[]⟩ (.g (.bool (meetsT a.1 a.2 b.1 b.2))) ⟨[],[],[]⟩:=meets_pc ha hb a.1 b.1
theorem sm_pc(a b:TyP):PC Tryz.prog 38 [.g (tyP a).g, .g (tyP b).g] ⟨[],[],[]⟩ (.tuple [.g (tyP (sumK (kdP a) (kdP b)).1).g, .g (.bool (sumK (kdP a) (kdP b)).2)]) ⟨[],[],[]⟩:=by
 obtain⟨es,he⟩:=tyP_mk a
 obtain⟨fs,hf⟩:=tyP_mk b
 rw[he,hf]
 exact sum_pc _ _ es fs
theorem resNeg_pc{k:Int}(hk:k=3)(v:VVal)(name:ByteArray)(kids:List VExpr){a:TyP}:PC Tryz.prog 21 [.pat (VExpr.mk k v name kids).g.cells, .g (.sl (tsG [a]))] ⟨[],[],[]⟩ (.tuple [.g (tyP (0,3)).g, .g (.bool (mayK (kdP a) [3]))]) ⟨[],[],[]⟩:=by
 obtain⟨y0,y1,y2,y3,y4,y5⟩:=v
 have o2:=of_pc 2
 have o3:=of_pc 3
 have hg0:(tsG [a])[(0:Int).toNat]? =some (tyP a).g:=rfl
 have ma3:=my_pc a (ks:=[3]) (by decide)
 obtain⟨es0,he0⟩:=tyP_mk a
 simp only[he0]at hg0 ma3
 generalize mayK (kdP a) [3]=A3 at *
 generalize kdP a=kd0 at *
 subst hk
 refine eN Tryz.func21 ?_
 (repeat first|refine uE ?_|((first|apply oR rfl rfl|(apply dF rfl rfl rfl;intro _)|(apply dP rfl rfl rfl;intro _)|(apply dL rfl rfl rfl;intro _)|apply dC rfl rfl rfl rfl);(focus(first|exact iA (g:=(VTy.mk kd0 es0).g) rfl (EL rfl) (SZ rfl) rfl rfl (by decide) hg0 rfl|exact cqP ma3|exact cqP o2|exact cqP o3|exact mO));try exact kQ))
 refine rE ?_ ?_
 all_goals rfl
theorem resNum_pc{k:Int}(hk:k=5∨k=6∨k=7)(v:VVal)(name:ByteArray)(kids:List VExpr){a b:TyP}:PC Tryz.prog 21 [.pat (VExpr.mk k v name kids).g.cells, .g (.sl (tsG [a,b]))] ⟨[],[],[]⟩ (.tuple [.g (tyP (0,3)).g, .g (.bool (mayK (kdP a) [3]&&mayK (kdP b) [3]))]) ⟨[],[],[]⟩:=by
 obtain⟨y0,y1,y2,y3,y4,y5⟩:=v
 have o2:=of_pc 2
 have o3:=of_pc 3
 have hg0:(tsG [a,b])[(0:Int).toNat]? =some (tyP a).g:=rfl
 have hg1:(tsG [a,b])[(1:Int).toNat]? =some (tyP b).g:=rfl
 have ma3:=my_pc a (ks:=[3]) (by decide)
 have mb3:=my_pc b (ks:=[3]) (by decide)
 obtain⟨es0,he0⟩:=tyP_mk a
 obtain⟨es1,he1⟩:=tyP_mk b
 simp only[he0]at hg0 ma3
 simp only[he1]at hg1 mb3
 generalize mayK (kdP a) [3]=A3 at *
 generalize mayK (kdP b) [3]=B3 at *
 generalize kdP a=kd0 at *
 generalize kdP b=kd1 at *
 rcases hk with rfl|rfl|rfl
 all_goals
  refine eN Tryz.func21 ?_
  (repeat first|refine uE ?_|((first|apply oR rfl rfl|(apply dF rfl rfl rfl;intro _)|(apply dP rfl rfl rfl;intro _)|(apply dL rfl rfl rfl;intro _)|apply dC rfl rfl rfl rfl);(focus(first|exact iA (g:=(VTy.mk kd0 es0).g) rfl (EL rfl) (SZ rfl) rfl rfl (by decide) hg0 rfl|exact iA (g:=(VTy.mk kd1 es1).g) rfl (EL rfl) (SZ rfl) rfl rfl (by decide) hg1 rfl|exact cqP ma3|exact cqP mb3|exact cqP o2|exact cqP o3|exact mO));try exact kQ))
  refine sQ (fun h=> ?_) fun h=> ?_
  ·have e:A3=true:=h
   rw[e]
   clear h
   (repeat first|refine uE ?_|((first|apply oR rfl rfl|(apply dF rfl rfl rfl;intro _)|(apply dP rfl rfl rfl;intro _)|(apply dL rfl rfl rfl;intro _)|apply dC rfl rfl rfl rfl);(focus(first|exact iA (g:=(VTy.mk kd0 es0).g) rfl (EL rfl) (SZ rfl) rfl rfl (by decide) hg0 rfl|exact iA (g:=(VTy.mk kd1 es1).g) rfl (EL rfl) (SZ rfl) rfl rfl (by decide) hg1 rfl|exact cqP ma3|exact cqP mb3|exact cqP o2|exact cqP o3|exact mO));try exact kQ))
   refine rE ?_ ?_
   all_goals rfl
  ·have e:A3=false:=h
   rw[e]
   clear h
   (repeat first|refine uE ?_|((first|apply oR rfl rfl|(apply dF rfl rfl rfl;intro _)|(apply dP rfl rfl rfl;intro _)|(apply dL rfl rfl rfl;intro _)|apply dC rfl rfl rfl rfl);(focus(first|exact iA (g:=(VTy.mk kd0 es0).g) rfl (EL rfl) (SZ rfl) rfl rfl (by decide) hg0 rfl|exact iA (g:=(VTy.mk kd1 es1).g) rfl (EL rfl) (SZ rfl) rfl rfl (by decide) hg1 rfl|exact cqP ma3|exact cqP mb3|exact cqP o2|exact cqP o3|exact mO));try exact kQ))
   refine rE ?_ ?_
   all_goals rfl
theorem resAnd_pc{k:Int}(hk:k=15∨k=16)(v:VVal)(name:ByteArray)(kids:List VExpr){a b:TyP}:PC Tryz.prog 21 [.pat (VExpr.mk k v name kids).g.cells, .g (.sl (tsG [a,b]))] ⟨[],[],[]⟩ (.tuple [.g (tyP (0,2)).g, .g (.bool (mayK (kdP a) [2]&&mayK (kdP b) [2]))]) ⟨[],[],[]⟩:=by
 obtain⟨y0,y1,y2,y3,y4,y5⟩:=v
 have o2:=of_pc 2
 have o3:=of_pc 3
 have hg0:(tsG [a,b])[(0:Int).toNat]? =some (tyP a).g:=rfl
 have hg1:(tsG [a,b])[(1:Int).toNat]? =some (tyP b).g:=rfl
 have ma2:=my_pc a (ks:=[2]) (by decide)
 have mb2:=my_pc b (ks:=[2]) (by decide)
 obtain⟨es0,he0⟩:=tyP_mk a
 obtain⟨es1,he1⟩:=tyP_mk b
 simp only[he0]at hg0 ma2
 simp only[he1]at hg1 mb2
 generalize mayK (kdP a) [2]=A2 at *
 generalize mayK (kdP b) [2]=B2 at *
 generalize kdP a=kd0 at *
 generalize kdP b=kd1 at *
 rcases hk with rfl|rfl
 all_goals
  refine eN Tryz.func21 ?_
  (repeat first|refine uE ?_|((first|apply oR rfl rfl|(apply dF rfl rfl rfl;intro _)|(apply dP rfl rfl rfl;intro _)|(apply dL rfl rfl rfl;intro _)|apply dC rfl rfl rfl rfl);(focus(first|exact iA (g:=(VTy.mk kd0 es0).g) rfl (EL rfl) (SZ rfl) rfl rfl (by decide) hg0 rfl|exact iA (g:=(VTy.mk kd1 es1).g) rfl (EL rfl) (SZ rfl) rfl rfl (by decide) hg1 rfl|exact cqP ma2|exact cqP mb2|exact cqP o2|exact cqP o3|exact mO));try exact kQ))
  refine sQ (fun h=> ?_) fun h=> ?_
  ·have e:A2=true:=h
   rw[e]
   clear h
   (repeat first|refine uE ?_|((first|apply oR rfl rfl|(apply dF rfl rfl rfl;intro _)|(apply dP rfl rfl rfl;intro _)|(apply dL rfl rfl rfl;intro _)|apply dC rfl rfl rfl rfl);(focus(first|exact iA (g:=(VTy.mk kd0 es0).g) rfl (EL rfl) (SZ rfl) rfl rfl (by decide) hg0 rfl|exact iA (g:=(VTy.mk kd1 es1).g) rfl (EL rfl) (SZ rfl) rfl rfl (by decide) hg1 rfl|exact cqP ma2|exact cqP mb2|exact cqP o2|exact cqP o3|exact mO));try exact kQ))
   refine rE ?_ ?_
   all_goals rfl
  ·have e:A2=false:=h
   rw[e]
   clear h
   (repeat first|refine uE ?_|((first|apply oR rfl rfl|(apply dF rfl rfl rfl;intro _)|(apply dP rfl rfl rfl;intro _)|(apply dL rfl rfl rfl;intro _)|apply dC rfl rfl rfl rfl);(focus(first|exact iA (g:=(VTy.mk kd0 es0).g) rfl (EL rfl) (SZ rfl) rfl rfl (by decide) hg0 rfl|exact iA (g:=(VTy.mk kd1 es1).g) rfl (EL rfl) (SZ rfl) rfl rfl (by decide) hg1 rfl|exact cqP ma2|exact cqP mb2|exact cqP o2|exact cqP o3|exact mO));try exact kQ))
   refine rE ?_ ?_
   all_goals rfl
theorem resEq_pc{k:Int}(hk:k=8∨k=9)(v:VVal)(name:ByteArray)(kids:List VExpr){a b:TyP}(ha:baseK a.2)(hb:baseK b.2):PC Tryz.prog 21 [.pat (VExpr.mk k v name kids).g.cells, .g (.sl (tsG [a,b]))] ⟨[],[],[]⟩ (.tuple [.g (tyP (0,2)).g, .g (.bool (meetsT a.1 a.2 b.1 b.2))]) ⟨[],[],[]⟩:=by
 obtain⟨y0,y1,y2,y3,y4,y5⟩:=v
 have o2:=of_pc 2
 have o3:=of_pc 3
 have hg0:(tsG [a,b])[(0:Int).toNat]? =some (tyP a).g:=rfl
 have hg1:(tsG [a,b])[(1:Int).toNat]? =some (tyP b).g:=rfl
 have mab:=mt_pc (a:=a) (b:=b) ha hb
 obtain⟨es0,he0⟩:=tyP_mk a
 obtain⟨es1,he1⟩:=tyP_mk b
 simp only[he0]at hg0 mab
 simp only[he1]at hg1 mab
 generalize meetsT a.1 a.2 b.1 b.2=M at *
 generalize kdP a=kd0 at *
 generalize kdP b=kd1 at *
 rcases hk with rfl|rfl
 all_goals
  refine eN Tryz.func21 ?_
  (repeat first|refine uE ?_|((first|apply oR rfl rfl|(apply dF rfl rfl rfl;intro _)|(apply dP rfl rfl rfl;intro _)|(apply dL rfl rfl rfl;intro _)|apply dC rfl rfl rfl rfl);(focus(first|exact iA (g:=(VTy.mk kd0 es0).g) rfl (EL rfl) (SZ rfl) rfl rfl (by decide) hg0 rfl|exact iA (g:=(VTy.mk kd1 es1).g) rfl (EL rfl) (SZ rfl) rfl rfl (by decide) hg1 rfl|exact cqP mab|exact cqP o2|exact cqP o3|exact mO));try exact kQ))
  refine rE ?_ ?_
  all_goals rfl
theorem resLt_pc{k:Int}(hk:k=10∨k=11∨k=12∨k=13)(v:VVal)(name:ByteArray)(kids:List VExpr){a b:TyP}:PC Tryz.prog 21 [.pat (VExpr.mk k v name kids).g.cells, .g (.sl (tsG [a,b]))] ⟨[],[],[]⟩ (.tuple [.g (tyP (0,2)).g, .g (.bool ((mayK (kdP a) [3]&&mayK (kdP b) [3])||(mayK (kdP a) [4]&&mayK (kdP b) [4])))]) ⟨[],[],[]⟩:=by
 obtain⟨y0,y1,y2,y3,y4,y5⟩:=v
 have o2:=of_pc 2
 have o3:=of_pc 3
 have hg0:(tsG [a,b])[(0:Int).toNat]? =some (tyP a).g:=rfl
 have hg1:(tsG [a,b])[(1:Int).toNat]? =some (tyP b).g:=rfl
 have ma3:=my_pc a (ks:=[3]) (by decide)
 have mb3:=my_pc b (ks:=[3]) (by decide)
 have ma4:=my_pc a (ks:=[4]) (by decide)
 have mb4:=my_pc b (ks:=[4]) (by decide)
 obtain⟨es0,he0⟩:=tyP_mk a
 obtain⟨es1,he1⟩:=tyP_mk b
 simp only[he0]at hg0 ma3 ma4
 simp only[he1]at hg1 mb3 mb4
 generalize mayK (kdP a) [3]=A3 at *
 generalize mayK (kdP b) [3]=B3 at *
 generalize mayK (kdP a) [4]=A4 at *
 generalize mayK (kdP b) [4]=B4 at *
 generalize kdP a=kd0 at *
 generalize kdP b=kd1 at *
 rcases hk with rfl|rfl|rfl|rfl
 all_goals
  refine eN Tryz.func21 ?_
  cases A3<;>cases B3<;>cases A4
  all_goals
   (repeat first|refine uE ?_|((first|apply oR rfl rfl|(apply dF rfl rfl rfl;intro _)|(apply dP rfl rfl rfl;intro _)|(apply dL rfl rfl rfl;intro _)|apply dC rfl rfl rfl rfl);(focus(first|exact iA (g:=(VTy.mk kd0 es0).g) rfl (EL rfl) (SZ rfl) rfl rfl (by decide) hg0 rfl|exact iA (g:=(VTy.mk kd1 es1).g) rfl (EL rfl) (SZ rfl) rfl rfl (by decide) hg1 rfl|exact cqP ma3|exact cqP mb3|exact cqP ma4|exact cqP mb4|exact cqP o2|exact cqP o3|exact mO));try exact kQ))
   refine rE ?_ ?_
   all_goals rfl
theorem resAdd_pc{k:Int}(hk:k=4)(v:VVal)(name:ByteArray)(kids:List VExpr){a b:TyP}:PC Tryz.prog 21 [.pat (VExpr.mk k v name kids).g.cells, .g (.sl (tsG [a,b]))] ⟨[],[],[]⟩ (.tuple [.g (tyP (sumK (kdP a) (kdP b)).1).g, .g (.bool ((sumK (kdP a) (kdP b)).2))]) ⟨[],[],[]⟩:=by
 obtain⟨y0,y1,y2,y3,y4,y5⟩:=v
 have o2:=of_pc 2
 have o3:=of_pc 3
 have hg0:(tsG [a,b])[(0:Int).toNat]? =some (tyP a).g:=rfl
 have hg1:(tsG [a,b])[(1:Int).toNat]? =some (tyP b).g:=rfl
 have sab:=sm_pc a b
 obtain⟨es0,he0⟩:=tyP_mk a
 obtain⟨es1,he1⟩:=tyP_mk b
 simp only[he0]at hg0 sab
 simp only[he1]at hg1 sab
 generalize sumK (kdP a) (kdP b)=S at *
 generalize kdP a=kd0 at *
 generalize kdP b=kd1 at *
 obtain⟨S1,S2⟩:=S
 dsimp only at sab⊢
 obtain⟨esS,heS⟩:=tyP_mk S1
 rw[heS]at sab⊢
 generalize kdP S1=kdS at *
 subst hk
 refine eN Tryz.func21 ?_
 (repeat first|refine uE ?_|((first|apply oR rfl rfl|(apply dF rfl rfl rfl;intro _)|(apply dP rfl rfl rfl;intro _)|(apply dL rfl rfl rfl;intro _)|apply dC rfl rfl rfl rfl);(focus(first|exact iA (g:=(VTy.mk kd0 es0).g) rfl (EL rfl) (SZ rfl) rfl rfl (by decide) hg0 rfl|exact iA (g:=(VTy.mk kd1 es1).g) rfl (EL rfl) (SZ rfl) rfl rfl (by decide) hg1 rfl|exact cqP sab|exact cqP o2|exact cqP o3|exact mO));try exact kQ))
 refine rE ?_ ?_
 all_goals rfl
theorem resIn_pc{k:Int}(hk:k=14)(v:VVal)(name:ByteArray)(kids:List VExpr){a b:TyP}(ha:baseK a.2)(hb:baseK b.2):PC Tryz.prog 21 [.pat (VExpr.mk k v name kids).g.cells, .g (.sl (tsG [a,b]))] ⟨[],[],[]⟩ (.tuple [.g (tyP (0,2)).g, .g (.bool (mayK (kdP b) [5]&&meetsT a.1 a.2 (elP b).1 (elP b).2))]) ⟨[],[],[]⟩:=by
 obtain⟨y0,y1,y2,y3,y4,y5⟩:=v
 have o2:=of_pc 2
 have o3:=of_pc 3
 have hg0:(tsG [a,b])[(0:Int).toNat]? =some (tyP a).g:=rfl
 have hg1:(tsG [a,b])[(1:Int).toNat]? =some (tyP b).g:=rfl
 have mb5:=my_pc b (ks:=[5]) (by decide)
 have elb:=el_pc hb
 have mab:=mt_pc (a:=a) (b:=elP b) ha hb
 obtain⟨es0,he0⟩:=tyP_mk a
 obtain⟨es1,he1⟩:=tyP_mk b
 simp only[he0]at hg0 mab
 simp only[he1]at hg1 mb5 elb mab
 generalize mayK (kdP b) [5]=B5 at *
 generalize meetsT a.1 a.2 (elP b).1 (elP b).2=M at *
 generalize kdP a=kd0 at *
 generalize kdP b=kd1 at *
 obtain⟨esE,heE⟩:=tyP_mk (elP b)
 rw[heE]at elb mab
 generalize kdP (elP b)=kdE at *
 subst hk
 refine eN Tryz.func21 ?_
 cases B5
 all_goals
  (repeat first|refine uE ?_|((first|apply oR rfl rfl|(apply dF rfl rfl rfl;intro _)|(apply dP rfl rfl rfl;intro _)|(apply dL rfl rfl rfl;intro _)|apply dC rfl rfl rfl rfl);(focus(first|exact iA (g:=(VTy.mk kd0 es0).g) rfl (EL rfl) (SZ rfl) rfl rfl (by decide) hg0 rfl|exact iA (g:=(VTy.mk kd1 es1).g) rfl (EL rfl) (SZ rfl) rfl rfl (by decide) hg1 rfl|exact cqP mb5|exact cqP elb|exact cqP mab|exact cqP o2|exact cqP o3|exact mO));try exact kQ))
  refine rE ?_ ?_
  all_goals rfl
theorem resIf_pc{k:Int}(hk:k=17)(v:VVal)(name:ByteArray)(kids:List VExpr){a b c:TyP}(hb:baseK b.2)(hc:baseK c.2):PC Tryz.prog 21 [.pat (VExpr.mk k v name kids).g.cells, .g (.sl (tsG [a,b,c]))] ⟨[],[],[]⟩ (.tuple [.g (tyP (joinP b c)).g, .g (.bool (mayK (kdP a) [2]))]) ⟨[],[],[]⟩:=by
 obtain⟨y0,y1,y2,y3,y4,y5⟩:=v
 have o2:=of_pc 2
 have o3:=of_pc 3
 have hg0:(tsG [a,b,c])[(0:Int).toNat]? =some (tyP a).g:=rfl
 have hg1:(tsG [a,b,c])[(1:Int).toNat]? =some (tyP b).g:=rfl
 have hg2:(tsG [a,b,c])[(2:Int).toNat]? =some (tyP c).g:=rfl
 have ma2:=my_pc a (ks:=[2]) (by decide)
 have jbc:=jn_pc (a:=b) (b:=c) hb hc
 obtain⟨es0,he0⟩:=tyP_mk a
 obtain⟨es1,he1⟩:=tyP_mk b
 obtain⟨es2,he2⟩:=tyP_mk c
 simp only[he0]at hg0 ma2
 simp only[he1]at hg1 jbc
 simp only[he2]at hg2 jbc
 generalize mayK (kdP a) [2]=A2 at *
 generalize kdP a=kd0 at *
 generalize kdP b=kd1 at *
 generalize kdP c=kd2 at *
 obtain⟨esJ,heJ⟩:=tyP_mk (joinP b c)
 rw[heJ]at jbc⊢
 generalize kdP (joinP b c)=kdJ at *
 subst hk
 refine eN Tryz.func21 ?_
 (repeat first|refine uE ?_|((first|apply oR rfl rfl|(apply dF rfl rfl rfl;intro _)|(apply dP rfl rfl rfl;intro _)|(apply dL rfl rfl rfl;intro _)|apply dC rfl rfl rfl rfl);(focus(first|exact iA (g:=(VTy.mk kd0 es0).g) rfl (EL rfl) (SZ rfl) rfl rfl (by decide) hg0 rfl|exact iA (g:=(VTy.mk kd1 es1).g) rfl (EL rfl) (SZ rfl) rfl rfl (by decide) hg1 rfl|exact iA (g:=(VTy.mk kd2 es2).g) rfl (EL rfl) (SZ rfl) rfl rfl (by decide) hg2 rfl|exact cqP ma2|exact cqP jbc|exact cqP o2|exact cqP o3|exact mO));try exact kQ))
 refine rE ?_ ?_
 all_goals rfl
theorem resCall_pc{k:Int}(hk:k=18)(v:VVal)(name:ByteArray)(kids:List VExpr){ts:List TyP}{S:TyP×Bool}(hS:PC Tryz.prog 41 [.g (.str name), .g (.sl (tsG ts))] ⟨[],[],[]⟩ (.tuple [.g (tyP S.1).g, .g (.bool S.2)]) ⟨[],[],[]⟩):PC Tryz.prog 21 [.pat (VExpr.mk k v name kids).g.cells, .g (.sl (tsG ts))] ⟨[],[],[]⟩ (.tuple [.g (tyP S.1).g, .g (.bool S.2)]) ⟨[],[],[]⟩:=by
 obtain⟨y0,y1,y2,y3,y4,y5⟩:=v
 have o2:=of_pc 2
 have o3:=of_pc 3
 obtain⟨S1,S2⟩:=S
 dsimp only at hS⊢
 obtain⟨esS,heS⟩:=tyP_mk S1
 rw[heS]at hS⊢
 generalize kdP S1=kdS at *
 generalize tsG ts=gs at *
 subst hk
 refine eN Tryz.func21 ?_
 (repeat first|refine uE ?_|((first|apply oR rfl rfl|(apply dF rfl rfl rfl;intro _)|(apply dP rfl rfl rfl;intro _)|(apply dL rfl rfl rfl;intro _)|apply dC rfl rfl rfl rfl);(focus(first|exact cqP o2|exact cqP o3|exact cqP hS|exact mO));try exact kQ))
 refine rE ?_ ?_
 all_goals rfl
def cellsT(t:TyP):List PV:=(tyP t).g.cells.map PV.g
theorem cellsT_mk{t:TyP}{kd:Int}{es:List VTy}(h:tyP t=VTy.mk kd es):cellsT t=[.g (.int .i64 kd), .g (.sl (VTy.gs es))]:=by
 unfold cellsT
 rw[h]
 rfl
theorem resL_pc{k:Int}(hk:k=19)(v:VVal)(name:ByteArray)(kids:List VExpr){ts:List TyP}(hb: ∀t∈ts,baseK t.2)(hl:ts.length≤1000)(hj: ∀a b:TyP,baseK a.2→baseK b.2→baseK (joinP a b).2):PC Tryz.prog 21 [.pat (VExpr.mk k v name kids).g.cells, .g (.sl (tsG ts))] ⟨[],[],[]⟩ (.tuple [.g (tyP ((ts.foldl joinP (0,1)).1+1,(ts.foldl joinP (0,1)).2)).g, .g (.bool true)]) ⟨[],[],[]⟩:=by
 obtain⟨y0,y1,y2,y3,y4,y5⟩:=v
 have o1:=of_pc 1
 have o2:=of_pc 2
 have o3:=of_pc 3
 have hgl:=tsG_len ts
 generalize hR:ts.foldl joinP (0,1)=R
 subst hk
 refine eN Tryz.func21 ?_
 (repeat first|refine uE ?_|((first|apply oR rfl rfl|(apply dF rfl rfl rfl;intro _)|(apply dP rfl rfl rfl;intro _)|(apply dL rfl rfl rfl;intro _)|apply dC rfl rfl rfl rfl);(focus(first|exact cqP o1|exact cqP o2|exact cqP o3|exact mO));try exact kQ))
 refine PW_loop_cut (S:=Nat×TyP) (fun s=>[(4, .ptr 0 0),(8, .ptr 3 0),(147, .g (.sl (tsG ts))),(148, .g (.int .i64 ts.length)),(149, .g (.int .i64 s.1))]) (fun s=>⟨[[constC (Value.int IntKind.i64 0),constC (Value.slice none 0 0)],[.g (.int .i64 3), .g (.sl [])],[.g (.int .i64 2), .g (.sl [])],cellsT s.2],[],[]⟩)
  (fun s=>s.1≤ts.length∧baseK s.2.2∧(ts.drop s.1).foldl joinP s.2=R) (fun s=>ts.length-s.1) (0,(0,1)) ⟨Nat.zero_le _, .inl rfl,hR⟩
  (SlotsOk.le ⟨.inl rfl, .inl rfl, .inl rfl, .inl (congrArg (fun k:Nat=>PV.g (.int .i64 k)) hgl), .inl rfl,trivial⟩) (HLe.of_eq rfl) (fun s=>by obtain⟨es,he⟩:=tyP_mk s.2;rw[cellsT_mk he];rfl) (fun s hs=> ?_)
 obtain⟨i,acc⟩:=s
 obtain⟨hi,hba,hgo⟩:=hs
 dsimp only at hi hba hgo
 dsimp only
 obtain⟨es,he⟩:=tyP_mk acc
 rw[cellsT_mk he]
 (try refine uD ?_)
 refine sQ (fun h=> ?_) fun h=> ?_
 ·have hlt:i<ts.length:=by have:=of_decide_eq_true h;omega
  clear h
  have ht:ts[i]? =some ts[i]:=List.getElem?_eq_getElem hlt
  have hg:=tsG_get ht
  have hbt:=hb _ (List.mem_of_getElem? ht)
  rw[List.drop_eq_getElem_cons hlt,List.foldl_cons]at hgo
  generalize ts[i]=t at *
  have hjt:=jn_pc hba hbt
  have hbj:=hj acc t hba hbt
  obtain⟨es2,he2⟩:=tyP_mk t
  obtain⟨es3,he3⟩:=tyP_mk (joinP acc t)
  have hcell:=cellsT_mk he3
  rw[he2]at hg
  rw[he,he2,he3]at hjt
  generalize kdP acc=kda at *
  generalize kdP t=kdt at *
  generalize kdP (joinP acc t)=kdj at *
  (repeat first|refine uE ?_|((first|apply oR rfl rfl|(apply dF rfl rfl rfl;intro _)|(apply dP rfl rfl rfl;intro _)|(apply dL rfl rfl rfl;intro _)|apply dC rfl rfl rfl rfl);(focus(first|exact iA rfl (EL rfl) (SZ rfl) rfl rfl (Int.natCast_nonneg _) hg rfl|exact cqP hjt|exact mO));try exact kQ))
  exact⟨(i+1,joinP acc t),⟨hlt,hbj,hgo⟩,by dsimp only;omega,SlotsOk.le ⟨.inl rfl, .inl rfl, .inl rfl, .inl rfl, .inl (congrArg (fun k=>PV.g (.int .i64 k)) (i64w (by omega))),trivial⟩,Drops.mk [[.g (.int .i64 kdt), .g (.sl (VTy.gs es2))]] [] [] (by dsimp only;rw[hcell];rfl)⟩
 ·have hi':i=ts.length:=by have:=of_decide_eq_false h;omega
  subst hi'
  clear h
  rw[List.drop_length,List.foldl_nil]at hgo
  subst hgo
  have hls:=ls_pc acc
  rw[he]at hls
  (repeat first|refine uE ?_|((first|apply oR rfl rfl|(apply dF rfl rfl rfl;intro _)|(apply dP rfl rfl rfl;intro _)|(apply dL rfl rfl rfl;intro _)|apply dC rfl rfl rfl rfl);(focus(first|exact cqP hls|exact mO));try exact kQ))
  refine rE ?_ ?_
  all_goals rfl
theorem baseK_any:baseK 6:= .inr (.inr (.inr (.inr rfl)))
theorem joinT_base{b c:Int}(hb:baseK b)(hc:baseK c): ∀m n:Nat,baseK (joinT m b n c).2
 |m,n=>by
  have ih: ∀m' n',m=m'+1→n=n'+1→baseK (joinT m' b n' c).2:=fun m' n' h1 h2=>joinT_base hb hc m' n'
  rw[joinT_eq]
  split
  ·exact hc
  ·split
   ·exact hb
   ·split
    ·exact ih _ _ rfl rfl
    ·exact baseK_any
theorem joinP_base(a b:TyP)(ha:baseK a.2)(hb:baseK b.2):baseK (joinP a b).2:=joinT_base ha hb a.1 b.1
theorem foldl_base: ∀(ts:List TyP) (a:TyP),baseK a.2→(∀t∈ts,baseK t.2)→baseK (ts.foldl joinP a).2
 |[],_,ha,_=>ha
 |t::r,a,ha,h=>foldl_base r (joinP a t) (joinP_base a t ha (h t (by simp))) fun x hx=>h x (by simp[hx])
theorem Mii:Tryz.prog.underlying 90=some (.map 3 3):=by kernel_rfl
theorem Uii:Tryz.prog.underlying 3=some (.int .i64):=by kernel_rfl
def litK:VVal→Prop
 | .mk k _ _ _ _ _=>k=1∨k=2∨k=3∨k=4
theorem literal_pc(v:VVal)(hk:litK v):PC Tryz.prog 16 [.g v.g] ⟨[],[],[]⟩ (.g (tyP (litT v)).g) ⟨[],[],[]⟩:=by
 obtain⟨k,y1,y2,y3,y4,y5⟩:=v
 have hk:k=1∨k=2∨k=3∨k=4:=hk
 have ho:=of_pc k
 rcases hk with rfl|rfl|rfl|rfl
 all_goals
  refine eN Tryz.func16 ?_
  (repeat first|refine uA ?_|(apply oR rfl rfl;focus(first|exact PO_makeMap rfl|exact PO_insert rfl Mii Uii rfl rfl rfl rfl rfl rfl|exact PO_lookup rfl Mii Uii (ZR rfl) rfl rfl rfl rfl rfl rfl|exact cqP ho|exact mO)))
  refine rT ?_
  rfl
theorem litT_base(v:VVal)(hk:litK v):baseK (litT v).2:=by
 obtain⟨k,y1,y2,y3,y4,y5⟩:=v
 have hk:k=1∨k=2∨k=3∨k=4:=hk
 unfold litT
 dsimp only
 rcases hk with rfl|rfl|rfl|rfl
 ·exact .inl rfl
 ·exact .inr (.inl rfl)
 ·exact .inr (.inr (.inl rfl))
 ·exact .inr (.inr (.inr (.inl rfl)))
def varsG(s:List (ByteArray×TyP)):List GV:=s.map fun p=>(VVar.mk p.1 (tyP p.2)).g
theorem varsG_len(s:List (ByteArray×TyP)):(varsG s).length=s.length:=by simp[varsG]
theorem tl_eq(a b:ByteArray):(a.toList==b.toList)=decide (a=b):=by
 rw[Bool.eq_iff_iff,beq_iff_eq,decide_eq_true_eq,Lib.toList_data,Lib.toList_data]
 exact⟨fun h=>ByteArray.ext (Array.toList_inj.1 h),fun h=>by rw[h]⟩
theorem findS_snoc(l:List (ByteArray×TyP))(m n:ByteArray)(t:TyP):findS (l++[(m,t)]) n=if m=n then some t else findS l n:=by
 induction l with
 |nil=>simp[findS]
 |cons p r ih=>
  obtain⟨a,b⟩:=p
  rw[List.cons_append,findS,ih]
  by_cases h:m=n
  ·rw[if_pos h,if_pos h]
  ·rw[if_neg h,if_neg h,findS]
theorem find_pc(s:List (ByteArray×TyP))(name:ByteArray)(hl:s.length≤100000):PC Tryz.prog 17 [.g (.sl (varsG s)), .g (.str name)] ⟨[],[],[]⟩ (.tuple [.g (tyP ((findS s name).getD (0,0))).g, .g (.bool (findS s name).isSome)]) ⟨[],[],[]⟩:=by
 have hgl:=varsG_len s
 generalize hR:findS s name=R
 have hw0:IntKind.i64.wrap ((s.length:Int)-1)=(s.length:Int)-1:=i64w (by omega)
 refine eN Tryz.func17 ?_
 (try refine uN ?_)
 refine PW_loop (S:=Nat) (fun j=>slots [(0, .g (.sl (varsG s))),(1, .g (.str name)),(4, .ptr 0 0),(6, .g (.int .i64 ((j:Int)-1)))]) (fun _=>⟨[[constC (Value.int IntKind.i64 0),constC (Value.slice none 0 0)]],[],[]⟩) (fun j=>j≤s.length∧findS (s.take j) name=R) (fun j=>j) s.length ⟨Nat.le_refl _,by rw[List.take_length];exact hR⟩
  (SlotsOk.le ⟨.inl rfl, .inl rfl, .inl rfl, .inl (by rw[←hw0,←hgl];rfl),trivial⟩) (HLe.of_eq rfl) (fun j hj=> ?_)
 obtain⟨hj,hgo⟩:=hj
 cases j with
 |zero=>
  rw[List.take_zero,findS]at hgo
  subst hgo
  (try refine uN ?_)
  refine rE ?_ ?_
  all_goals rfl
 |succ j=>
  have hq:s[j]? =some s[j]:=List.getElem?_eq_getElem (by omega)
  have hg:(varsG s)[((j:Nat):Int).toNat]? =some (VVar.mk s[j].1 (tyP s[j].2)).g:=by rw[Int.toNat_natCast,varsG,List.getElem?_map,hq];rfl
  rw[List.take_add_one,hq]at hgo
  generalize s[j]=p at *
  obtain⟨m,t⟩:=p
  rw[show(some (m,t)).toList=[(m,t)]from rfl,findS_snoc]at hgo
  dsimp only at hg
  obtain⟨es,he⟩:=tyP_mk t
  rw[he]at hg
  have hi:(((j+1:Nat):Int)-1)=(j:Int):=by omega
  rw[hi]
  (repeat first|refine uA ?_|(apply oR rfl rfl;focus(first|exact iA rfl (EL rfl) (SZ rfl) rfl rfl (Int.natCast_nonneg _) hg rfl|exact mO)))
  refine sQ (fun h=> ?_) fun h=> ?_
  ·have hmn:m=name:=of_decide_eq_true ((tl_eq m name).symm.trans h)
   rw[if_pos hmn]at hgo
   subst hgo
   clear h
   (repeat first|refine uA ?_|(apply oR rfl rfl;focus(first|exact iA rfl (EL rfl) (SZ rfl) rfl rfl (Int.natCast_nonneg _) hg rfl|exact mO)))
   refine rE ?_ ?_
   ·rw[Option.getD_some,he];rfl
   ·rfl
  ·have hmn: ¬m=name:=of_decide_eq_false ((tl_eq m name).symm.trans h)
   rw[if_neg hmn]at hgo
   clear h
   (try refine uN ?_)
   exact⟨j,⟨by omega,hgo⟩,by omega,SlotsOk.le ⟨.inl rfl, .inl rfl, .inl rfl, .inl (congrArg (fun k=>PV.g (.int .i64 k)) (i64w (by omega))),trivial⟩,HLe.of_eq rfl⟩
def tn(ts:List TyP)(i:Nat):TyP:=ts.getD i (0,0)
def resP(k:Int)(name:ByteArray)(ts:List TyP):TyP×Bool:=
 if k=3 then((0,3),mayK (kdP (tn ts 0)) [3])
 else if k=4 then((sumK (kdP (tn ts 0)) (kdP (tn ts 1))).1,(sumK (kdP (tn ts 0)) (kdP (tn ts 1))).2)
 else if k=5∨k=6∨k=7 then((0,3),mayK (kdP (tn ts 0)) [3]&&mayK (kdP (tn ts 1)) [3])
 else if k=8∨k=9 then((0,2),meetsT (tn ts 0).1 (tn ts 0).2 (tn ts 1).1 (tn ts 1).2)
 else if k=10∨k=11∨k=12∨k=13 then((0,2),(mayK (kdP (tn ts 0)) [3]&&mayK (kdP (tn ts 1)) [3])||(mayK (kdP (tn ts 0)) [4]&&mayK (kdP (tn ts 1)) [4]))
 else if k=14 then((0,2),mayK (kdP (tn ts 1)) [5]&&meetsT (tn ts 0).1 (tn ts 0).2 (elP (tn ts 1)).1 (elP (tn ts 1)).2)
 else if k=15∨k=16 then((0,2),mayK (kdP (tn ts 0)) [2]&&mayK (kdP (tn ts 1)) [2])
 else if k=17 then(joinP (tn ts 1) (tn ts 2),mayK (kdP (tn ts 0)) [2])
 else if k=19 then(((ts.foldl joinP (0,1)).1+1,(ts.foldl joinP (0,1)).2),true)
 else match findSig name sigT with
  |some q=>((calledP name q.1 q.2 ts).1,(calledP name q.1 q.2 ts).2)
  |none=>((0,0),false)
theorem sig_facts: ∀p∈sigT,(p.2.2= -1∨p.2.2=2∨p.2.2=3∨p.2.2=4∨p.2.2=6)∧1≤p.2.1.length∧p.2.1.length≤3∧(p.1=concatS→2≤p.2.1.length):=by decide+kernel
theorem b2:baseK 2:= .inr (.inl rfl)
theorem b3:baseK 3:= .inr (.inr (.inl rfl))
theorem b4:baseK 4:= .inr (.inr (.inr (.inl rfl)))
theorem sumK_base(p q:Int):baseK (sumK p q).1.2:=by
 unfold sumK
 split
 ·exact b3
 ·split
  ·exact b4
  ·exact baseK_any
theorem calledP_base{name:ByteArray}{tk:List Int}{tells:Int}{ts:List TyP}(ht:tells= -1∨tells=2∨tells=3∨tells=4∨tells=6)(hb: ∀t∈ts,baseK t.2)(hc:(name.toList==concatS.toList)=true→2≤ts.length)(h:(calledP name tk tells ts).2=true):baseK (calledP name tk tells ts).1.2:=by
 unfold calledP at h⊢
 split at h
 ·cases h
 ·rename_i h1
  rw[if_neg h1]
  split at h
  ·rename_i h2
   rw[if_pos h2]
   exact b2
  ·rename_i h2
   rw[if_neg h2]
   match ts with
   |[]=>cases h
   |t::r=>
    have hbt:baseK t.2:=hb t (by simp)
    dsimp only at h⊢
    split at h
    ·cases h
    ·rename_i h3
     rw[if_neg h3]
     split at h
     ·rename_i h4
      rw[if_pos h4]
      match r with
      |[]=>have:=hc h4;simp at this
      |t2::r2=>exact joinP_base _ _ hbt (hb t2 (by simp))
     ·rename_i h4
      rw[if_neg h4]
      split
      ·exact hbt
      ·split
       ·exact hbt
       ·rename_i h5 h6
        rcases ht with rfl|rfl|rfl|rfl|rfl
        ·exact absurd (by decide) h5
        ·exact b2
        ·exact b3
        ·exact b4
        ·exact absurd rfl h6
theorem tsl1{ts:List TyP}(h:(ts.length:Int)=1): ∃a,ts=[a]:=by
 match ts,h with
 |[a],_=>exact⟨a,rfl⟩
 |[],h=>simp at h
 |a::b::r,h=>simp at h;omega
theorem tsl2{ts:List TyP}(h:(ts.length:Int)=2): ∃a b,ts=[a,b]:=by
 match ts,h with
 |[a,b],_=>exact⟨a,b,rfl⟩
 |[],h=>simp at h
 |[a],h=>simp at h
 |a::b::c::r,h=>simp at h;omega
theorem tsl3{ts:List TyP}(h:(ts.length:Int)=3): ∃a b c,ts=[a,b,c]:=by
 match ts,h with
 |[a,b,c],_=>exact⟨a,b,c,rfl⟩
 |[],h=>simp at h
 |[a],h=>simp at h
 |[a,b],h=>simp at h
 |a::b::c::d::r,h=>simp at h;omega
theorem resP_pc{k m most:Int}(hk:kidsN k=some (m,most))(hn: ¬(k=1∨k=2∨k=20∨k=21∨k=22))(v:VVal)(name:ByteArray)(kids:List VExpr){ts:List TyP}(ha:0≤m→(ts.length:Int)=m)(hl:ts.length≤1000)(hb: ∀t∈ts,baseK t.2)
  (hsg:k=18→ ∃q,findSig name sigT=some q∧ts.length=q.1.length):
  PC Tryz.prog 21 [.pat (VExpr.mk k v name kids).g.cells, .g (.sl (tsG ts))] ⟨[],[],[]⟩ (.tuple [.g (tyP (resP k name ts).1).g, .g (.bool (resP k name ts).2)]) ⟨[],[],[]⟩∧((resP k name ts).2=true→baseK (resP k name ts).1.2):=by
 unfold kidsN at hk
 unfold resP
 by_cases h3:k=3
 ·rw[if_pos h3]
  subst h3
  obtain⟨rfl,rfl⟩:(1:Int)=m∧(0:Int)=most:=by simpa using hk
  obtain⟨a,rfl⟩:=tsl1 (ha (by decide))
  exact⟨resNeg_pc rfl v name kids,fun _=>b3⟩
 rw[if_neg h3]
 by_cases hbin:4≤k∧k≤16
 ·rw[if_neg (by omega),if_neg h3,if_pos (.inl hbin)]at hk
  obtain⟨rfl,rfl⟩:(2:Int)=m∧(0:Int)=most:=by simpa using hk
  obtain⟨a,b,rfl⟩:=tsl2 (ha (by decide))
  have hba:baseK a.2:=hb a (by simp)
  have hbb:baseK b.2:=hb b (by simp)
  by_cases h4:k=4
  ·rw[if_pos h4]
   exact⟨resAdd_pc h4 v name kids,fun _=>sumK_base _ _⟩
  rw[if_neg h4]
  by_cases h5:k=5∨k=6∨k=7
  ·rw[if_pos h5]
   exact⟨resNum_pc h5 v name kids,fun _=>b3⟩
  rw[if_neg h5]
  by_cases h8:k=8∨k=9
  ·rw[if_pos h8]
   exact⟨resEq_pc h8 v name kids hba hbb,fun _=>b2⟩
  rw[if_neg h8]
  by_cases h10:k=10∨k=11∨k=12∨k=13
  ·rw[if_pos h10]
   exact⟨resLt_pc h10 v name kids,fun _=>b2⟩
  rw[if_neg h10]
  by_cases h14:k=14
  ·rw[if_pos h14]
   exact⟨resIn_pc h14 v name kids hba hbb,fun _=>b2⟩
  rw[if_neg h14]
  have h15:k=15∨k=16:=by omega
  rw[if_pos h15]
  exact⟨resAnd_pc h15 v name kids,fun _=>b2⟩
 rw[if_neg (by omega),if_neg (by omega),if_neg (by omega),if_neg (by omega),if_neg (by omega),if_neg (by omega)]
 by_cases h17:k=17
 ·rw[if_pos h17]
  subst h17
  obtain⟨rfl,rfl⟩:(3:Int)=m∧(0:Int)=most:=by simpa using hk
  obtain⟨a,b,c,rfl⟩:=tsl3 (ha (by decide))
  exact⟨resIf_pc rfl v name kids (hb b (by simp)) (hb c (by simp)),fun _=>joinP_base _ _ (hb b (by simp)) (hb c (by simp))⟩
 rw[if_neg h17]
 by_cases h19:k=19
 ·rw[if_pos h19]
  exact⟨resL_pc h19 v name kids hb hl joinP_base,fun _=>foldl_base ts (0,1) (.inl rfl) hb⟩
 rw[if_neg h19]
 by_cases h18:k=18
 ·obtain⟨q,hq,hql⟩:=hsg h18
  have hf:=sig_facts _ (findSig_mem hq)
  dsimp only at hf
  have hlk:=lookAll_sig name sigT sigT_nodup
  rw[hq]at hlk⊢
  have hcat:(name.toList==concatS.toList)=true→2≤ts.length:=fun h=>by
   rw[hql]
   exact hf.2.2.2 (of_decide_eq_true ((tl_eq _ _).symm.trans h))
  dsimp only
  exact⟨resCall_pc h18 v name kids (called_pc hlk hql hb (by omega) (by omega) hcat),calledP_base hf.1 hb hcat⟩
 ·exfalso
  clear hsg ha hb
  rw[if_neg (by omega),if_neg h3,if_neg (by omega),if_neg h17,if_neg h18,if_neg h19]at hk
  cases hk
end Go.Proofs.YtdoenpeadkoklaaGreatFmtBesafter