/- What the program's functions compute, each shown once; and plain laws of it. -/
import Derived.Test.YtdoenpeadkoklaaGreatFmtBesafterOwnH
import Derived.Test.YtdoenpeadkoklaaGreatFmtBesafterPureC
set_option maxRecDepth 100000
set_option maxHeartbeats 32000000
namespace Go.Proofs.YtdoenpeadkoklaaGreatFmtBesafter
open Go Go.Pure
attribute [local irreducible] PW POps POpsD PO PC Cond
def intP(z:Int):List PV:=[.g (.bool (decide (z<0))), .g (.sl (wsG (dig z.natAbs)))]
theorem u64_neg{z:Int}(h1:z<0)(h2: -9223372036854775808≤z):IntKind.u64.wrap (0-IntKind.u64.wrap z)=(z.natAbs:Int):=by
 have h3:IntKind.u64.wrap z=18446744073709551616+z:=by
  simp only[IntKind.wrap,IntKind.signed,IntKind.bits,Bool.false_and,Bool.false_eq_true,if_false]
  omega
 rw[h3]
 simp only[IntKind.wrap,IntKind.signed,IntKind.bits,Bool.false_and,Bool.false_eq_true,if_false]
 omega
theorem u64_pos{z:Int}(h1:0<z)(h2:z<9223372036854775808):IntKind.u64.wrap z=(z.natAbs:Int):=by
 simp only[IntKind.wrap,IntKind.signed,IntKind.bits,Bool.false_and,Bool.false_eq_true,if_false]
 omega
theorem newInt_pc{z:Int}(h1: -9223372036854775808≤z)(h2:z<9223372036854775808):PC Tryz.prog 52 [.g (.int .i64 z)] ⟨[],[],[]⟩ (.ptr 0 0) ⟨[intP z],[],[]⟩:=by
 rcases Int.lt_trichotomy z 0 with hz|hz|hz
 ·have hd:wsG (dig z.natAbs)=[.int .u64 (z.natAbs:Int)]:=by rw[dig_one (by omega) (by unfold WB;omega)];rfl
  have hw:=u64_neg hz h1
  have hb:decide (z<0)=true:=decide_eq_true hz
  unfold intP
  rw[hd,←hw]
  refine eN Tryz.func52 ?_
  (repeat' first|refine uN ?_|(refine sQ (fun h=> ?_) (fun h=> ?_)<;>fail_if_success (first|(have:true=true:=h)|(have:false=false:=h)))|fail)
  all_goals(try(rename_i hf;exact absurd (hb.symm.trans hf) (by decide)))
  all_goals(try(exfalso;have hh:=of_decide_eq_false h;omega))
  all_goals(try(exfalso;have hh:=beq_iff_eq.1 h;omega))
  all_goals(try refine rP ?_ ?_ ?_)
  all_goals(try rfl)
 ·subst hz
  have hd0:dig (0:Int).natAbs=[]:=dig_zero
  refine PC.post (H1:=⟨[[.g (.bool false), .nils]],[],[]⟩) ?_ (show HLe _ _ ⟨[intP 0],[],[]⟩from by unfold intP;rw[hd0];exact HLe.packbx)
  refine eN Tryz.func52 ?_
  (repeat' first|refine uN ?_|(refine sQ (fun h=> ?_) (fun h=> ?_)<;>fail_if_success (first|(have:true=true:=h)|(have:false=false:=h)))|fail)
  all_goals(try refine rP ?_ ?_ ?_)
  all_goals(try rfl)
 ·have hd:wsG (dig z.natAbs)=[.int .u64 (z.natAbs:Int)]:=by rw[dig_one (by omega) (by unfold WB;omega)];rfl
  have hw:=u64_pos hz h2
  have hb:decide (z<0)=false:=decide_eq_false (by omega)
  unfold intP
  rw[hd,←hw]
  refine eN Tryz.func52 ?_
  (repeat' first|refine uN ?_|(refine sQ (fun h=> ?_) (fun h=> ?_)<;>fail_if_success (first|(have:true=true:=h)|(have:false=false:=h)))|fail)
  all_goals(try(rename_i hf;exact absurd (hb.symm.trans hf) (by decide)))
  all_goals(try(exfalso;have hh:=of_decide_eq_true h;omega))
  all_goals(try(exfalso;have hh:=beq_iff_eq.1 h;omega))
  all_goals(try refine rP ?_ ?_ ?_)
  all_goals(try rfl)
def cmpZ(a b:Int):Int:=if a<b then -1 else if b<a then 1 else 0
theorem val_lt_at: ∀{xs ys:List Nat} {i a b:Nat},okW xs→okW ys→xs.length=ys.length→xs[i]? =some a→ys[i]? =some b→xs.drop (i+1)=ys.drop (i+1)→a<b→val xs<val ys
 |[],_,_,_,_,_,_,_,h,_,_,_=>by simp at h
 |_::_,[],_,_,_,_,_,_,_,h,_,_=>by simp at h
 |x::xs,y::ys,0,a,b,hx,hy,hl,ha,hb,hd,h=>by
  simp only[List.getElem?_cons_zero,Option.some.injEq]at ha hb
  subst ha hb
  simp only[List.drop_succ_cons,List.drop_zero]at hd
  subst hd
  simp only[val_cons]
  omega
 |x::xs,y::ys,i+1,a,b,hx,hy,hl,ha,hb,hd,h=>by
  obtain⟨hx1,hx2⟩:=okW_cons.1 hx
  obtain⟨hy1,hy2⟩:=okW_cons.1 hy
  have ih:=val_lt_at (i:=i) (a:=a) (b:=b) hx2 hy2 (by simpa using hl) (by simpa using ha) (by simpa using hb) (by simpa using hd) h
  simp only[val_cons]
  have:=Nat.mul_le_mul_left WB (Nat.succ_le_of_lt ih)
  rw[Nat.mul_succ]at this
  omega
theorem dig_len_lt{X Y:Nat}(h:(dig X).length<(dig Y).length):X<Y:=by
 have h1:=val_lt (okW_dig X)
 rw[val_dig]at h1
 by_cases hc:Y<WB^(dig X).length
 ·have:=dig_length_le hc;omega
 ·omega
theorem cmp_pc {X Y:Nat}(hX:(dig X).length≤100000)(hY:(dig Y).length≤100000):PC Tryz.prog 108 [.g (.sl (wsG (dig X))), .g (.sl (wsG (dig Y)))] ⟨[],[],[]⟩ (.g (.int .i64 (cmpZ X Y))) ⟨[],[],[]⟩:=by
  have hvX:=val_dig X
  have hvY:=val_dig Y
  have hoX:=okW_dig X
  have hoY:=okW_dig Y
  have hlt1:= @dig_len_lt X Y
  have hlt2:= @dig_len_lt Y X
  have hi1:= @dig_inj X Y
  have hlX:(wsG (dig X)).length=(dig X).length:=wsG_length _
  have hlY:(wsG (dig Y)).length=(dig Y).length:=wsG_length _
  generalize dig X=xs at *
  generalize dig Y=ys at *
  by_cases hlen:xs.length=ys.length
  · by_cases h0:xs.length=0
    · have hx0:xs=[]:=List.eq_nil_of_length_eq_zero h0
      have hy0:ys=[]:=List.eq_nil_of_length_eq_zero (by omega)
      subst hx0 hy0
      have:X=Y:=hi1 rfl
      subst this
      refine eN Tryz.func108 ?_
      (repeat' first|refine uD ?_|(refine sQ (fun h=> ?_) (fun h=> ?_)<;>fail_if_success (first|(have:true=true:=h)|(have:false=false:=h)))|fail)
      all_goals(refine rT ?_)
      all_goals(simp[cmpZ])
    · have hsub:IntKind.i64.wrap (((wsG xs).length:Int)-1)=((xs.length-1:Nat):Int):=by rw[w64 (by omega)];omega
      have hne:((wsG xs).length:Int)=((wsG ys).length:Int):=by omega
      have kill:((((wsG xs).length:Int) !=((wsG ys).length:Int))=true)→False:=fun h=>by simp[hne]at h
      have kill2:((((wsG xs).length:Int)==0)=true)→False:=fun h=>by have hh:=beq_iff_eq.1 h;omega
      refine eN Tryz.func108 ?_
      (repeat' first|refine uF ?_|((first|apply oR rfl rfl|(apply dF rfl rfl rfl;intro _)|(apply dP rfl rfl rfl;intro _)|(apply dL rfl rfl rfl;intro _)|apply dC rfl rfl rfl rfl);(focus(first|exact mO));try exact kQ)|refine xU [8] rfl ?_|(refine sQ (fun h=> ?_) (fun h=> ?_)<;>fail_if_success (first|(have:true=true:=h)|(have:false=false:=h)))|fail)
      all_goals(try(exact(kill (by assumption)).elim))
      all_goals(try(exact(kill2 (by assumption)).elim))
      clear h
      (try refine uD ?_)
      refine PW_loop (S:=Nat) (fun i=>slots [(0, .g (.sl (wsG xs))),(1, .g (.sl (wsG ys))),(4, .g (.int .i64 0)),(7, .g (.int .i64 i))]) (fun i=>⟨[],[],[]⟩) (fun i=>i<xs.length∧xs.drop (i+1)=ys.drop (i+1)) (fun i=>i) (xs.length-1) ⟨by omega,by rw[List.drop_of_length_le (by omega),List.drop_of_length_le (by omega)]⟩
        (SlotsOk.le ?_) (HLe.of_eq ?_) (fun i hi=> ?_)
      · exact⟨.inl rfl, .inl rfl, .inl rfl, .inl (congrArg (fun k=>PV.g (.int .i64 k)) hsub),trivial⟩
      · rfl
      obtain⟨hi,hz⟩:=hi
      have hxi:xs[i]? =some (xs[i]'(by omega)):=List.getElem?_eq_getElem (by omega)
      have hyi:ys[i]? =some (ys[i]'(by omega)):=List.getElem?_eq_getElem (by omega)
      generalize xs[i]'(by omega)=a at hxi
      generalize ys[i]'(by omega)=b at hyi
      have hga:(wsG xs)[i]? =some (wG a):=wsG_get hxi
      have hgb:(wsG ys)[i]? =some (wG b):=wsG_get hyi
      have hfin: ∀r:Int,(a<b→r= -1)→(b<a→r=1)→(a=b→i=0→r=0)→(a=b→i=0)→r=cmpZ X Y:=by
        intro r e1 e2 e3 e4
        unfold cmpZ
        rcases Nat.lt_trichotomy a b with hab|hab|hab
        · have:=val_lt_at hoX hoY hlen hxi hyi hz hab
          rw[hvX,hvY]at this
          rw[e1 hab,if_pos (by omega)]
        · have hi0:=e4 hab
          subst hi0
          subst hab
          have:xs=ys:=by
            cases xs with
            |nil=>simp at h0
            |cons u us=>cases ys with
              |nil=>simp at hlen
              |cons v vs=>
                simp only[List.getElem?_cons_zero,Option.some.injEq]at hxi hyi
                simp only[Nat.zero_add,List.drop_succ_cons,List.drop_zero]at hz
                rw[hxi,hyi,hz]
          have:=hi1 this
          rw[e3 rfl rfl,if_neg (by omega),if_neg (by omega)]
        · have:=val_lt_at hoY hoX hlen.symm hyi hxi hz.symm hab
          rw[hvX,hvY]at this
          rw[e2 hab,if_neg (by omega),if_pos (by omega)]
      cases i with
      |zero=>
        (repeat' first|refine uE ?_|((first|apply oR rfl rfl|(apply dF rfl rfl rfl;intro _)|(apply dP rfl rfl rfl;intro _)|(apply dL rfl rfl rfl;intro _)|apply dC rfl rfl rfl rfl);(focus(first|exact iA (g:=wG a) rfl (EL rfl) (SZ rfl) rfl rfl (by decide) hga rfl|exact iA (g:=wG b) rfl (EL rfl) (SZ rfl) rfl rfl (by decide) hgb rfl|exact mO));try exact kQ)|(refine sQ (fun h=> ?_) (fun h=> ?_)<;>fail_if_success (first|(have:true=true:=h)|(have:false=false:=h)))|fail)
        all_goals(refine rT ?_)
        all_goals(refine hfin _ (fun e=> ?_) (fun e=> ?_) (fun e _=> ?_) (fun _=>rfl))
        all_goals(first|rfl|(exfalso;have hh:=of_decide_eq_true h;omega)|(exfalso;have hh:=of_decide_eq_false h;omega)|(exfalso;rename_i h1;have hh:=of_decide_eq_true h;have hh1:=of_decide_eq_false h1;omega)|(exfalso;rename_i h1;have hh:=of_decide_eq_false h;have hh1:=of_decide_eq_false h1;omega))
      |succ i=>
        (repeat' first|refine uF ?_|((first|apply oR rfl rfl|(apply dF rfl rfl rfl;intro _)|(apply dP rfl rfl rfl;intro _)|(apply dL rfl rfl rfl;intro _)|apply dC rfl rfl rfl rfl);(focus(first|exact iA (g:=wG a) rfl (EL rfl) (SZ rfl) rfl rfl (Int.natCast_nonneg _) hga rfl|exact iA (g:=wG b) rfl (EL rfl) (SZ rfl) rfl rfl (Int.natCast_nonneg _) hgb rfl|exact mO));try exact kQ)|refine xU [10] rfl ?_|(refine sQ (fun h=> ?_) (fun h=> ?_)<;>fail_if_success (first|(have:true=true:=h)|(have:false=false:=h)))|fail)
        · have hab:a=b:=by have hh:=beq_iff_eq.1 h;omega
          have hs:IntKind.i64.wrap (((i+1:Nat):Int)-1)=(i:Int):=by rw[w64 (by omega)];omega
          have e1:xs.drop (i+1)=a::xs.drop (i+1+1):=by rw[←List.getElem_cons_drop (by omega)];rw[List.getElem?_eq_getElem (by omega)]at hxi;rw[Option.some.inj hxi]
          have e2:ys.drop (i+1)=b::ys.drop (i+1+1):=by rw[←List.getElem_cons_drop (by omega)];rw[List.getElem?_eq_getElem (by omega)]at hyi;rw[Option.some.inj hyi]
          clear h
          (try refine uD ?_)
          refine⟨i,⟨by omega,by rw[e1,e2,hab,hz]⟩,by omega,SlotsOk.le ?_,HLe.of_eq ?_⟩
          · exact⟨.inl rfl, .inl rfl, .inl rfl, .inl (congrArg (fun k=>PV.g (.int .i64 k)) hs),trivial⟩
          · rfl
        all_goals(try(exfalso;have hh:=of_decide_eq_false (by assumption:decide (((i+1:Nat):Int)>0)=false);omega))
        all_goals (have hab : a ≠ b := fun e => by have hf:((a:Int)==(b:Int))=false:=by assumption
                                                   subst e
                                                   simp at hf)
        all_goals(refine rT ?_)
        all_goals(refine hfin _ (fun e=> ?_) (fun e=> ?_) (fun e _=>absurd e hab) (fun e=>absurd e hab))
        all_goals(first|rfl|(exfalso;have hh:=of_decide_eq_true h;omega)|(exfalso;have hh:=of_decide_eq_false h;omega)|(exfalso;rename_i h1;have hh:=of_decide_eq_true h;have hh1:=of_decide_eq_false h1;omega)|(exfalso;rename_i h1;have hh:=of_decide_eq_false h;have hh1:=of_decide_eq_false h1;omega))
  · have hne:((wsG xs).length:Int)≠((wsG ys).length:Int):=by omega
    have kill:((((wsG xs).length:Int) !=((wsG ys).length:Int))=false)→False:=fun h=>by simp at h;omega
    refine eN Tryz.func108 ?_
    (repeat' first|refine uF ?_|((first|apply oR rfl rfl|(apply dF rfl rfl rfl;intro _)|(apply dP rfl rfl rfl;intro _)|(apply dL rfl rfl rfl;intro _)|apply dC rfl rfl rfl rfl);(focus(first|exact mO));try exact kQ)|refine xU [8] rfl ?_|(refine sQ (fun h=> ?_) (fun h=> ?_)<;>fail_if_success (first|(have:true=true:=h)|(have:false=false:=h)))|fail)
    all_goals(try(exact(kill (by assumption)).elim))
    all_goals(refine rT ?_)
    · have hh:=of_decide_eq_true h
      have:=hlt1 (by omega)
      unfold cmpZ
      rw[if_pos (by omega)]
    · have hh:=of_decide_eq_true h
      have:=hlt2 (by omega)
      unfold cmpZ
      rw[if_neg (by omega),if_pos (by omega)]
    · exfalso
      have hh:=of_decide_eq_false h
      rename_i h1
      have hh1:=of_decide_eq_false h1
      omega
theorem getStack_pc:PC Tryz.prog 141 [] ⟨[],[],[]⟩ (.ptr 0 0) ⟨[[.nilp]],[],[]⟩:=by
 refine eN Tryz.func141 ?_
 (try refine uN ?_)
 refine rB ?_ ?_ ?_
 all_goals rfl
theorem free_pcd{k g:Nat}{ws:List Nat}:PCd Tryz.prog 142 [.ptr 0 0] ⟨[[.nilp]],[],[.gone k,AR g ws]⟩ ⟨[[.nilp]],[],[.gone k,AR g ws]⟩:=by
 refine PCd_of_PW Tryz.func142 rfl rfl (rs:=_) (v:= .tuple []) rfl (Nat.le_of_ble_eq_true (by kernel_rfl)) ?_
 (repeat' first|refine uA ?_|(apply oR rfl rfl;focus(first|exact PO_pnnil rfl Tryz.underlying240 rfl rfl|exact mO))|(refine sQ (fun h=> ?_) (fun h=> ?_)<;>fail_if_success (first|(have:true=true:=h)|(have:false=false:=h)))|fail)
 all_goals(refine rB ?_ ?_ ?_;all_goals rfl)
theorem cmpZ_pos{x y:Int}(hx:0≤x)(hy:0≤y):cmpZ x.natAbs y.natAbs=cmpZ x y:=by
 rw[Int.natAbs_of_nonneg hx,Int.natAbs_of_nonneg hy]
theorem cmpZ_neg{x y:Int}(hx:x<0)(hy:y<0):IntKind.i64.wrap (0-cmpZ x.natAbs y.natAbs)=cmpZ x y:=by
 have h1:(x.natAbs:Int)= -x:=by omega
 have h2:(y.natAbs:Int)= -y:=by omega
 rw[h1,h2]
 unfold cmpZ
 rcases Int.lt_trichotomy x y with h|h|h
 ·rw[if_neg (by omega),if_pos (by omega),if_pos h];decide
 ·rw[if_neg (by omega),if_neg (by omega),if_neg (by omega),if_neg (by omega)];decide
 ·rw[if_pos (by omega),if_neg (by omega),if_pos h];decide
theorem cmpZ_np{x y:Int}(hx:x<0)(hy:0≤y):cmpZ x y= -1:=by unfold cmpZ;rw[if_pos (by omega)]
theorem cmpZ_pn{x y:Int}(hx:0≤x)(hy:y<0):cmpZ x y=1:=by unfold cmpZ;rw[if_neg (by omega),if_pos (by omega)]
theorem intCmp_pc{x y:Int}(hX:(dig x.natAbs).length≤100000)(hY:(dig y.natAbs).length≤100000):PC Tryz.prog 104 [.ptr 0 0, .ptr 1 0] ⟨[intP x,intP y],[],[]⟩ (.g (.int .i64 (cmpZ x y))) ⟨[intP x,intP y],[],[]⟩:=by
 have hc:=cmp_pc hX hY
 unfold intP
 generalize dig x.natAbs=xs at *
 generalize dig y.natAbs=ys at *
 refine eN Tryz.func104 ?_
 (repeat' first|refine uE ?_|((first|apply oR rfl rfl|(apply dF rfl rfl rfl;intro _)|(apply dP rfl rfl rfl;intro _)|(apply dL rfl rfl rfl;intro _)|apply dC rfl rfl rfl rfl);(focus(first|exact cqP hc|exact PO_pcmp rfl Tryz.underlying105 (SZ rfl) (.inl rfl) rfl rfl rfl rfl|exact mO));try exact kQ)|(refine sQ (fun h=> ?_) (fun h=> ?_)<;>fail_if_success (first|(have:true=true:=h)|(have:false=false:=h)))|fail)
 all_goals(refine rB ?_ ?_ ?_)
 all_goals(try rfl)
 all_goals(rename_i h1)
 ·have hx:=of_decide_eq_true h
  have hy:y<0:=by rw[h]at h1;simpa using h1
  exact congrArg (fun k=>PV.g (.int .i64 k)) (cmpZ_neg hx hy)
 ·have hx:=of_decide_eq_false h
  have hy:0≤y:=by rw[h]at h1;simpa using h1
  exact congrArg (fun k=>PV.g (.int .i64 k)) (cmpZ_pos (by omega) hy)
 ·have hx:=of_decide_eq_true h
  have hy:0≤y:=by rw[h]at h1;simpa using h1
  exact congrArg (fun k=>PV.g (.int .i64 k)) (cmpZ_np hx hy).symm
 ·have hx:=of_decide_eq_false h
  have hy:y<0:=by rw[h]at h1;simpa using h1
  exact congrArg (fun k=>PV.g (.int .i64 k)) (cmpZ_pn (by omega) hy).symm
structure ZOk(ws:List Nat)(c X:Nat):Prop where
 ok:okW ws
 tk:ws.take (dig X).length=dig X
 le:(dig X).length≤c
 cw:c≤ws.length
 cm:c≤1000
 c1:1≤c
theorem ZOk.part{ws:List Nat}{c X:Nat}(h:ZOk ws c X):(ws.drop 0).take (dig X).length=dig X:=by rw[List.drop_zero,h.tk]
structure ROk(ws:List Nat)(c:Nat):Prop where
 ok:okW ws
 cw:c≤ws.length
 cm:c≤1000
 c1:1≤c
theorem ZOk.room{ws:List Nat}{c X:Nat}(h:ZOk ws c X):ROk ws c:=⟨h.ok,h.cw,h.cm,h.c1⟩
theorem ZOk.padded{ws:List Nat}{c k X:Nat}(h:ROk ws c)(hX:X<WB^k)(hk:k≤c):ZOk (putL ws 0 (padD k X)) c X:=by
 have hl:=padD_length k X
 have hd:=dig_length_le hX
 have hcw:=h.cw
 exact{ok:=putL_ok 0 h.ok (padD_ok k X),tk:=by rw[putL_zero,List.take_append_of_le_length (by omega)];exact take_padD hX,le:=by omega,cw:=by rw[putL_length (by omega)];omega,cm:=h.cm,c1:=h.c1}
theorem ROk.rep{k:Nat}(h:1≤k)(hm:k≤1000):ROk (List.replicate k 0) k:=⟨okW_rep k,by simp,hm,h⟩
theorem sqr_any{gz lz cz g c X:Nat}{wz ws:List Nat}(hz:ROk wz cz)(hx:ZOk ws c X)(hX:X≠0)(hm:(dig X).length<12):
  ∃g' wz' cz',ZOk wz' cz' (X *X)∧PC Tryz.prog 120 [.vw 0 gz 0 lz cz, .any, .vw 1 g 0 (dig X).length c] ⟨[],[],[AR gz wz,AR g ws]⟩ (.vw 0 g' 0 (dig (X *X)).length cz') ⟨[],[],[AR g' wz',AR g ws]⟩:=by
 have h1:1≤(dig X).length:=by have:=dig_len_pos hX;rwa[dig_wlen]at this
 have hlt:X *X<WB^((dig X).length+(dig X).length):=by
  have:=prod_lt (okW_dig X) (okW_dig X)
  rwa[val_dig]at this
 have hcw:=hz.cw
 have hcm:=hz.cm
 have hle:=hx.le
 have hxw:=hx.cw
 have hxm:=hx.cm
 by_cases hr:(dig X).length+(dig X).length≤cz
 ·have hc:=sqr_in (stk:= .any) (gz:=gz) (lz:=lz) (g:=g) hr (by omega) hcw hz.ok hx.part (by omega) hle hxw (by omega) (okW_dig X) h1 hm
  rw[val_dig]at hc
  exact⟨_,_,_,ZOk.padded hz hlt hr,hc⟩
 ·have hc:=sqr_out (stk:= .any) (gz:=gz) (lz:=lz) (g:=g) (wz:=wz) (by omega) hz.c1 (by omega) hcw hx.part (by omega) hle hxw (by omega) (okW_dig X) h1 hm
  rw[val_dig]at hc
  exact⟨_,_,_,ZOk.padded (ROk.rep (by omega) (by omega)) hlt (by omega),PC.moved (SZ rfl) (SZ rfl) hc⟩
theorem sqr_new{g c X:Nat}{ws:List Nat}(hx:ZOk ws c X)(hX:X≠0)(hm:(dig X).length<12):
  ∃wz' cz',ZOk wz' cz' (X *X)∧PC Tryz.prog 120 [.nils, .any, .vw 0 g 0 (dig X).length c] ⟨[],[],[AR g ws]⟩ (.vw 1 0 0 (dig (X *X)).length cz') ⟨[],[],[AR g ws,AR 0 wz']⟩:=by
 have h1:1≤(dig X).length:=by have:=dig_len_pos hX;rwa[dig_wlen]at this
 have hlt:X *X<WB^((dig X).length+(dig X).length):=by
  have:=prod_lt (okW_dig X) (okW_dig X)
  rwa[val_dig]at this
 have hle:=hx.le
 have hxw:=hx.cw
 have hxm:=hx.cm
 have hc:=sqr_nil (stk:= .any) (g:=g) hx.part (by omega) hle hxw (by omega) (okW_dig X) h1 hm
 rw[val_dig]at hc
 exact⟨_,_,ZOk.padded (ROk.rep (by omega) (by omega)) hlt (by omega),hc⟩
theorem mul_any{gz lz cz g c X y:Nat}{wz ws:List Nat}(hz:ROk wz cz)(hx:ZOk ws c X)(hX:X≠0)(hm:(dig X).length≤100)(hy:y<WB)(hy0:y≠0):
  ∃g' wz' cz',ZOk wz' cz' (X *y)∧PC Tryz.prog 121 [.vw 0 gz 0 lz cz, .any, .vw 1 g 0 (dig X).length c, .g (.sl (wsG [y]))] ⟨[],[],[AR gz wz,AR g ws]⟩ (.vw 0 g' 0 (dig (X *y)).length cz') ⟨[],[],[AR g' wz',AR g ws]⟩:=by
 have h1:1≤(dig X).length:=by have:=dig_len_pos hX;rwa[dig_wlen]at this
 have hlt:X *y<WB^((dig X).length+1):=by
  have:=prod_lt (okW_dig X) (okW_cons.2 ⟨hy,okW_nil⟩)
  rw[val_dig]at this
  simpa[val]using this
 have hcw:=hz.cw
 have hcm:=hz.cm
 have hle:=hx.le
 have hxw:=hx.cw
 have hxm:=hx.cm
 by_cases hr:(dig X).length+1≤cz
 ·have hc:=mul_in (gz:=gz) (lz:=lz) (g:=g) (c:=c) (wz:=wz) (ws:=ws) (cz:=cz) (y:=y) hx.part (by omega) hr (by omega) hcw (okW_dig X) hy hy0 h1 (by omega)
  rw[val_dig]at hc
  exact⟨_,_,_,ZOk.padded hz hlt hr,hc⟩
 ·have hc:=mul_out (gz:=gz) (lz:=lz) (g:=g) (c:=c) (wz:=wz) (ws:=ws) (cz:=cz) (y:=y) hx.part (by omega) (by omega) (okW_dig X) hy hy0 h1 (by omega)
  rw[val_dig]at hc
  exact⟨_,_,_,ZOk.padded (ROk.rep (by omega) (by omega)) hlt (by omega),PC.moved (SZ rfl) (SZ rfl) hc⟩
def exA(n L j:Nat):Nat:=n/2^(L-1-j)
def exV(n L j:Nat):Nat:=n *2^(65-L+j)%WB
def exOk(n:Nat):Bool:=
 let L:=Lib.bitLen n
 L≤8&&2≤L&&exA n L 0==1&&exA n L (L-1)==n&&exV n L 0==n *2^(65-L)%WB&&
  (List.range (L-1)).all fun j=>exA n L j≤127&&exV n L (j+1)==exV n L j *2%WB&&(if exV n L j &&& 9223372036854775808=0 then exA n L (j+1)==2 *exA n L j else exA n L (j+1)==2 *exA n L j+1)
theorem exOk_all:(List.range 256).all (fun n=>n<2||exOk n)=true:=by decide+kernel
theorem exOk_of{n:Nat}(h2:2≤n)(h:n<256):exOk n=true:=by
 have:=List.all_eq_true.1 exOk_all n (List.mem_range.2 h)
 simp only[Bool.or_eq_true,decide_eq_true_eq]at this
 rcases this with h|h
 ·omega
 ·exact h
theorem ten_len{e:Nat}(h:e≤127):(dig (10^e)).length<12:=by
 have h1:10^e≤10^127:=Nat.pow_le_pow_right (by decide) h
 have h2:(10:Nat)^127<WB^11:=by decide+kernel
 have:=dig_length_le (Nat.lt_of_le_of_lt h1 h2)
 omega
theorem u64_mod(m:Nat):IntKind.u64.wrap (m:Int)=((m%WB:Nat):Int):=by
 simp only[IntKind.wrap,IntKind.signed,IntKind.bits,Bool.false_and,Bool.false_eq_true,if_false]
 unfold WB
 omega
theorem and_top{v:Nat}(h:v<WB):IntKind.u64.wrap (((BitVec.ofInt IntKind.u64.bits (v:Int) &&& BitVec.ofInt IntKind.u64.bits 9223372036854775808).toNat:Nat):Int)=((v &&& 9223372036854775808:Nat):Int):=by
 have h':v<2^64:=h
 refine u64_wrap ?_ (Nat.lt_of_le_of_lt Nat.and_le_left h)
 show(((BitVec.ofInt 64 (v:Int) &&& BitVec.ofInt 64 ((9223372036854775808:Nat):Int)).toNat:Nat):Int)=_
 rw[BitVec.ofInt_natCast,BitVec.ofInt_natCast,BitVec.toNat_and,BitVec.toNat_ofNat,BitVec.toNat_ofNat,Nat.mod_eq_of_lt h']
theorem exOk_spec{n:Nat}(h2:2≤n)(h:n<256):Lib.bitLen n≤8∧2≤Lib.bitLen n∧exA n (Lib.bitLen n) 0=1∧exA n (Lib.bitLen n) (Lib.bitLen n-1)=n∧exV n (Lib.bitLen n) 0=n *2^(65-Lib.bitLen n)%WB∧
  ∀j,j<Lib.bitLen n-1→exA n (Lib.bitLen n) j≤127∧exV n (Lib.bitLen n) (j+1)=exV n (Lib.bitLen n) j *2%WB∧
   ((exV n (Lib.bitLen n) j &&& 9223372036854775808=0→exA n (Lib.bitLen n) (j+1)=2 *exA n (Lib.bitLen n) j)∧(exV n (Lib.bitLen n) j &&& 9223372036854775808≠0→exA n (Lib.bitLen n) (j+1)=2 *exA n (Lib.bitLen n) j+1)):=by
 have h3:=exOk_of h2 h
 unfold exOk at h3
 simp only[Bool.and_eq_true,decide_eq_true_eq,beq_iff_eq,List.all_eq_true,List.mem_range]at h3
 obtain⟨⟨⟨⟨⟨a1,a2⟩,a3⟩,a4⟩,a5⟩,a6⟩:=h3
 refine⟨a1,a2,a3,a4,a5,fun j hj=> ?_⟩
 obtain⟨⟨b1,b2⟩,b3⟩:=a6 j hj
 refine⟨b1,b2,fun h=> ?_,fun h=> ?_⟩
 ·rw[if_pos h]at b3;simpa using b3
 ·rw[if_neg h]at b3;simpa using b3
structure XS where
 j:Nat
 gz:Nat
 cz:Nat
 wz:List Nat
 zz:Option (Nat×Nat×Nat×List Nat)
def zzP:Option (Nat×Nat×Nat×List Nat)→PV
 |none=> .nils
 |some (g,l,c,_)=> .vw 1 g 0 l c
def zzM:Option (Nat×Nat×Nat×List Nat)→List MO
 |none=>[]
 |some (g,_,_,w)=>[AR g w]
theorem expNN_pc{n:Nat}(h2:2≤n)(hn:n<256):PC Tryz.prog 152 [.nils, .nilp, .g (.sl (wsG [10])), .g (.sl (wsG [n])), .g (.sl []), .g (.bool false)] ⟨[],[],[]⟩ (.g (.sl (wsG (dig (10^n))))) ⟨[],[],[]⟩:=by
 have hal1:=alias_nil (p:= .g (.sl (wsG [10])))
 have hal2:=alias_nil (p:= .g (.sl (wsG [n])))
 have hgs:=getStack_pc
 obtain⟨hL8,hL2,hA0,hAn,hV0,hrd⟩:=exOk_spec h2 hn
 have hL:Lib.bitLen n≤64:=by omega
 have hsh:IntKind.u64.wrap (((64-Lib.bitLen n:Nat):Int)+1)=((65-Lib.bitLen n:Nat):Int):=by rw[u64_wrap (n:=65-Lib.bitLen n) (by omega) (by unfold WB;omega)]
 have hv0:IntKind.u64.wrap ((n:Int) *2^min (IntKind.u64.wrap (((64-Lib.bitLen n:Nat):Int)+1)).toNat IntKind.u64.bits)=(exV n (Lib.bitLen n) 0:Int):=by
  rw[hsh,hV0,Int.toNat_natCast,Nat.min_eq_left (by show 65-Lib.bitLen n≤64;omega),←u64_mod]
  congr 1
 have hw0:IntKind.i64.wrap (64-IntKind.i64.wrap (IntKind.u64.wrap (((64-Lib.bitLen n:Nat):Int)+1)))=((Lib.bitLen n-1:Nat):Int):=by
  rw[hsh,show IntKind.i64.wrap ((65-Lib.bitLen n:Nat):Int)=((65-Lib.bitLen n:Nat):Int)from w64 (by omega),w64 (by omega)];omega
 have h10:dig (10^exA n (Lib.bitLen n) 0)=[10]:=by rw[hA0];exact dig_one (by decide) (by decide)
 have hnlz:=nlz_pc (x:=n) (by unfold WB;omega) hL
 generalize Lib.bitLen n=L at *
 refine PC_of_PM Tryz.func152 rfl rfl (rs:=_) rfl (Nat.le_of_ble_eq_true (by kernel_rfl)) ?_
 repeat((repeat refine PM_seq ?_);first|refine PM_cond_f rfl ?_|refine PM_cond_t rfl ?_|refine PM_skip ?_|(refine PM_pw ?_;(repeat' first|refine uA ?_|(apply oR rfl rfl;focus(first|exact iA (g:=wG 10) rfl (EL rfl) (SZ rfl) rfl rfl (by decide) rfl rfl|exact iA (g:=wG n) rfl (EL rfl) (SZ rfl) rfl rfl (by decide) rfl rfl|exact cb [true] rfl rfl (EN rfl) (hal1) rfl rfl rfl rfl rfl rfl rfl rfl rfl rfl rfl|exact cb [true] rfl rfl (EN rfl) (hal2) rfl rfl rfl rfl rfl rfl rfl rfl rfl rfl rfl|exact cqP hgs|exact cb [] rfl rfl (EN rfl) (hgs) rfl rfl rfl rfl rfl rfl rfl rfl rfl rfl rfl|exact PO_pnil rfl Tryz.underlying198 rfl rfl|exact mO))|(refine sQ (fun h=> ?_) (fun h=> ?_)<;>fail_if_success (first|(have:true=true:=h)|(have:false=false:=h)))|fail);(all_goals(try(exfalso;have hh:=beq_iff_eq.1 h;omega)));refine Or.inl (And.intro rfl ?_)))
 refine PM_defer (l:=[_]) rfl rfl rfl (by intro t h;cases h) ?_
 (try refine uN ?_)
 refine⟨_,rfl, ?_⟩
 refine PM_pw ?_
 (repeat' first|refine uC ?_|(apply oR rfl rfl;focus(first|exact iA (g:=wG n) rfl (EL rfl) (SZ rfl) rfl rfl (by decide) rfl rfl|exact mO))|refine xU [27] rfl ?_|(refine sQ (fun h=> ?_) (fun h=> ?_)<;>fail_if_success (first|(have:true=true:=h)|(have:false=false:=h)))|fail)
 all_goals(try(exfalso;have hh:=beq_iff_eq.1 h;omega))
 clear h
 have hset:=set_pc (xs:=[10]) (by decide) (by decide)
 (repeat first|refine uA ?_|(apply oR rfl rfl;focus(first|exact cd [true] rfl rfl (EN rfl) (hset) rfl rfl rfl rfl rfl rfl rfl rfl rfl rfl rfl|exact iA (g:=wG n) rfl (EL rfl) (SZ rfl) rfl rfl (show(0:Int)≤IntKind.i64.wrap (((1:Nat):Int)-1) by decide) rfl rfl|exact cqP hnlz|exact PO_as (PO_shl rfl rfl rfl (by rw[hsh];exact Int.natCast_nonneg _)) (congrArg (fun k=>PV.g (.int .u64 k)) hv0)|exact mO)))
 refine PW_loop (S:=XS) (fun s=>slots [(0, .vw 0 s.gz 0 (dig (10^exA n L s.j)).length s.cz),(2, .g (.sl (wsG [10]))),(3, .g (.sl (wsG [n]))),(4, .g (.sl [])),(15, .g (wG (exV n L s.j))),(18, .g (.int .i64 ((L-1:Nat):Int))),(19,zzP s.zz),(21, .g (.int .i64 (s.j:Int)))])
  (fun s=>⟨[[.nilp]],[],AR s.gz s.wz::zzM s.zz⟩)
  (fun s=>s.j≤L-1∧ZOk s.wz s.cz (10^exA n L s.j)∧(∀g l c w,s.zz=some (g,l,c,w)→ROk w c)∧(s.zz=none→s.j=0)) (fun s=>L-1-s.j) ⟨0,0,1,[10],none⟩ ⟨?_, ?_, ?_, ?_⟩
  (SlotsOk.le ?_) (HLe.of_eq ?_) (fun s hs=> ?_)
 ·exact Nat.zero_le _
 ·show ZOk [10] 1 (10^exA n L 0)
  refine⟨?_, ?_, ?_, ?_, ?_, ?_⟩
  ·intro w hw;simp at hw;subst hw;decide
  ·rw[h10];rfl
  ·rw[h10];exact Nat.le_refl _
  ·decide
  ·decide
  ·decide
 ·intro _ _ _ _ h;cases h
 ·intro _;rfl
 ·refine⟨.inl ?_, .inl rfl, .inl rfl, .inl rfl, .inl rfl, .inl (congrArg (fun k=>PV.g (.int .i64 k)) hw0), .inl rfl, .inl rfl,trivial⟩
  rw[h10];rfl
 ·rfl
 obtain⟨j,gz,cz,wz,zz⟩:=s
 obtain⟨hj,hz,hr,h0⟩:=hs
 simp only at hj hz hr h0
 clear hal1 hal2 hgs hset hnlz hv0 hsh hw0
 by_cases hlast:j=L-1
 ·subst hlast
  rw[hAn]at hz⊢
  have hd:decide (((L-1:Nat):Int)<((L-1:Nat):Int))=false:=decide_eq_false (by omega)
  cases zz with
  |none=>exfalso;have:=h0 rfl;omega
  |some q=>
   obtain⟨gzz,lzz,czz,wzz⟩:=q
   (repeat' first|refine uC ?_|(apply oR rfl rfl;focus(first|exact mO))|refine xU [46] rfl ?_|(refine sQ (fun h=> ?_) (fun h=> ?_)<;>fail_if_success (first|(have:true=true:=h)|(have:false=false:=h)))|fail)
   ·exfalso;have hh:=of_decide_eq_true h;dsimp only at hh;omega
   clear h
   have hlen:=Nat.le_trans hz.le hz.cm
   have hok:=hz.part
   have hnd:nlen (dig (10^n))=(dig (10^n)).length:=by
    have:=nlen_dig (okW_dig (10^n))
    rw[val_dig]at this
    exact this.symm
   have hnorm:=norm_pc (g:=gz) (o:=0) (n:=(dig (10^n)).length) (cap:=cz) (ws:=wz) (l:=dig (10^n)) hok (by have:=hz.le;have:=hz.cw;omega) hz.le (by unfold maxLen;omega)
   rw[hnd]at hnorm
   have htk:((wsG wz).drop 0).take (dig (10^n)).length=wsG (dig (10^n)):=by
    rw[List.drop_zero,wsG,←List.map_take,hz.tk]
    rfl
   have hfree:= @free_pcd (gz+1) gzz wzz
   generalize dig (10^n)=Z at *
   (repeat first|refine uC ?_|(apply oR rfl rfl;focus(first|exact mO))|refine xU [62] rfl ?_)
   refine PW_loop_none ?_
   (repeat first|refine uC ?_|(apply oR rfl rfl;focus(first|exact mO))|refine xU [62] rfl ?_)
   refine PW_cut (slots [(12, .vw 0 gz 0 Z.length cz)]) ⟨[[.nilp]],[],[AR gz wz,AR gzz wzz]⟩ ?_ ?_
   ·(repeat first|refine uA ?_|(apply oR rfl rfl;focus(first|exact cd [] rfl rfl (EN rfl) (hnorm) rfl rfl rfl rfl rfl rfl rfl rfl rfl rfl rfl|exact mO)))
    exact⟨SlotsOk.le ⟨.inl rfl,trivial⟩,HLe.of_eq rfl⟩
   refine PW_freeze 0 rfl (PW_weak (env':=slots [(12, .g (.sl (wsG Z)))]) (H':=⟨[[.nilp]],[],[.gone (gz+1),AR gzz wzz]⟩) (SlotsOk.le ⟨.inl ?_,trivial⟩) (HLe.of_eq rfl) ?_)
   ·show frz 0 gz (wsG wz) (.vw 0 gz 0 Z.length cz)=_
    simp[frz,←htk]
   (try refine uN ?_)
   refine Or.inr (And.intro rfl ⟨_,EN rfl,hfree, ?_⟩)
   refine rB ?_ ?_ ?_
   all_goals rfl
 have hjl:j<L-1:=by omega
 obtain⟨hle,hv1,hbit0,hbit1⟩:=hrd j hjl
 have hX0:10^exA n L j≠0:=Nat.ne_of_gt (Nat.pow_pos (by decide))
 have hX2:10^exA n L j *10^exA n L j≠0:=Nat.mul_ne_zero hX0 hX0
 have hlen:=ten_len hle
 generalize hX:10^exA n L j=X at *
 have hsv:IntKind.u64.wrap ((exV n L j:Int) *2^min (1:Int).toNat IntKind.u64.bits)=(exV n L (j+1):Int):=by
  rw[hv1,show((exV n L j:Int) *2^min (1:Int).toNat IntKind.u64.bits)=((exV n L j *2:Nat):Int) by
   rw[show min (1:Int).toNat IntKind.u64.bits=1 from rfl];push_cast;rfl]
  exact u64_mod _
 have hj1:IntKind.i64.wrap ((j:Int)+1)=((j+1:Nat):Int):=by rw[w64 (by omega)];omega
 have hl2:(dig (X *X)).length≤100:=by
  have:=prod_lt (okW_dig X) (okW_dig X)
  rw[val_dig]at this
  have:=dig_length_le this
  omega
 have htop:=and_top (v:=exV n L j) (Nat.mod_lt _ (by decide))
 have heq1:(IntKind.u64.wrap (((BitVec.ofInt IntKind.u64.bits (exV n L j:Int) &&& BitVec.ofInt IntKind.u64.bits 9223372036854775808).toNat:Nat):Int) !=0)=true→10^exA n L (j+1)=X *X *10:=by
  intro h
  rw[htop]at h
  have:exV n L j &&& 9223372036854775808≠0:=fun e=>by rw[e]at h;simp at h
  rw[hbit1 this,Nat.pow_succ,Nat.two_mul,Nat.pow_add,hX]
 have heq0:(IntKind.u64.wrap (((BitVec.ofInt IntKind.u64.bits (exV n L j:Int) &&& BitVec.ofInt IntKind.u64.bits 9223372036854775808).toNat:Nat):Int) !=0)=false→10^exA n L (j+1)=X *X:=by
  intro h
  rw[htop]at h
  have:exV n L j &&& 9223372036854775808=0:=by simpa using h
  rw[hbit0 this,Nat.two_mul,Nat.pow_add,hX]
 clear hbit0 hbit1 hrd htop hv1
 cases zz with
 |none=>
  obtain⟨w1,c1,hz1,hc⟩:=sqr_new (g:=gz) hz hX0 hlen
  (repeat' first|refine uC ?_|(apply oR rfl rfl;focus(first|exact cd [true] rfl rfl (EN rfl) (hc) rfl rfl rfl rfl rfl rfl rfl rfl rfl rfl rfl|exact mO))|refine xU [39] rfl ?_|(refine sQ (fun h=> ?_) (fun h=> ?_)<;>fail_if_success (first|(have:true=true:=h)|(have:false=false:=h)))|fail)
  ·clear h
   refine PW_swap 0 1 rfl rfl rfl (SZ rfl) (SZ rfl) ?_
   refine PW_weak (env':=slots [(0, .vw 0 (gz+1) 0 ((dig (X *X)).length) c1),(2, .g (.sl (wsG [10]))),(3, .g (.sl (wsG [n]))),(4, .g (.sl [])),(15, .g (wG (exV n L j))),(18, .g (.int .i64 ((L-1:Nat):Int))),(19, .vw 1 (0+1) 0 ((dig X).length) cz),(21, .g (.int .i64 (j:Int)))]) (H':=⟨[[.nilp]],[],[AR (gz+1) w1,AR (0+1) wz]⟩) (SlotsOk.le ?_) (HLe.of_eq ?_) ?_
   ·refine⟨.inl ?_, .inl rfl, .inl rfl, .inl rfl, .inl rfl, .inl rfl, .inl ?_, .inl rfl,trivial⟩
    ·show swp 1 (0) 0 (gz) (.vw 1 (0) 0 ((dig (X *X)).length) c1)=_
     simp[swp]
    ·show swp 1 (0) 0 (gz) (.vw 0 (gz) 0 ((dig X).length) cz)=_
     simp[swp,show Nat.beq 0 1=false from rfl]
   ·rfl
   obtain⟨g3,w3,c3,hz3,hm⟩:=mul_any (gz:=0+1) (lz:=(dig X).length) (g:=gz+1) (y:=10) (hz).room hz1 hX2 (by omega) (by decide) (by decide)
   (repeat' first|refine uC ?_|(apply oR rfl rfl;focus(first|exact cd [] rfl rfl (EN rfl) (hm) rfl rfl rfl rfl rfl rfl rfl rfl rfl rfl rfl|exact mO))|refine xU [42,45] rfl ?_|(refine sQ (fun h=> ?_) (fun h=> ?_)<;>fail_if_success (first|(have:true=true:=h)|(have:false=false:=h)))|fail)
   ·have heq:=heq1 h
    clear h
    refine PW_swap 0 1 rfl rfl rfl (SZ rfl) (SZ rfl) ?_
    refine PW_weak (env':=slots [(0, .vw 0 (gz+1+1) 0 ((dig (X *X *10)).length) c3),(2, .g (.sl (wsG [10]))),(3, .g (.sl (wsG [n]))),(4, .g (.sl [])),(15, .g (wG (exV n L j))),(18, .g (.int .i64 ((L-1:Nat):Int))),(19, .vw 1 (g3+1) 0 ((dig (X *X)).length) c1),(21, .g (.int .i64 (j:Int)))]) (H':=⟨[[.nilp]],[],[AR (gz+1+1) w3,AR (g3+1) w1]⟩) (SlotsOk.le ?_) (HLe.of_eq ?_) ?_
    ·refine⟨.inl ?_, .inl rfl, .inl rfl, .inl rfl, .inl rfl, .inl rfl, .inl ?_, .inl rfl,trivial⟩
     ·show swp 1 (g3) 0 (gz+1) (.vw 1 (g3) 0 ((dig (X *X *10)).length) c3)=_
      simp[swp]
     ·show swp 1 (g3) 0 (gz+1) (.vw 0 (gz+1) 0 ((dig (X *X)).length) c1)=_
      simp[swp,show Nat.beq 0 1=false from rfl]
    ·rfl
    (repeat first|refine uA ?_|(apply oR rfl rfl;focus(first|exact PO_as (PO_shl rfl rfl rfl (by decide)) (congrArg (fun k=>PV.g (.int .u64 k)) hsv)|exact mO)))
    refine⟨⟨j+1,gz+1+1,c3,w3,some (g3+1,(dig (X *X)).length,c1,w1)⟩,⟨by show j+1≤L-1;omega, ?_, ?_, ?_⟩, ?_,SlotsOk.le ?_,HLe.of_eq ?_⟩
    ·show ZOk _ _ (10^exA n L (j+1))
     rw[heq]
     exact hz3
    ·intro g l c w e
     cases e
     exact hz1.room
    ·intro e
     cases e
    ·show L-1-(j+1)<L-1-j
     omega
    ·refine⟨.inl ?_, .inl rfl, .inl rfl, .inl rfl, .inl rfl, .inl rfl, .inl rfl, .inl ?_,trivial⟩
     ·show _=PV.vw 0 _ 0 (dig (10^exA n L (j+1))).length _
      rw[heq]
      rfl
     ·exact congrArg (fun k=>PV.g (.int .i64 k)) hj1
    ·rfl
   ·have heq:=heq0 h
    clear h
    (repeat first|refine uA ?_|(apply oR rfl rfl;focus(first|exact PO_as (PO_shl rfl rfl rfl (by decide)) (congrArg (fun k=>PV.g (.int .u64 k)) hsv)|exact mO)))
    refine⟨⟨j+1,gz+1,c1,w1,some (0+1,(dig X).length,cz,wz)⟩,⟨by show j+1≤L-1;omega, ?_, ?_, ?_⟩, ?_,SlotsOk.le ?_,HLe.of_eq ?_⟩
    ·show ZOk _ _ (10^exA n L (j+1))
     rw[heq]
     exact hz1
    ·intro g l c w e
     cases e
     exact(hz).room
    ·intro e
     cases e
    ·show L-1-(j+1)<L-1-j
     omega
    ·refine⟨.inl ?_, .inl rfl, .inl rfl, .inl rfl, .inl rfl, .inl rfl, .inl rfl, .inl ?_,trivial⟩
     ·show _=PV.vw 0 _ 0 (dig (10^exA n L (j+1))).length _
      rw[heq]
      rfl
     ·exact congrArg (fun k=>PV.g (.int .i64 k)) hj1
    ·rfl
  ·exfalso;have hh:=of_decide_eq_false h;dsimp only at hh;omega
 |some q=>
  obtain⟨gzz,lzz,czz,wzz⟩:=q
  have hrr:=hr _ _ _ _ rfl
  obtain⟨g1,w1,c1,hz1,hc⟩:=sqr_any (gz:=gzz) (lz:=lzz) (g:=gz) hrr hz hX0 hlen
  (repeat' first|refine uC ?_|(apply oR rfl rfl;focus(first|exact cd [] rfl rfl (EN rfl) (hc) rfl rfl rfl rfl rfl rfl rfl rfl rfl rfl rfl|exact mO))|refine xU [39] rfl ?_|(refine sQ (fun h=> ?_) (fun h=> ?_)<;>fail_if_success (first|(have:true=true:=h)|(have:false=false:=h)))|fail)
  ·clear h
   refine PW_swap 0 1 rfl rfl rfl (SZ rfl) (SZ rfl) ?_
   refine PW_weak (env':=slots [(0, .vw 0 (gz+1) 0 ((dig (X *X)).length) c1),(2, .g (.sl (wsG [10]))),(3, .g (.sl (wsG [n]))),(4, .g (.sl [])),(15, .g (wG (exV n L j))),(18, .g (.int .i64 ((L-1:Nat):Int))),(19, .vw 1 (g1+1) 0 ((dig X).length) cz),(21, .g (.int .i64 (j:Int)))]) (H':=⟨[[.nilp]],[],[AR (gz+1) w1,AR (g1+1) wz]⟩) (SlotsOk.le ?_) (HLe.of_eq ?_) ?_
   ·refine⟨.inl ?_, .inl rfl, .inl rfl, .inl rfl, .inl rfl, .inl rfl, .inl ?_, .inl rfl,trivial⟩
    ·show swp 1 (g1) 0 (gz) (.vw 1 (g1) 0 ((dig (X *X)).length) c1)=_
     simp[swp]
    ·show swp 1 (g1) 0 (gz) (.vw 0 (gz) 0 ((dig X).length) cz)=_
     simp[swp,show Nat.beq 0 1=false from rfl]
   ·rfl
   obtain⟨g3,w3,c3,hz3,hm⟩:=mul_any (gz:=g1+1) (lz:=(dig X).length) (g:=gz+1) (y:=10) (hz).room hz1 hX2 (by omega) (by decide) (by decide)
   (repeat' first|refine uC ?_|(apply oR rfl rfl;focus(first|exact cd [] rfl rfl (EN rfl) (hm) rfl rfl rfl rfl rfl rfl rfl rfl rfl rfl rfl|exact mO))|refine xU [42,45] rfl ?_|(refine sQ (fun h=> ?_) (fun h=> ?_)<;>fail_if_success (first|(have:true=true:=h)|(have:false=false:=h)))|fail)
   ·have heq:=heq1 h
    clear h
    refine PW_swap 0 1 rfl rfl rfl (SZ rfl) (SZ rfl) ?_
    refine PW_weak (env':=slots [(0, .vw 0 (gz+1+1) 0 ((dig (X *X *10)).length) c3),(2, .g (.sl (wsG [10]))),(3, .g (.sl (wsG [n]))),(4, .g (.sl [])),(15, .g (wG (exV n L j))),(18, .g (.int .i64 ((L-1:Nat):Int))),(19, .vw 1 (g3+1) 0 ((dig (X *X)).length) c1),(21, .g (.int .i64 (j:Int)))]) (H':=⟨[[.nilp]],[],[AR (gz+1+1) w3,AR (g3+1) w1]⟩) (SlotsOk.le ?_) (HLe.of_eq ?_) ?_
    ·refine⟨.inl ?_, .inl rfl, .inl rfl, .inl rfl, .inl rfl, .inl rfl, .inl ?_, .inl rfl,trivial⟩
     ·show swp 1 (g3) 0 (gz+1) (.vw 1 (g3) 0 ((dig (X *X *10)).length) c3)=_
      simp[swp]
     ·show swp 1 (g3) 0 (gz+1) (.vw 0 (gz+1) 0 ((dig (X *X)).length) c1)=_
      simp[swp,show Nat.beq 0 1=false from rfl]
    ·rfl
    (repeat first|refine uA ?_|(apply oR rfl rfl;focus(first|exact PO_as (PO_shl rfl rfl rfl (by decide)) (congrArg (fun k=>PV.g (.int .u64 k)) hsv)|exact mO)))
    refine⟨⟨j+1,gz+1+1,c3,w3,some (g3+1,(dig (X *X)).length,c1,w1)⟩,⟨by show j+1≤L-1;omega, ?_, ?_, ?_⟩, ?_,SlotsOk.le ?_,HLe.of_eq ?_⟩
    ·show ZOk _ _ (10^exA n L (j+1))
     rw[heq]
     exact hz3
    ·intro g l c w e
     cases e
     exact hz1.room
    ·intro e
     cases e
    ·show L-1-(j+1)<L-1-j
     omega
    ·refine⟨.inl ?_, .inl rfl, .inl rfl, .inl rfl, .inl rfl, .inl rfl, .inl rfl, .inl ?_,trivial⟩
     ·show _=PV.vw 0 _ 0 (dig (10^exA n L (j+1))).length _
      rw[heq]
      rfl
     ·exact congrArg (fun k=>PV.g (.int .i64 k)) hj1
    ·rfl
   ·have heq:=heq0 h
    clear h
    (repeat first|refine uA ?_|(apply oR rfl rfl;focus(first|exact PO_as (PO_shl rfl rfl rfl (by decide)) (congrArg (fun k=>PV.g (.int .u64 k)) hsv)|exact mO)))
    refine⟨⟨j+1,gz+1,c1,w1,some (g1+1,(dig X).length,cz,wz)⟩,⟨by show j+1≤L-1;omega, ?_, ?_, ?_⟩, ?_,SlotsOk.le ?_,HLe.of_eq ?_⟩
    ·show ZOk _ _ (10^exA n L (j+1))
     rw[heq]
     exact hz1
    ·intro g l c w e
     cases e
     exact(hz).room
    ·intro e
     cases e
    ·show L-1-(j+1)<L-1-j
     omega
    ·refine⟨.inl ?_, .inl rfl, .inl rfl, .inl rfl, .inl rfl, .inl rfl, .inl rfl, .inl ?_,trivial⟩
     ·show _=PV.vw 0 _ 0 (dig (10^exA n L (j+1))).length _
      rw[heq]
      rfl
     ·exact congrArg (fun k=>PV.g (.int .i64 k)) hj1
    ·rfl
  ·exfalso;have hh:=of_decide_eq_false h;dsimp only at hh;omega
theorem intP_nat(m:Nat):intP m=[.g (.bool false), .g (.sl (wsG (dig m)))]:=by
 unfold intP
 rw[decide_eq_false (by omega),Int.natAbs_natCast]
theorem expNN_0:PC Tryz.prog 152 [.nils, .nilp, .g (.sl (wsG [10])), .g (.sl []), .g (.sl []), .g (.bool false)] ⟨[],[],[]⟩ (.g (.sl (wsG [1]))) ⟨[],[],[]⟩:=by
 have hal1:=alias_nil (p:= .g (.sl (wsG [10])))
 have hal2:=alias_nil (p:= .g (.sl []))
 have hsw:=setWord_pc (x:=1) (by decide)
 refine eN Tryz.func152 ?_
 (repeat first|refine uC ?_|(apply oR rfl rfl;focus(first|exact cb [true] rfl rfl (EN rfl) (hal1) rfl rfl rfl rfl rfl rfl rfl rfl rfl rfl rfl|exact cb [true] rfl rfl (EN rfl) (hal2) rfl rfl rfl rfl rfl rfl rfl rfl rfl rfl rfl|exact mO))|refine xU [6] rfl ?_)
 refine PW_cut (slots [(12, .vw 0 0 0 1 1)]) ⟨[],[],[AR 0 [1]]⟩ ?_ ?_
 ·(repeat first|refine uA ?_|(apply oR rfl rfl;focus(first|exact cd [true] rfl rfl (EN rfl) (hsw) rfl rfl rfl rfl rfl rfl rfl rfl rfl rfl rfl|exact mO)))
  exact⟨SlotsOk.le ⟨.inl rfl,trivial⟩,HLe.of_eq rfl⟩
 refine PW_freeze 0 rfl (PW_weak (env':=slots [(12, .g (.sl (wsG [1])))]) (H':=⟨[],[],[.gone (0+1)]⟩) (SlotsOk.le ⟨.inl rfl,trivial⟩) (HLe.of_eq rfl) ?_)
 (try refine uN ?_)
 refine rB ?_ ?_ ?_
 all_goals rfl
theorem expNN_1:PC Tryz.prog 152 [.nils, .nilp, .g (.sl (wsG [10])), .g (.sl (wsG [1])), .g (.sl []), .g (.bool false)] ⟨[],[],[]⟩ (.g (.sl (wsG [10]))) ⟨[],[],[]⟩:=by
 have hal1:=alias_nil (p:= .g (.sl (wsG [10])))
 have hal2:=alias_nil (p:= .g (.sl (wsG [1])))
 have hset:=set_pc (xs:=[10]) (by decide) (by decide)
 refine eN Tryz.func152 ?_
 (repeat first|refine uC ?_|(apply oR rfl rfl;focus(first|exact cb [true] rfl rfl (EN rfl) (hal1) rfl rfl rfl rfl rfl rfl rfl rfl rfl rfl rfl|exact cb [true] rfl rfl (EN rfl) (hal2) rfl rfl rfl rfl rfl rfl rfl rfl rfl rfl rfl|exact iA (g:=wG 10) rfl (EL rfl) (SZ rfl) rfl rfl (by decide) rfl rfl|exact iA (g:=wG 1) rfl (EL rfl) (SZ rfl) rfl rfl (by decide) rfl rfl|exact mO))|refine xU [12] rfl ?_)
 refine PW_cut (slots [(12, .vw 0 0 0 1 1)]) ⟨[],[],[AR 0 [10]]⟩ ?_ ?_
 ·(repeat first|refine uA ?_|(apply oR rfl rfl;focus(first|exact cd [true] rfl rfl (EN rfl) (hset) rfl rfl rfl rfl rfl rfl rfl rfl rfl rfl rfl|exact mO)))
  exact⟨SlotsOk.le ⟨.inl rfl,trivial⟩,HLe.of_eq rfl⟩
 refine PW_freeze 0 rfl (PW_weak (env':=slots [(12, .g (.sl (wsG [10])))]) (H':=⟨[],[],[.gone (0+1)]⟩) (SlotsOk.le ⟨.inl rfl,trivial⟩) (HLe.of_eq rfl) ?_)
 (try refine uN ?_)
 refine rB ?_ ?_ ?_
 all_goals rfl
theorem expNN_all{n:Nat}(hn:n<256):PC Tryz.prog 152 [.nils, .nilp, .g (.sl (wsG [10])), .g (.sl (wsG (dig n))), .g (.sl []), .g (.bool false)] ⟨[],[],[]⟩ (.g (.sl (wsG (dig (10^n))))) ⟨[],[],[]⟩:=by
 rcases(by omega:n=0∨n=1∨2≤n)with h|h|h
 ·subst h
  rw[dig_zero,Nat.pow_zero,dig_one (n:=1) (by decide) (by decide)]
  exact expNN_0
 ·subst h
  rw[Nat.pow_one,dig_one (n:=1) (by decide) (by decide),dig_one (n:=10) (by decide) (by decide)]
  exact expNN_1
 ·rw[dig_one (n:=n) (by omega) (by unfold WB;omega)]
  exact expNN_pc h hn
theorem exp_pc{n:Nat}(hn:n<256):PC Tryz.prog 122 [.ptr 0 0, .ptr 1 0, .ptr 2 0, .nilp, .g (.bool false)] ⟨[[.g (.bool false), .nils],[.g (.bool false), .g (.sl (wsG [10]))],[.g (.bool false), .g (.sl (wsG (dig n)))]],[],[]⟩ (.ptr 0 0)
  ⟨[[.g (.bool false), .g (.sl (wsG (dig (10^n))))],[.g (.bool false), .g (.sl (wsG [10]))],[.g (.bool false), .g (.sl (wsG (dig n)))]],[],[]⟩:=by
 have hc:=expNN_all hn
 generalize dig (10^n)=Z at *
 generalize dig n=ys at *
 refine eN Tryz.func122 ?_
 (repeat' first|refine uE ?_|((first|apply oR rfl rfl|(apply dF rfl rfl rfl;intro _)|(apply dP rfl rfl rfl;intro _)|(apply dL rfl rfl rfl;intro _)|apply dC rfl rfl rfl rfl);(focus(first|exact PO_pnnil rfl Tryz.underlying105 rfl rfl|exact cd [true] rfl rfl (EN rfl) (hc) rfl rfl rfl rfl rfl rfl rfl rfl rfl rfl rfl|exact mO));try exact kQ)|(refine sQ (fun h=> ?_) (fun h=> ?_)<;>fail_if_success (first|(have:true=true:=h)|(have:false=false:=h)))|fail)
 all_goals(refine rB ?_ ?_ ?_)
 all_goals rfl
theorem Exp_pc{n:Nat}(hn:n<256):PC Tryz.prog 100 [.ptr 0 0, .ptr 1 0, .ptr 2 0, .nilp] ⟨[[.g (.bool false), .nils],[.g (.bool false), .g (.sl (wsG [10]))],[.g (.bool false), .g (.sl (wsG (dig n)))]],[],[]⟩ (.ptr 0 0)
  ⟨[[.g (.bool false), .g (.sl (wsG (dig (10^n))))],[.g (.bool false), .g (.sl (wsG [10]))],[.g (.bool false), .g (.sl (wsG (dig n)))]],[],[]⟩:=by
 have hc:=exp_pc hn
 refine eN Tryz.func100 ?_
 (repeat first|refine uA ?_|(apply oR rfl rfl;focus(first|exact cd [] rfl rfl (EN rfl) (hc) rfl rfl rfl rfl rfl rfl rfl rfl rfl rfl rfl|exact mO)))
 refine rB ?_ ?_ ?_
 all_goals rfl
theorem anyArg{f:FuncId}{a p b c v:PV}{H H':PH}(h:PC Tryz.prog f [a, .any,b,c] H v H'):PC Tryz.prog f [a,p,b,c] H v H':=by
 unfold PC at h⊢
 intro cx vs hr ha
 refine h cx vs hr ⟨ha.1,fun i q u hq hu=> ?_⟩
 match i,hq with
 |0,hq=>exact ha.2 0 q u hq hu
 |1,hq=>cases hq;exact .any u
 |2,hq=>exact ha.2 2 q u hq hu
 |3,hq=>exact ha.2 3 q u hq hu
 |(_+4),hq=>simp at hq
theorem imul_nz{X Y:Nat}{p q:Bool}(hX:X≠0)(hY:Y≠0)(hm:(wsG (dig X)).length≤30)(hm2:(wsG (dig Y)).length≤30):PC Tryz.prog 99 [.ptr 0 0, .nilp, .ptr 1 0, .ptr 2 0] ⟨[[.g (.bool false), .nils],[.g (.bool p), .g (.sl (wsG (dig X)))],[.g (.bool q), .g (.sl (wsG (dig Y)))]],[],[]⟩ (.tuple [])
  ⟨[[.g (.bool (p !=q)), .g (.sl (wsG (dig (X *Y))))],[.g (.bool p), .g (.sl (wsG (dig X)))],[.g (.bool q), .g (.sl (wsG (dig Y)))]],[],[]⟩:=by
 have hc:=anyArg (p:= .nilp) (mul_g hX hY hm hm2)
 have htk:((wsG (prodW X Y)).drop 0).take (dig (X *Y)).length=wsG (dig (X *Y)):=by
  rw[List.drop_zero,wsG,←List.map_take,prodW_take]
  rfl
 have hpos:1≤(wsG (dig (X *Y))).length:=dig_len_pos (Nat.mul_ne_zero hX hY)
 generalize dig (X *Y)=zs at *
 generalize prodW X Y=pw at *
 generalize hA:dig X=xs at *
 generalize hB:dig Y=ys at *
 generalize(wsG xs).length+(wsG ys).length+4=cz at *
 refine eN Tryz.func99 ?_
 (repeat first|refine uF ?_|((first|apply oR rfl rfl|(apply dF rfl rfl rfl;intro _)|(apply dP rfl rfl rfl;intro _)|(apply dL rfl rfl rfl;intro _)|apply dC rfl rfl rfl rfl);(focus(first|exact PO_pcmp rfl Tryz.underlying105 (SZ rfl) (.inl rfl) rfl rfl rfl rfl|exact mO));try exact kQ)|refine xU [3] rfl ?_)
 refine PW_cut (slots [(0, .ptr 0 0),(2, .ptr 1 0),(3, .ptr 2 0)]) ⟨[[.g (.bool false), .vw 0 0 0 zs.length cz],[.g (.bool p), .g (.sl (wsG xs))],[.g (.bool q), .g (.sl (wsG ys))]],[],[AR 0 pw]⟩ ?_ ?_
 ·(repeat first|refine uG ?_|((first|apply oR rfl rfl|(apply dF rfl rfl rfl;intro _)|(apply dP rfl rfl rfl;intro _)|(apply dL rfl rfl rfl;intro _)|apply dC rfl rfl rfl rfl);(focus(first|exact cd [true] rfl rfl (EN rfl) (hc) rfl rfl rfl rfl rfl rfl rfl rfl rfl rfl rfl|exact mO));try exact kQ)|refine xK false false [0,1,2] rfl mixed (by decide+kernel) ?_|refine xK false true [0,1,2] rfl mixed (by decide+kernel) ?_|refine xK true false [0,1,2] rfl mixed (by decide+kernel) ?_|refine xK true true [0,1,2] rfl mixed (by decide+kernel) ?_)
  exact⟨SlotsOk.le ⟨.inl rfl, .inl rfl, .inl rfl,trivial⟩,HLe.of_eq rfl⟩
 refine PW_freeze 0 rfl (PW_weak (env':=slots [(0, .ptr 0 0),(2, .ptr 1 0),(3, .ptr 2 0)]) (H':=⟨[[.g (.bool false), .g (.sl (wsG zs))],[.g (.bool p), .g (.sl (wsG xs))],[.g (.bool q), .g (.sl (wsG ys))]],[],[.gone (0+1)]⟩) (SlotsOk.le ⟨.inl rfl, .inl rfl, .inl rfl,trivial⟩) (HLe.of_eq ?_) ?_)
 ·rw[←htk];rfl
 (repeat' first|refine uG ?_|((first|apply oR rfl rfl|(apply dF rfl rfl rfl;intro _)|(apply dP rfl rfl rfl;intro _)|(apply dL rfl rfl rfl;intro _)|apply dC rfl rfl rfl rfl);(focus(first|exact mO));try exact kQ)|refine xK false false [0,1,2] rfl mixed (by decide+kernel) ?_|refine xK false true [0,1,2] rfl mixed (by decide+kernel) ?_|refine xK true false [0,1,2] rfl mixed (by decide+kernel) ?_|refine xK true true [0,1,2] rfl mixed (by decide+kernel) ?_|(refine sQ (fun h=> ?_) (fun h=> ?_)<;>fail_if_success (first|(have:true=true:=h)|(have:false=false:=h)))|fail)
 ·refine rB ?_ ?_ ?_
  all_goals rfl
 ·exfalso;have hh:=of_decide_eq_false h;omega
theorem imul_z{X Y:Nat}{p q:Bool}(h0:X=0∨Y=0):PC Tryz.prog 99 [.ptr 0 0, .nilp, .ptr 1 0, .ptr 2 0] ⟨[[.g (.bool false), .nils],[.g (.bool p), .g (.sl (wsG (dig X)))],[.g (.bool q), .g (.sl (wsG (dig Y)))]],[],[]⟩ (.tuple [])
  ⟨[[.g (.bool false), .nils],[.g (.bool p), .g (.sl (wsG (dig X)))],[.g (.bool q), .g (.sl (wsG (dig Y)))]],[],[]⟩:=by
 have hc:=anyArg (p:= .nilp) (mul_z h0)
 generalize hA:dig X=xs at *
 generalize hB:dig Y=ys at *
 refine eN Tryz.func99 ?_
 (repeat' first|refine uG ?_|((first|apply oR rfl rfl|(apply dF rfl rfl rfl;intro _)|(apply dP rfl rfl rfl;intro _)|(apply dL rfl rfl rfl;intro _)|apply dC rfl rfl rfl rfl);(focus(first|exact cd [true] rfl rfl (EN rfl) (hc) rfl rfl rfl rfl rfl rfl rfl rfl rfl rfl rfl|exact PO_pcmp rfl Tryz.underlying105 (SZ rfl) (.inl rfl) rfl rfl rfl rfl|exact mO));try exact kQ)|refine xK false false [0,1,2] rfl mixed (by decide+kernel) ?_|refine xK false true [0,1,2] rfl mixed (by decide+kernel) ?_|refine xK true false [0,1,2] rfl mixed (by decide+kernel) ?_|refine xK true true [0,1,2] rfl mixed (by decide+kernel) ?_|(refine sQ (fun h=> ?_) (fun h=> ?_)<;>fail_if_success (first|(have:true=true:=h)|(have:false=false:=h)))|fail)
 all_goals(refine rB ?_ ?_ ?_)
 all_goals rfl
theorem mul_sign{x y:Int}(hx:x≠0)(hy:y≠0):decide (x *y<0)=(decide (x<0) !=decide (y<0)):=by
 rcases Int.lt_or_gt_of_ne hx with h1|h1<;>rcases Int.lt_or_gt_of_ne hy with h2|h2
 ·have:=Int.mul_pos_of_neg_of_neg h1 h2
  rw[decide_eq_false (by omega),decide_eq_true h1,decide_eq_true h2];rfl
 ·have:=Int.mul_neg_of_neg_of_pos h1 h2
  rw[decide_eq_true this,decide_eq_true h1,decide_eq_false (by omega)];rfl
 ·have:=Int.mul_neg_of_pos_of_neg h1 h2
  rw[decide_eq_true this,decide_eq_false (by omega),decide_eq_true h2];rfl
 ·have:=Int.mul_pos h1 h2
  rw[decide_eq_false (by omega),decide_eq_false (by omega),decide_eq_false (by omega)];rfl
theorem Mul_pc{x y:Int}(hm:(dig x.natAbs).length≤30)(hm2:(dig y.natAbs).length≤30):PC Tryz.prog 74 [.ptr 0 0, .ptr 1 0, .ptr 2 0] ⟨[[.g (.bool false), .nils],intP x,intP y],[],[]⟩ (.ptr 0 0) ⟨[intP (x *y),intP x,intP y],[],[]⟩:=by
 by_cases hx:x=0∨y=0
 ·have h0:x.natAbs=0∨y.natAbs=0:=by omega
  have hp:x *y=0:=by rcases hx with h|h<;>subst h<;>simp
  have hc:=imul_z (p:=decide (x<0)) (q:=decide (y<0)) h0
  have e0:intP (0:Int)=[.g (.bool false), .g (.sl [])]:=by unfold intP;rw[show(0:Int).natAbs=0 from rfl,dig_zero];rfl
  rw[hp]
  refine PC.post (H1:=⟨[[.g (.bool false), .nils],intP x,intP y],[],[]⟩) ?_ (show HLe _ _ ⟨[intP 0,intP x,intP y],[],[]⟩from by rw[e0];exact HLe.packbx)
  unfold intP
  generalize dig x.natAbs=xs at *
  generalize dig y.natAbs=ys at *
  generalize decide (x<0)=p at *
  generalize decide (y<0)=q at *
  refine eN Tryz.func74 ?_
  (repeat first|refine uA ?_|(apply oR rfl rfl;focus(first|exact cd [] rfl rfl (EN rfl) (hc) rfl rfl rfl rfl rfl rfl rfl rfl rfl rfl rfl|exact mO)))
  refine rB ?_ ?_ ?_
  all_goals rfl
 ·have hx1:x.natAbs≠0:=by omega
  have hy1:y.natAbs≠0:=by omega
  have hc:=imul_nz (p:=decide (x<0)) (q:=decide (y<0)) hx1 hy1 (by rw[wsG_length];exact hm) (by rw[wsG_length];exact hm2)
  unfold intP
  rw[mul_sign (by omega) (by omega),Int.natAbs_mul]
  generalize dig (x.natAbs *y.natAbs)=zs at *
  generalize dig x.natAbs=xs at *
  generalize dig y.natAbs=ys at *
  generalize decide (x<0)=p at *
  generalize decide (y<0)=q at *
  refine eN Tryz.func74 ?_
  (repeat first|refine uA ?_|(apply oR rfl rfl;focus(first|exact cd [] rfl rfl (EN rfl) (hc) rfl rfl rfl rfl rfl rfl rfl rfl rfl rfl rfl|exact mO)))
  refine rB ?_ ?_ ?_
  all_goals rfl
theorem ten_pc{n:Nat}(hn:n<256):PC Tryz.prog 75 [.g (.int .i64 n)] ⟨[],[],[]⟩ (.ptr 0 0) ⟨[intP (10^n:Nat)],[],[]⟩:=by
 have h1:=newInt_pc (z:=10) (by decide) (by decide)
 have h2:=newInt_pc (z:=(n:Int)) (by omega) (by omega)
 have h3:=Exp_pc hn
 rw[show intP (10:Int)=[.g (.bool false), .g (.sl (wsG [10]))]from by rw[show(10:Int)=((10:Nat):Int)from rfl,intP_nat,dig_one (by decide) (by decide)]]at h1
 rw[intP_nat]at h2⊢
 have hcv:IntKind.i64.wrap (n:Int)=n:=w64 (by omega)
 generalize dig (10^n)=Z at *
 generalize dig n=ys at *
 refine eN Tryz.func75 ?_
 (repeat first|refine uA ?_|(apply oR rfl rfl;focus(first|exact cb [] rfl rfl (EN rfl) (h1) rfl rfl rfl rfl rfl rfl rfl rfl rfl rfl rfl|exact cb [] rfl rfl (EN rfl) (h2) rfl rfl rfl rfl rfl rfl rfl rfl rfl rfl rfl|exact cd [] rfl rfl (EN rfl) (h3) rfl rfl rfl rfl rfl rfl rfl rfl rfl rfl rfl|exact mO)))
 refine rB ?_ ?_ ?_
 all_goals rfl
end Go.Proofs.YtdoenpeadkoklaaGreatFmtBesafter