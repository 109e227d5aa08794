/- What the program's functions compute, each shown once; and plain laws of it. -/
import Derived.Test.YtdoenpeadkoklaaGreatFmtBesafterOwnM
import Derived.Test.YtdoenpeadkoklaaGreatFmtBesafterOwnK
import Derived.Test.YtdoenpeadkoklaaGreatFmtBesafterPureD
set_option maxRecDepth 100000
set_option maxHeartbeats 32000000
namespace Go.Proofs.YtdoenpeadkoklaaGreatFmtBesafter
open Go Go.Pure
attribute [local irreducible] PW POps POpsD PO PC Cond
theorem two_digB{V:Nat}(h1:WB≤V)(h2:V<WB *WB):dig V=[V%WB,V/WB]:=by
 have h0:V/WB≠0:=by
  have:=Nat.div_pos h1 (show 0<WB by decide)
  omega
 rw[dig_pos (by unfold WB at *;omega),dig_one h0 ((Nat.div_lt_iff_lt_mul (by decide)).2 h2)]
theorem up_twoB{Y:Nat}(h1:WB≤Y)(h2:Y<WB *WB):lz (Y/WB)≤63∧WB≤2 *(Y *2^lz (Y/WB)/WB)∧Y *2^lz (Y/WB)<WB *WB:=by
 have h0:Y/WB≠0:=by
  have:=Nat.div_pos h1 (show 0<WB by decide)
  omega
 have hb:Y/WB<WB:=(Nat.div_lt_iff_lt_mul (by decide)).2 h2
 obtain⟨u1,u2,u3,u4⟩:=upW_ok h0 hb
 unfold upW at u1 u2
 have hy:=Nat.mod_add_div Y WB
 have hyl:=Nat.mod_lt Y (show 0<WB by decide)
 obtain⟨b,hbd⟩: ∃b,b=Y/WB:=⟨_,rfl⟩
 rw[←hbd]at u1 u2 u3 u4 hy⊢
 obtain⟨a,had⟩: ∃a,a=Y%WB:=⟨_,rfl⟩
 rw[←had]at hy hyl
 obtain⟨s,hs⟩: ∃s,s=lz b:=⟨_,rfl⟩
 rw[←hs]at u1 u2 u3 u4⊢
 clear hbd had hs
 have e:Y *2^s=a *2^s+WB *(b *2^s):=by rw[←hy,Nat.add_mul,Nat.mul_assoc]
 refine⟨u3, ?_, ?_⟩
 ·rw[e,Nat.add_mul_div_left _ _ (by decide)]
  generalize a *2^s/WB=q
  omega
 ·have h3:b<2^(64-s):=by
   refine Nat.lt_of_mul_lt_mul_right (a:=2^s) ?_
   rw[Nat.mul_comm (2^(64-s)),u4]
   exact u2
  have h4:(b+1) *2^s≤WB:=by
   have:=Nat.mul_le_mul_right (2^s) h3
   rwa[Nat.mul_comm (2^(64-s)),u4]at this
  have h5:Y<(b+1) *WB:=by rw[Nat.add_mul,Nat.one_mul,Nat.mul_comm b];omega
  have hp:0<2^s:=Nat.pow_pos (by decide)
  have h6:Y *2^s<(b+1) *WB *2^s:=Nat.mul_lt_mul_of_pos_right h5 hp
  have h7:(b+1) *WB *2^s≤WB *WB:=by
   rw[Nat.mul_right_comm]
   exact Nat.mul_le_mul_right _ h4
  omega
theorem restore3_pcd{g0 g1 g2:Nat}{w0 w1 w2:List Nat}:PCd Tryz.prog 146 [.ptr 0 0, .g (.int .i64 0)] ⟨[[.nilp]],[],[AR g0 w0,AR g1 w1,AR g2 w2]⟩ ⟨[[.nilp]],[],[AR g0 w0,AR g1 w1,AR g2 w2]⟩:=by
 refine PCd_of_PW Tryz.func146 rfl rfl (rs:=_) (v:= .tuple []) rfl (Nat.le_of_ble_eq_true (by kernel_rfl)) ?_
 (repeat' first|refine uA ?_|(apply oR rfl rfl;focus(first|exact PO_pnil rfl Tryz.underlying240 rfl rfl|exact mO))|(refine sQ (fun h=> ?_) (fun h=> ?_)<;>fail_if_success (first|(have:true=true:=h)|(have:false=false:=h)))|fail)
 all_goals(refine rB ?_ ?_ ?_;all_goals rfl)
theorem divLarge_two{X Y:Nat}(hY1:WB≤Y)(hY2:Y<WB *WB)(hXY:Y≤X)(hm:(dig X).length≤800):
  ∃WQ cQ WR cR,ZOk WQ cQ (X/Y)∧ZOk WR cR (X%Y)∧((dig (X/Y)).length≤1∨(dig (X/Y)).length+1≤cQ)∧PC Tryz.prog 155 [.nils, .ptr 0 0, .nils, .g (.sl (wsG (dig X))), .g (.sl (wsG (dig Y)))] ⟨[[.nilp]],[],[]⟩ (.tuple [.vw 0 1 0 (dig (X/Y)).length cQ, .vw 1 0 0 (dig (X%Y)).length cR]) ⟨[[.nilp]],[],[AR 1 WQ,AR 0 WR]⟩:=by
 obtain⟨ks,kb,kV⟩:=up_twoB hY1 hY2
 have hb0:Y/WB≠0:=by have:=Nat.div_pos hY1 (show 0<WB by decide);omega
 have hb1:Y/WB<WB:=(Nat.div_lt_iff_lt_mul (by decide)).2 hY2
 have ha1:Y%WB<WB:=Nat.mod_lt _ (by decide)
 have hYd:=two_digB hY1 hY2
 obtain⟨lb1,lb2,_,_⟩:=bitLen_ok hb0 hb1
 have hnl:=nlz_pc (x:=Y/WB) hb1 lb2
 rw[show 64-Lib.bitLen (Y/WB)=lz (Y/WB)from rfl]at hnl
 obtain⟨s,hs⟩: ∃s,s=lz (Y/WB):=⟨_,rfl⟩
 rw[←hs]at ks kb kV hnl
 have hpow:0<2^s:=Nat.pow_pos (by decide)
 obtain⟨L,hL⟩: ∃L,L=(dig X).length:=⟨_,rfl⟩
 have hwl:L=(wsG (dig X)).length:=by rw[wsG_length,hL]
 have hXL:X<WB^L:=by have:=val_lt (okW_dig X);rwa[val_dig,←hL]at this
 have hL2:2≤L:=by
  refine Classical.byContradiction fun hc=> ?_
  have h2:WB^L≤WB^1:=Nat.pow_le_pow_right (by decide) (by omega)
  rw[Nat.pow_one]at h2
  omega
 obtain⟨m,hmL⟩: ∃m,L=m+1:=⟨L-1,by omega⟩
 have hYp:0<Y:=Nat.lt_of_lt_of_le (by decide) hY1
 obtain⟨V,hV⟩: ∃V,V=Y *2^s:=⟨_,rfl⟩
 obtain⟨Z,hZ⟩: ∃Z,Z=X *2^s:=⟨_,rfl⟩
 rw[←hV]at kb kV
 have hVp:0<V:=by rw[hV];exact Nat.mul_pos hYp hpow
 have f1:Z/V=X/Y:=by rw[hZ,hV];exact Nat.mul_div_mul_right X Y hpow
 have f2:Z%V=X%Y *2^s:=by rw[hZ,hV,Nat.mul_mod_mul_right]
 have hV0:V%WB<WB:=Nat.mod_lt _ (by decide)
 have hV1:V/WB<WB:=(Nat.div_lt_iff_lt_mul (by decide)).2 kV
 have hZL:Z<WB^L *2^s:=by rw[hZ];exact Nat.mul_lt_mul_of_pos_right hXL hpow
 have hpow63:2^s≤2^63:=Nat.pow_le_pow_right (by decide) ks
 have hZ1:Z<WB^(L+1):=Nat.lt_of_lt_of_le hZL (by rw[Nat.pow_succ];exact Nat.mul_le_mul_left _ (Nat.le_trans hpow63 (by decide)))
 have hQL:X/Y<WB^m:=by
  refine(Nat.div_lt_iff_lt_mul hYp).2 (Nat.lt_of_lt_of_le hXL ?_)
  rw[hmL,Nat.pow_succ]
  exact Nat.mul_le_mul_left _ hY1
 have hRL:X%Y<WB^(L+1):=by
  have h1:=Nat.mod_lt X hYp
  have h2:WB^2≤WB^(L+1):=Nat.pow_le_pow_right (by decide) (by omega)
  rw[show WB^2=WB *WB by decide]at h2
  omega
 have hRVL:Z%V<WB^(L+1):=Nat.lt_of_le_of_lt (Nat.mod_le _ _) hZ1
 have hcap:=capN_le (L+1)
 have hcapm:=capN_le m
 have hro:=rok_new (L+1) (by omega) (by omega)
 have hrom:=rok_new m (by omega) (by omega)
 have hroom:(dig (X/Y)).length≤1∨(dig (X/Y)).length+1≤capN m:=by
  have h1:=dig_length_le hQL
  unfold capN
  split<;>omega
 refine⟨_,_,_,_,ZOk.padded hrom hQL hcapm,ZOk.padded hro hRL hcap,hroom, ?_⟩
 clear hroom
 obtain⟨Z0,hZ0⟩: ∃z,z=List.replicate (capN (L+1)) 0:=⟨_,rfl⟩
 obtain⟨Q0,hQ0⟩: ∃z,z=List.replicate (capN m) 0:=⟨_,rfl⟩
 have hZ0l:Z0.length=capN (L+1):=by rw[hZ0,List.length_replicate]
 have hQ0l:Q0.length=capN m:=by rw[hQ0,List.length_replicate]
 have hmk:=make_nil (n:=L+1) (by omega) (by omega)
 have hmkq:=make_nil (n:=m) (by omega) (by omega)
 rw[←hZ0]at hmk hro⊢
 rw[←hQ0]at hmkq hrom⊢
 have hpZ:=padD_length (L+1) Z
 have hpR:=padD_length (L+1) (Z%V)
 have hpX:=padD_length (L+1) (X%Y)
 have hpQ:=padD_length m (Z/V)
 -- the top word of what is divided
 obtain⟨tp,htp⟩: ∃t,t=(padD (L+1) Z)[m+1]'(by omega):=⟨_,rfl⟩
 have htg:(padD (L+1) Z)[m+1]? =some tp:=by rw[htp];exact List.getElem?_eq_getElem _
 have htv:tp<V/WB:=by
  have h1:val (padD (L+1) Z)=Z:=val_padD hZ1
  have h2:=val_append ((padD (L+1) Z).take (m+1)) ((padD (L+1) Z).drop (m+1))
  rw[List.take_append_drop,h1,List.length_take,Nat.min_eq_left (by omega),val_dropB htg,List.drop_of_length_le (by omega),val_nil,Nat.mul_zero]at h2
  simp only[Nat.add_zero]at h2
  have h3:WB^(m+1) *tp<WB^(m+1) *2^s:=by rw[←hmL]at h2⊢;omega
  have h4:=Nat.lt_of_mul_lt_mul_left h3
  have:(2:Nat)^63 *2=WB:=by decide
  omega
 clear htp
 have hdb:=fun(C:Nat) (T:List Nat) (hT:T.length=C) (hC:2≤C)=>divBasic_two (gq:=0) (cq:=capN m) (gu:=0) (cu:=capN (L+1)) (gv:=0) (cv:=C) (m:=m) (v0:=V%WB) (v1:=V/WB) (tp:=tp) (wq:=Q0) (wu:=putL Z0 0 (padD (L+1) Z)) (wv:=putL T 0 [V%WB,V/WB]) (U:=padD (L+1) Z)
  (by rw[show m+2=L+1 by omega];have:=part0 (ws:=Z0) hpZ;rwa[List.drop_zero]at this) (by rw[putL_length (by omega),hZ0l];omega) (putL_ok 0 hro.ok (padD_ok _ _)) (by rw[show m+2=L+1 by omega];exact hcap) (by have:=part0 (ws:=T) (us:=[V%WB,V/WB]) (k:=2) rfl;rwa[List.drop_zero]at this) (by rw[putL_length (by show 0+2≤_;omega)];omega) hV0 hV1 kb htg htv (by omega) (by omega)
 have hVe:V%WB+WB *(V/WB)=V:=Nat.mod_add_div V WB
 rw[hVe]at hdb
 have hpp:putL (putL Z0 0 (padD (L+1) Z)) 0 (padD (L+1) (Z%V))=putL Z0 0 (padD (L+1) (Z%V)):=putL_putL (by omega) (by omega)
 have hvZ:val (padD (L+1) Z)=Z:=val_padD hZ1
 rw[hvZ,show m+2=L+1 by omega,hpp,f1]at hdb
 have hnq:=norm_pc (g:=0) (o:=0) (n:=m) (cap:=capN m) (ws:=putL Q0 0 (padD m (X/Y))) (l:=padD m (X/Y)) (part0 (padD_length _ _)) (by rw[putL_length (by rw[padD_length];omega),hQ0l];omega) hcapm (by unfold maxLen;omega)
 rw[nlen_padD hQL]at hnq
 have hnr:=norm_pc (g:=0) (o:=0) (n:=L+1) (cap:=capN (L+1)) (ws:=putL Z0 0 (padD (L+1) (X%Y))) (l:=padD (L+1) (X%Y)) (part0 hpX) (by rw[putL_length (by rw[hpX];omega),hZ0l];omega) hcap (by unfold maxLen;omega)
 rw[nlen_padD hRL]at hnr
 have hsv:=save_pc
 have hsn:= @stackNat_pcx 2 (by decide) (by decide)
 -- what stands ahead of the division
 have hxo:=okW_dig X
 have hxv:=val_dig X
 have hYv:=val_dig Y
 have hYo:=okW_dig Y
 rw[hYd]at hYv hYo⊢
 obtain⟨b0,hb0d⟩: ∃b,b=Y%WB:=⟨_,rfl⟩
 obtain⟨b1,hb1d⟩: ∃b,b=Y/WB:=⟨_,rfl⟩
 obtain⟨v0,hv0d⟩: ∃b,b=V%WB:=⟨_,rfl⟩
 obtain⟨v1,hv1d⟩: ∃b,b=V/WB:=⟨_,rfl⟩
 have hdgV:V<WB *WB:=kV
 have hrow0:s=0→[b0,b1]=[v0,v1]∧dig X++[0]=padD (L+1) Z:=fun h=>by
  have hVY:V=Y:=by rw[hV,h,Nat.pow_zero,Nat.mul_one]
  have hZX:Z=X:=by rw[hZ,h,Nat.pow_zero,Nat.mul_one]
  refine⟨by rw[hb0d,hb1d,hv0d,hv1d,hVY], ?_⟩
  refine val_inj (okW_append.2 ⟨okW_dig X,okW_cons.2 ⟨by decide,okW_nil⟩⟩) (padD_ok _ _) (by rw[List.length_append,padD_length,←hL];rfl) ?_
  rw[val_padD hZ1,val_append,val_dig,val_cons,val_nil,hZX]
  simp
 have hrow1:s<64→upR [b0,b1] s=[v0,v1]∧upR (dig X) s++[upC (dig X) s]=padD (L+1) Z:=fun h=>by
  constructor
  ·have h1:=up_pad (l:=[b0,b1]) (s:=s) (by rw[hb0d,hb1d];exact hYo) h
   have h2:val [b0,b1] *2^s=V:=by rw[hV,hb0d,hb1d,hYv]
   rw[h2]at h1
   have h3:=congrArg (List.take 2) h1
   rw[List.take_append_of_le_length (by rw[upR_length];exact Nat.le_refl _),List.take_of_length_le (by rw[upR_length];exact Nat.le_refl _)]at h3
   rw[h3,hv0d,hv1d]
   show [V%WB,V/WB%WB]=_
   rw[Nat.mod_eq_of_lt hV1]
  ·have h1:=up_pad (l:=dig X) (s:=s) (okW_dig X) h
   rwa[hxv,←hZ,←hL]at h1
 have hdn:s<64→downR (padD (L+1) (Z%V)) s=padD (L+1) (X%Y):=fun h=>by
  rw[down_pad (padD_ok _ _) (Nat.le_of_lt h),hpR,val_padD hRVL,f2,Nat.mul_div_cancel _ hpow]
 have hdn0:s=0→Z%V=X%Y:=fun h=>by rw[f2,h,Nat.pow_zero,Nat.mul_one]
 have hb0w:b0<WB:=by rw[hb0d];exact ha1
 have hb1w:b1<WB:=by rw[hb1d];exact hb1
 rw[←hb0d,←hb1d]
 rw[←hb1d]at hnl
 rw[←hv0d,←hv1d]at hdb
 clear hYv hYo hYd hb0d hb1d
 obtain⟨NQ,hNQ⟩: ∃n,n=(dig (X/Y)).length:=⟨_,rfl⟩
 obtain⟨NR,hNR⟩: ∃n,n=(dig (X%Y)).length:=⟨_,rfl⟩
 rw[←hNQ]at hnq⊢
 rw[←hNR]at hnr⊢
 obtain⟨PQ,hPQ⟩: ∃n,n=padD m (X/Y):=⟨_,rfl⟩
 obtain⟨PR,hPR⟩: ∃n,n=padD (L+1) (X%Y):=⟨_,rfl⟩
 obtain⟨PS,hPS⟩: ∃n,n=padD (L+1) (Z%V):=⟨_,rfl⟩
 obtain⟨PZ,hPZ⟩: ∃n,n=padD (L+1) Z:=⟨_,rfl⟩
 rw[←hPZ]at hrow0 hrow1 hpp hdb
 rw[←hPS]at hdn hpp hdb
 rw[←hPR]at hdn hnr⊢
 rw[←hPQ]at hdb hnq⊢
 have hPSo:okW PS:=by rw[hPS];exact padD_ok _ _
 have hPSl:PS.length=L+1:=by rw[hPS];exact hpR
 have hPRl:PR.length=L+1:=by rw[hPR];exact hpX
 have hPSR:s=0→PS=PR:=fun h=>by rw[hPS,hPR,hdn0 h]
 have hal:=alias_nilv (m:=AR 0 (putL Z0 0 PZ)) (g:=0) (o:=0) (n:=L+1) (c:=capN (L+1))
 obtain⟨cu,hcu⟩: ∃c,c=capN (L+1):=⟨_,rfl⟩
 obtain⟨cq,hcq⟩: ∃c,c=capN m:=⟨_,rfl⟩
 rw[←hcu]at hmk hdb hnr hal hcap hZ0l⊢
 rw[←hcq]at hmkq hdb hnq⊢
 have hl1:IntKind.i64.wrap ((L:Int)+1)=((L+1:Nat):Int):=by rw[w64 (by omega)];omega
 have hm1:IntKind.i64.wrap (IntKind.i64.wrap ((L:Int)-2)+1)=((m:Nat):Int):=by rw[w64 (n:=(L:Int)-2) (by omega),w64 (by omega)];omega
 rw[←hl1]at hmk
 rw[←hm1]at hmkq
 clear hpX hpR hpZ hpQ htg htv hrom hro hcapm hQ0l hVe hvZ hRVL hRL hQL hZ1 hpow63 hZL f1 f2 hZ0 hQ0 hNQ hNR hPQ hPR hPS hPZ hdn0 hcu hcq hV hZ kV kb hdgV hV0 hV1 hVp hYp hXL hb0 hb1 ha1 lb1 lb2 hXY hxv hs
 obtain⟨xs,hxs⟩: ∃l,l=dig X:=⟨_,rfl⟩
 rw[←hxs]at hrow0 hrow1 hL hwl hxo hm⊢
 clear hxs
 subst hwl
 refine PC_of_PM Tryz.func155 rfl rfl (rs:=_) rfl (Nat.le_of_ble_eq_true (by kernel_rfl)) ?_
 repeat((repeat refine PM_seq ?_);first|refine PM_cond_f rfl ?_|refine PM_cond_t rfl ?_|refine PM_skip ?_|(refine PM_pw ?_;(try refine uN ?_);refine Or.inl (And.intro rfl ?_)))
 refine PM_seq ?_
 refine PM_defer (l:=[_,_,_]) rfl rfl rfl (by intro t h;cases h) ?_
 (repeat first|refine uA ?_|(apply oR rfl rfl;focus(first|exact cb [] rfl rfl (EN rfl) (hsv) rfl rfl rfl rfl rfl rfl rfl rfl rfl rfl rfl|exact mO)))
 refine⟨_,rfl, ?_⟩
 refine PM_pw ?_
 (repeat first|refine uC ?_|(apply oR rfl rfl;focus(first|exact iA (g:=wG b1) rfl (EL rfl) (SZ rfl) rfl rfl (show(0:Int)≤IntKind.i64.wrap (2-1) by decide) rfl rfl|exact cqP hnl|exact mO))|refine xU [5] rfl ?_)
 refine PW_seq ?_
 refine PW_region_x (l1:=[_,_]) (l2:=[_]) rfl (fun t h=>by cases h;decide) ?_
 (try refine uN ?_)
 refine⟨_,POx_call [] rfl rfl ENsnat rfl (PCx_at hsn [0] [] [] rfl rfl rfl rfl rfl), ?_⟩
 rintro v H' ⟨v0',H0,⟨C,c1,c2,rfl,rfl⟩,rfl,rfl⟩
 have hT:=stW_length C
 have hdb:=hdb C (stW C) hT c1
 generalize stW C=T at *
 clear hsv hsn
 (repeat first|refine uC ?_|(apply oR rfl rfl;focus(first|exact cd [true] rfl rfl (EN rfl) (hmk) rfl rfl rfl rfl rfl rfl rfl rfl rfl rfl rfl|exact mO))|refine xU [7] rfl ?_)
 refine PW_cut (slots [(0, .nils),(1, .ptr 0 0),(2, .vw 1 0 0 ((wsG xs).length+1) cu),(3, .g (.sl (wsG xs))),(12, .g (.int .i64 2)),(13, .g (.int .i64 (IntKind.i64.wrap (((wsG xs).length:Int)-2)))),(14, .g (wG s)),(15, .vw 0 0 0 2 C)]) ⟨[[.nilp]],[],[AR 0 (putL T 0 [v0,v1]),AR 0 (putL Z0 0 PZ)]⟩ ?_ ?_
 ·by_cases hs0:s=0
  ·obtain⟨r1,r2⟩:=hrow0 hs0
   have hput1:putAt (wsG T) 0 ((wsG [b0,b1]).take 2)=wsG (putL T 0 [v0,v1]):=by
    rw[r1]
    unfold putAt putL wsG
    simp
   have hput2:putAt (wsG Z0) 0 ((wsG xs).take (wsG xs).length)=wsG (putL Z0 0 xs):=by
    rw[List.take_length]
    unfold putAt putL wsG
    simp
   have hz0:(wsG (putL Z0 0 xs))[0+(wsG xs).length]? =some (wG ((putL Z0 0 xs)[(wsG xs).length]'(by rw[putL_length (by omega)];omega))):=wsG_get (by rw[Nat.zero_add];exact List.getElem?_eq_getElem _)
   have hf0:(putL Z0 0 xs).set (0+(wsG xs).length) 0=putL Z0 0 PZ:=by
    rw[set_putL hL.symm (by omega),r2]
   generalize(putL Z0 0 xs)[(wsG xs).length]'_=z at hz0
   subst hs0
   (repeat first|refine uA ?_|(apply oR rfl rfl;focus(first|exact PO_asH (PO_vcopy (ys:=wsG [b0,b1]) rfl (EL rfl) (SZ rfl) (SZ rfl) rfl rfl rfl (fun _ _ _ _ _ e=>by cases e) wsG_cells (by rw[wsG_length];omega)) (congrArg (fun l=>(⟨[[.nilp]],[],[MO.arr 0 WT l,AR 0 Z0]⟩:PH)) hput1)|exact vcut (wsG xs).length rfl (EL rfl) (SZ rfl) rfl rfl rfl rfl rfl (by omega)|exact PO_asH (PO_vcopy (ys:=wsG xs) rfl (EL rfl) (SZ rfl) (SZ rfl) rfl rfl rfl (fun _ _ _ _ _ e=>by cases e) wsG_cells (by rw[wsG_length Z0];omega)) (congrArg (fun l=>(⟨[[.nilp]],[],[AR 0 (putL T 0 [v0,v1]),MO.arr 0 WT l]⟩:PH)) hput2)|exact PO_vindex (wsG xs).length rfl (EL rfl) (SZ rfl) rfl rfl rfl (by omega)|exact PO_asH (PO_store_mref rfl (SZ rfl) rfl rfl rfl rfl (by decide) rfl hz0 (Nat.le_refl _)) (congrArg (fun l=>(⟨[[.nilp]],[],[AR 0 (putL T 0 [v0,v1]),MO.arr 0 WT l]⟩:PH)) (wsG_set.trans (congrArg wsG hf0)))|exact mO)))
   exact⟨SlotsOk.le ⟨.inl rfl, .inl rfl, .inl rfl, .inl rfl, .inl rfl, .inl rfl, .inl rfl, .inl rfl,trivial⟩,HLe.of_eq rfl⟩
  ·obtain⟨r1,r2⟩:=hrow1 (by omega)
   have hlv:=lsh_pc (g:=0) (cap:=C) (s:=s) (ws:=T) (xs:=[b0,b1]) (okW_cons.2 ⟨hb0w,okW_cons.2 ⟨hb1w,okW_nil⟩⟩) (by show 1≤2;decide) (by rw[hT];exact c1) (by show 2≤100000;decide) (by omega) (by omega)
   have hlx:=lsh_pc (g:=0) (cap:=cu) (s:=s) (ws:=Z0) (xs:=xs) hxo (by omega) (by omega) (by omega) (by omega) (by omega)
   rw[r1]at hlv
   have hul:=upR_length xs s
   have hz0:(wsG (putL Z0 0 (upR xs s)))[0+(wsG xs).length]? =some (wG ((putL Z0 0 (upR xs s))[(wsG xs).length]'(by rw[putL_length (by omega)];omega))):=wsG_get (by rw[Nat.zero_add];exact List.getElem?_eq_getElem _)
   have hf0:(putL Z0 0 (upR xs s)).set (0+(wsG xs).length) (upC xs s)=putL Z0 0 PZ:=by
    rw[set_putL (by omega) (by omega),r2]
   generalize(putL Z0 0 (upR xs s))[(wsG xs).length]'_=z at hz0
   generalize upC [b0,b1] s=cc at hlv
   generalize upC xs s=cx at hlx hf0
   generalize upR xs s=ux at *
   have hsz:((s:Int)==0)=false:=beq_eq_false_iff_ne.2 (by omega)
   (try refine uN ?_)
   refine sQ (fun h=> ?_) fun h=> ?_
   ·exfalso;rw[hsz]at h;cases h
   clear h
   (repeat first|refine uA ?_|(apply oR rfl rfl;focus(first|exact ct [] rfl rfl tw_lsh (hlv) rfl rfl rfl rfl rfl rfl rfl rfl rfl rfl rfl|exact vcut (wsG xs).length rfl (EL rfl) (SZ rfl) rfl rfl rfl rfl rfl (by omega)|exact ct [] rfl rfl tw_lsh (hlx) rfl rfl rfl rfl rfl rfl rfl rfl rfl rfl rfl|exact PO_vindex (wsG xs).length rfl (EL rfl) (SZ rfl) rfl rfl rfl (by omega)|exact PO_asH (PO_store_mref rfl (SZ rfl) rfl rfl rfl rfl (by decide) rfl hz0 (Nat.le_refl _)) (congrArg (fun l=>(⟨[[.nilp]],[],[AR 0 (putL T 0 [v0,v1]),MO.arr 0 WT l]⟩:PH)) (wsG_set.trans (congrArg wsG hf0)))|exact mO)))
   exact⟨SlotsOk.le ⟨.inl rfl, .inl rfl, .inl rfl, .inl rfl, .inl rfl, .inl rfl, .inl rfl, .inl rfl,trivial⟩,HLe.of_eq rfl⟩
 clear hrow0 hrow1 hmk hnl
 have hT1:(putL T 0 [v0,v1]).length=T.length:=putL_length (by show 0+2≤_;omega)
 generalize putL T 0 [v0,v1]=T1 at *
 obtain⟨A1,hA1⟩: ∃l,l=putL Z0 0 PZ:=⟨_,rfl⟩
 obtain⟨A2,hA2⟩: ∃l,l=putL Z0 0 PS:=⟨_,rfl⟩
 obtain⟨A3,hA3⟩: ∃l,l=putL Z0 0 PR:=⟨_,rfl⟩
 obtain⟨A4,hA4⟩: ∃l,l=putL Q0 0 PQ:=⟨_,rfl⟩
 rw[←hA1]at hal hdb⊢
 rw[←hA2]at hdb
 rw[←hA3]at hnr⊢
 rw[←hA4]at hdb hnq⊢
 (repeat first|refine uC ?_|(apply oR rfl rfl;focus(first|exact cb [true] rfl rfl (EN rfl) (hal) rfl rfl rfl rfl rfl rfl rfl rfl rfl rfl rfl|exact cd [true] rfl rfl (EN rfl) (hmkq) rfl rfl rfl rfl rfl rfl rfl rfl rfl rfl rfl|exact PO_loadg rfl (AG rfl) rfl rfl|exact cd [] rfl rfl (EN rfl) (hdb) rfl rfl rfl rfl rfl rfl rfl rfl rfl rfl rfl|exact cd [] rfl rfl (EN rfl) (hnq) rfl rfl rfl rfl rfl rfl rfl rfl rfl rfl rfl|exact mO))|refine xU [20] rfl ?_)
 refine PW_cut (slots [(2, .vw 1 0 0 ((wsG xs).length+1) cu),(10, .vw 2 0 0 NQ cq)]) ⟨[[.nilp]],[],[AR 0 T1,AR 0 A3,AR 0 A4]⟩ ?_ ?_
 ·by_cases hs0:s=0
  ·have e:A2=A3:=by rw[hA2,hA3,hPSR hs0]
   subst hs0
   rw[e]
   (try refine uN ?_)
   exact⟨SlotsOk.le ⟨.inl rfl, .inl rfl,trivial⟩,HLe.of_eq rfl⟩
  ·have hsz:((s:Int) !=0)=true:=bne_iff_ne.2 (by omega)
   have hx0:PS[0]? =some (PS[0]'(by omega)):=List.getElem?_eq_getElem (by omega)
   have hA2l:A2.length=cu:=by rw[hA2,putL_length (by omega),hZ0l]
   have hrs:=rsh_pc (g:=0) (n:=(wsG xs).length+1) (cap:=cu) (s:=s) (ws:=A2) (xs:=PS) hPSo (by have:=part0 (ws:=Z0) hPSl;rw[List.drop_zero]at this;rw[hA2];exact this) (by omega) (by omega) (by omega) (by omega) (by omega) hx0
   generalize PS[0]'_=x0 at hrs
   have e:putL A2 0 (downR PS s)=A3:=by
    rw[hdn (by omega),hA2,hA3,putL_putL (by omega) (by omega)]
   rw[e]at hrs
   generalize x0 *2^(64-s)%WB=cc at hrs
   (try refine uN ?_)
   refine sQ (fun h=> ?_) fun h=> ?_
   ·clear h
    (repeat first|refine uA ?_|(apply oR rfl rfl;focus(first|exact ct [] rfl rfl tw_rsh (hrs) rfl rfl rfl rfl rfl rfl rfl rfl rfl rfl rfl|exact mO)))
    exact⟨SlotsOk.le ⟨.inl rfl, .inl rfl,trivial⟩,HLe.of_eq rfl⟩
   ·exfalso;rw[hsz]at h;cases h
 have hr:= @restore3_pcd 1 0 1 A4 A3 T1
 refine PW_swap 0 2 rfl rfl rfl (SZ rfl) (SZ rfl) ?_
 refine PW_weak (env':=slots [(2, .vw 1 0 0 ((wsG xs).length+1) cu),(10, .vw 0 1 0 NQ cq)]) (H':=⟨[[.nilp]],[],[AR 1 A4,AR 0 A3,AR 1 T1]⟩) (SlotsOk.le ⟨.inl rfl, .inl rfl,trivial⟩) (HLe.of_eq rfl) ?_
 (repeat first|refine uA ?_|(apply oR rfl rfl;focus(first|exact cd [] rfl rfl (EN rfl) (hnr) rfl rfl rfl rfl rfl rfl rfl rfl rfl rfl rfl|exact mO)))
 refine Or.inr (And.intro rfl ⟨_,EN rfl,hr, ?_⟩)
 refine rB ?_ ?_ ?_
 all_goals rfl
theorem free2_pcd{g0 g1:Nat}{w0 w1:List Nat}:PCd Tryz.prog 142 [.ptr 0 0] ⟨[[.nilp]],[],[AR g0 w0,AR g1 w1]⟩ ⟨[[.nilp]],[],[AR g0 w0,AR g1 w1]⟩:=by
 refine PCd_of_PW Tryz.func142 rfl rfl (rs:=_) (v:= .tuple []) rfl (Nat.le_of_ble_eq_true (by kernel_rfl)) ?_
 (repeat' first|refine uA ?_|(apply oR rfl rfl;focus(first|exact PO_pnnil rfl Tryz.underlying240 rfl rfl|exact mO))|(refine sQ (fun h=> ?_) (fun h=> ?_)<;>fail_if_success (first|(have:true=true:=h)|(have:false=false:=h)))|fail)
 all_goals(refine rB ?_ ?_ ?_;all_goals rfl)
theorem make_0:PC Tryz.prog 119 [.nils, .g (.int .i64 0)] ⟨[],[],[]⟩ .nils ⟨[],[],[]⟩:=by
 refine eN Tryz.func119 ?_
 (repeat first|refine uA ?_|(apply oR rfl rfl;focus(first|exact PO_ncap rfl (EL rfl) rfl|exact PO_nslice rfl (EL rfl) (SZ rfl) rfl rfl rfl rfl rfl|exact mO)))
 refine rB ?_ ?_ ?_
 all_goals rfl
theorem set_0:PC Tryz.prog 98 [.nils, .g (.sl [])] ⟨[],[],[]⟩ .nils ⟨[],[],[]⟩:=by
 have hm:=make_0
 refine eN Tryz.func98 ?_
 (repeat first|refine uA ?_|(apply oR rfl rfl;focus(first|exact cb [true] rfl rfl (EN rfl) (hm) rfl rfl rfl rfl rfl rfl rfl rfl rfl rfl rfl|exact PO_ncopy (ys:=[]) rfl (EL rfl) (SZ rfl) rfl rfl (fun _ _ _ _ _ e=>by cases e) (by simp)|exact mO)))
 refine rB ?_ ?_ ?_
 all_goals rfl
theorem divW_0{y:Nat}(h0:y≠0):PC Tryz.prog 153 [.nils, .g (.sl []), .g (wG y)] ⟨[],[],[]⟩ (.tuple [.nils, .g (wG 0)]) ⟨[],[],[]⟩:=by
 have hs:=set_0
 have k0:(((y:Nat):Int)==0)=false:=beq_eq_false_iff_ne.2 (by omega)
 refine eN Tryz.func153 ?_
 (try refine uN ?_)
 refine sQ (fun h=> ?_) fun h=> ?_
 ·exfalso;rw[k0]at h;cases h
 clear h
 (try refine uN ?_)
 refine sQ (fun h=> ?_) fun h=> ?_
 ·clear h
  (repeat first|refine uA ?_|(apply oR rfl rfl;focus(first|exact cb [true] rfl rfl (EN rfl) (hs) rfl rfl rfl rfl rfl rfl rfl rfl rfl rfl rfl|exact mO)))
  refine rB ?_ ?_ ?_
  all_goals rfl
 ·clear h
  (repeat first|refine uA ?_|(apply oR rfl rfl;focus(first|exact PO_nslice rfl (EL rfl) (SZ rfl) rfl rfl rfl rfl rfl|exact mO)))
  refine rB ?_ ?_ ?_
  all_goals rfl
theorem divW_room{X y:Nat}(hX:X≠0)(h0:y≠0)(hy:y<WB)(hm:(wsG (dig X)).length≤900): ∃W cap,ZOk W cap (X/y)∧((dig (X/y)).length≤1∨(dig (X/y)).length+1≤cap)∧PC Tryz.prog 153 [.nils, .g (.sl (wsG (dig X))), .g (wG y)] ⟨[],[],[]⟩ (.tuple [.vw 0 0 0 (dig (X/y)).length cap, .g (wG (X%y))]) ⟨[],[],[AR 0 W]⟩:=by
 have h1:=dig_len_pos hX
 have hl:=wsG_length (dig X)
 have hXl:X<WB^(wsG (dig X)).length:=by have:=val_lt (okW_dig X);rwa[val_dig,←hl]at this
 have hroom:(dig (X/y)).length≤1∨(dig (X/y)).length+1≤capN (wsG (dig X)).length:=by
  have h2:=dig_length_le (Nat.lt_of_le_of_lt (Nat.div_le_self X y) hXl)
  unfold capN
  split<;>omega
 by_cases hy1:y=1
 ·subst hy1
  rw[Nat.div_one]at hroom
  rw[Nat.div_one,Nat.mod_one]
  have hr:=rok_new (wsG (dig X)).length h1 hm
  have hc:=capN_le (dig X).length
  rw[hl]at hr hroom
  exact⟨_,_,⟨okW_append.2 ⟨okW_dig X,okW_rep _⟩,by rw[List.take_append_of_le_length (Nat.le_refl _),List.take_of_length_le (Nat.le_refl _)],hc,by rw[List.length_append,List.length_replicate];omega,hr.cm,hr.c1⟩,hroom,divW_one (by omega) (by omega)⟩
 ·exact⟨_,_,ZOk.padded (rok_new _ h1 hm) (Nat.lt_of_le_of_lt (Nat.div_le_self _ _) hXl) (capN_le _),hroom,divW_two hX h0 hy1 hy hm⟩
inductive DivR(X Y:Nat):PV→PV→List MO→Prop
 |zero:X/Y=0→X%Y=0→DivR X Y .nils .nils []
 |low {g c:Nat} {W:List Nat}:X/Y=0→X%Y≠0→ZOk W c (X%Y)→DivR X Y .nils (.vw 0 g 0 (dig (X%Y)).length c) [AR g W]
 |exact{g c:Nat} {W:List Nat}:X%Y=0→ZOk W c (X/Y)→DivR X Y (.vw 0 g 0 (dig (X/Y)).length c) .nils [AR g W]
 |both {g1 g2 c1 c2:Nat} {W1 W2:List Nat}:X≠0→ZOk W1 c1 (X/Y)→ZOk W2 c2 (X%Y)→((dig (X/Y)).length≤1∨(dig (X/Y)).length+1≤c1)→DivR X Y (.vw 0 g1 0 (dig (X/Y)).length c1) (.vw 1 g2 0 (dig (X%Y)).length c2) [AR g1 W1,AR g2 W2]
theorem ZOk.set{X:Nat}(h:X≠0)(hm:(dig X).length≤900):ZOk (dig X++List.replicate (capN (dig X).length-(dig X).length) 0) (capN (dig X).length) X:=by
 have h1:=dig_len_pos h
 rw[wsG_length]at h1
 have hc:=capN_le (dig X).length
 have hr:=rok_new (dig X).length h1 hm
 exact⟨okW_append.2 ⟨okW_dig X,okW_rep _⟩,by rw[List.take_append_of_le_length (Nat.le_refl _),List.take_of_length_le (Nat.le_refl _)],hc,by rw[List.length_append,List.length_replicate];omega,hr.cm,hr.c1⟩
theorem ZOk.word{x:Nat}(h:x≠0)(hx:x<WB):ZOk [x] 1 x:=by
 have e:=dig_one h hx
 exact⟨okW_cons.2 ⟨hx,okW_nil⟩,by rw[e];rfl,by rw[e];exact Nat.le_refl _,Nat.le_refl _,by decide,Nat.le_refl _⟩
theorem ndiv_rows1{X y:Nat}(h0:y≠0)(hy:y<WB)(hm:(dig X).length≤800): ∃vq vr M,DivR X y vq vr M∧PC Tryz.prog 123 [.nils, .nilp, .nils, .g (.sl (wsG (dig X))), .g (.sl (wsG (dig y)))] ⟨[],[],[]⟩ (.tuple [vq,vr]) ⟨[],[],M⟩:=by
 rw[dig_one h0 hy]
 by_cases hX:X=0
 ·subst hX
  rw[dig_zero]
  refine⟨_,_,_, .zero (Nat.zero_div y) (Nat.zero_mod y), ?_⟩
  have hd:=divW_0 h0
  have hw:=setWord_0
  refine PC_of_PM Tryz.func123 rfl rfl (rs:=_) rfl (Nat.le_of_ble_eq_true (by kernel_rfl)) ?_
  repeat((repeat refine PM_seq ?_);first|refine PM_cond_f rfl ?_|refine PM_skip ?_|(refine PM_pw ?_;(try refine uN ?_);refine Or.inl (And.intro rfl ?_)))
  refine PM_cond_t rfl ?_
  refine PM_pw ?_
  (repeat first|refine uA ?_|(apply oR rfl rfl;focus(first|exact iA (g:=wG y) rfl (EL rfl) (SZ rfl) rfl rfl (by decide) rfl rfl|exact cb [true] rfl rfl (EN rfl) (hd) rfl rfl rfl rfl rfl rfl rfl rfl rfl rfl rfl|exact cb [true] rfl rfl (EN rfl) (hw) rfl rfl rfl rfl rfl rfl rfl rfl rfl rfl rfl|exact mO)))
  refine Or.inr (And.intro rfl ?_)
  refine rB ?_ ?_ ?_
  all_goals rfl
 ·obtain⟨W,cap,hz,hroom,hd⟩:=divW_room hX h0 hy (by rw[wsG_length];omega)
  have hrl:X%y<WB:=Nat.lt_trans (Nat.mod_lt _ (Nat.pos_of_ne_zero h0)) hy
  by_cases hr:X%y=0
  ·refine⟨_,_,_, .exact (g:=0) hr hz, ?_⟩
   rw[hr]at hd
   have hw:=setWord_0
   clear hroom
   generalize(dig (X/y)).length=N at *
   clear hz hr hrl
   generalize dig X=xs at *
   refine PC_of_PM Tryz.func123 rfl rfl (rs:=_) rfl (Nat.le_of_ble_eq_true (by kernel_rfl)) ?_
   repeat((repeat refine PM_seq ?_);first|refine PM_cond_f rfl ?_|refine PM_skip ?_|(refine PM_pw ?_;(try refine uN ?_);refine Or.inl (And.intro rfl ?_)))
   refine PM_cond_t rfl ?_
   refine PM_pw ?_
   (repeat first|refine uA ?_|(apply oR rfl rfl;focus(first|exact iA (g:=wG y) rfl (EL rfl) (SZ rfl) rfl rfl (by decide) rfl rfl|exact cd [true] rfl rfl (EN rfl) (hd) rfl rfl rfl rfl rfl rfl rfl rfl rfl rfl rfl|exact cb [true] rfl rfl (EN rfl) (hw) rfl rfl rfl rfl rfl rfl rfl rfl rfl rfl rfl|exact mO)))
   refine Or.inr (And.intro rfl ?_)
   refine rB ?_ ?_ ?_
   all_goals rfl
  ·refine⟨_,_,_, .both (g1:=0) (g2:=0) hX hz (by have:=ZOk.word hr hrl;exact this) hroom, ?_⟩
   rw[dig_one hr hrl]
   have hw:=setWord_pc hr
   obtain⟨R,hR⟩: ∃R,R=X%y:=⟨_,rfl⟩
   rw[←hR]at hd hw⊢
   clear hroom
   generalize(dig (X/y)).length=N at *
   clear hz hr hrl hR
   generalize dig X=xs at *
   refine PC_of_PM Tryz.func123 rfl rfl (rs:=_) rfl (Nat.le_of_ble_eq_true (by kernel_rfl)) ?_
   repeat((repeat refine PM_seq ?_);first|refine PM_cond_f rfl ?_|refine PM_skip ?_|(refine PM_pw ?_;(try refine uN ?_);refine Or.inl (And.intro rfl ?_)))
   refine PM_cond_t rfl ?_
   refine PM_pw ?_
   (repeat first|refine uA ?_|(apply oR rfl rfl;focus(first|exact iA (g:=wG y) rfl (EL rfl) (SZ rfl) rfl rfl (by decide) rfl rfl|exact cd [true] rfl rfl (EN rfl) (hd) rfl rfl rfl rfl rfl rfl rfl rfl rfl rfl rfl|exact cd [true] rfl rfl (EN rfl) (hw) rfl rfl rfl rfl rfl rfl rfl rfl rfl rfl rfl|exact mO)))
   refine Or.inr (And.intro rfl ?_)
   refine rB ?_ ?_ ?_
   all_goals rfl
theorem ndiv_rows2{X Y:Nat}(hY1:WB≤Y)(hY2:Y<WB *WB)(hm:(dig X).length≤800): ∃vq vr M,DivR X Y vq vr M∧PC Tryz.prog 123 [.nils, .nilp, .nils, .g (.sl (wsG (dig X))), .g (.sl (wsG (dig Y)))] ⟨[],[],[]⟩ (.tuple [vq,vr]) ⟨[],[],M⟩:=by
 have hYd:=two_digB hY1 hY2
 have hYl:(dig Y).length=2:=by rw[hYd];rfl
 have hc:=cmp_pc (X:=X) (Y:=Y) (by omega) (by omega)
 rcases Nat.lt_or_ge X Y with hlt|hge
 ·rw[show cmpZ X Y= -1 from by unfold cmpZ;rw[if_pos (by omega)]]at hc
  have e1:X/Y=0:=Nat.div_eq_of_lt hlt
  have e2:X%Y=X:=Nat.mod_eq_of_lt hlt
  by_cases hX:X=0
  ·subst hX
   refine⟨_,_,_, .zero e1 e2, ?_⟩
   rw[dig_zero]at hc⊢
   rw[hYd]at hc⊢
   generalize Y%WB=b0 at *
   generalize Y/WB=b1 at *
   have hs:=set_0
   refine PC_of_PM Tryz.func123 rfl rfl (rs:=_) rfl (Nat.le_of_ble_eq_true (by kernel_rfl)) ?_
   repeat((repeat refine PM_seq ?_);first|refine PM_cond_f rfl ?_|refine PM_skip ?_|(refine PM_pw ?_;(repeat first|refine uA ?_|(apply oR rfl rfl;focus(first|exact cqP hc|exact mO)));refine Or.inl (And.intro rfl ?_)))
   refine PM_cond_t rfl ?_
   refine PM_pw ?_
   (repeat first|refine uA ?_|(apply oR rfl rfl;focus(first|exact PO_nslice rfl (EL rfl) (SZ rfl) rfl rfl rfl rfl rfl|exact cb [true] rfl rfl (EN rfl) (hs) rfl rfl rfl rfl rfl rfl rfl rfl rfl rfl rfl|exact mO)))
   refine Or.inr (And.intro rfl ?_)
   refine rB ?_ ?_ ?_
   all_goals rfl
  ·have hz:=ZOk.set hX (by omega)
   have hz2:=hz
   rw[←e2]at hz2
   have h1:=dig_len_pos hX
   rw[wsG_length]at h1
   have hs:=set_pc h1 (by omega)
   refine⟨_,_,_, .low (g:=0) e1 (by rw[e2];exact hX) hz2, ?_⟩
   rw[e2]
   rw[hYd]at hc⊢
   clear hz hz2 e1 e2 hYl h1 hm hX
   generalize Y%WB=b0 at *
   generalize Y/WB=b1 at *
   generalize dig X=xs at *
   generalize xs++List.replicate (capN xs.length-xs.length) 0=W at *
   generalize capN xs.length=cp at *
   generalize xs.length=N at *
   refine PC_of_PM Tryz.func123 rfl rfl (rs:=_) rfl (Nat.le_of_ble_eq_true (by kernel_rfl)) ?_
   repeat((repeat refine PM_seq ?_);first|refine PM_cond_f rfl ?_|refine PM_skip ?_|(refine PM_pw ?_;(repeat first|refine uA ?_|(apply oR rfl rfl;focus(first|exact cqP hc|exact mO)));refine Or.inl (And.intro rfl ?_)))
   refine PM_cond_t rfl ?_
   refine PM_pw ?_
   (repeat first|refine uA ?_|(apply oR rfl rfl;focus(first|exact PO_nslice rfl (EL rfl) (SZ rfl) rfl rfl rfl rfl rfl|exact cd [true] rfl rfl (EN rfl) (hs) rfl rfl rfl rfl rfl rfl rfl rfl rfl rfl rfl|exact mO)))
   refine Or.inr (And.intro rfl ?_)
   refine rB ?_ ?_ ?_
   all_goals rfl
 ·obtain⟨r,hr,hr0⟩: ∃r:Int,r=cmpZ X Y∧0≤r:=⟨_,rfl,by unfold cmpZ;rw[if_neg (by omega)];split<;>decide⟩
  rw[←hr]at hc
  have hr1:decide (r<0)=false:=decide_eq_false (by omega)
  obtain⟨WQ,cQ,WR,cR,z1,z2,hroom,hd⟩:=divLarge_two hY1 hY2 hge hm
  refine⟨_,_,_, .both (g1:=1) (g2:=0) (Nat.ne_of_gt (Nat.lt_of_lt_of_le (Nat.lt_of_lt_of_le (by decide) hY1) hge)) z1 z2 hroom, ?_⟩
  clear hroom
  rw[hYd]at hc hd⊢
  have hgs:=getStack_pc
  clear z1 z2 hYl hm hge hr
  generalize Y%WB=b0 at *
  generalize(dig (X%Y)).length=NR at *
  generalize(dig (X/Y)).length=NQ at *
  generalize Y/WB=b1 at *
  generalize dig X=xs at *
  refine PC_of_PM Tryz.func123 rfl rfl (rs:=_) rfl (Nat.le_of_ble_eq_true (by kernel_rfl)) ?_
  repeat((repeat refine PM_seq ?_);first|refine PM_cond_f rfl ?_|refine PM_cond_t rfl ?_|refine PM_cond_f (congrArg (fun b=>PV.g (GV.bool b)) hr1) ?_|refine PM_skip ?_|(refine PM_pw ?_;(repeat first|refine uA ?_|(apply oR rfl rfl;focus(first|exact cqP hc|exact cb [] rfl rfl (EN rfl) (hgs) rfl rfl rfl rfl rfl rfl rfl rfl rfl rfl rfl|exact PO_pnil rfl Tryz.underlying198 rfl rfl|exact mO)));refine Or.inl (And.intro rfl ?_)))
  refine PM_defer (l:=[_]) rfl rfl rfl (by intro t h;cases h) ?_
  (try refine uN ?_)
  refine⟨_,rfl, ?_⟩
  refine PM_pw ?_
  (repeat first|refine uA ?_|(apply oR rfl rfl;focus(first|exact cd [true,false,true] rfl rfl (EN rfl) (hd) rfl rfl rfl rfl rfl rfl rfl rfl rfl rfl rfl|exact mO)))
  refine Or.inr (And.intro rfl ⟨_,EN rfl,free2_pcd, ?_⟩)
  refine rB ?_ ?_ ?_
  all_goals rfl
theorem ndiv_rows{X Y:Nat}(h0:0<Y)(hY:Y<WB *WB)(hm:(dig X).length≤800): ∃vq vr M,DivR X Y vq vr M∧PC Tryz.prog 123 [.nils, .nilp, .nils, .g (.sl (wsG (dig X))), .g (.sl (wsG (dig Y)))] ⟨[],[],[]⟩ (.tuple [vq,vr]) ⟨[],[],M⟩:=by
 rcases Nat.lt_or_ge Y WB with h|h
 ·exact ndiv_rows1 (by omega) h hm
 ·exact ndiv_rows2 h hY hm
theorem quoRem_pc{X Y:Nat}(h0:0<Y)(hY:Y<WB *WB)(hm:(dig X).length≤800): ∃vq vr M,DivR X Y vq vr M∧PC Tryz.prog 101 [.ptr 0 0, .ptr 1 0, .ptr 2 0, .ptr 3 0] ⟨[[.g (.bool false), .nils],[.g (.bool false), .g (.sl (wsG (dig X)))],[.g (.bool false), .g (.sl (wsG (dig Y)))],[.g (.bool false), .nils]],[],[]⟩ (.tuple [.ptr 0 0, .ptr 3 0]) ⟨[[.g (.bool false),vq],[.g (.bool false), .g (.sl (wsG (dig X)))],[.g (.bool false), .g (.sl (wsG (dig Y)))],[.g (.bool false),vr]],[],M⟩:=by
 obtain⟨vq,vr,M,hD,hd⟩:=ndiv_rows h0 hY hm
 refine⟨vq,vr,M,hD, ?_⟩
 cases hD
 ·generalize dig X=xs at *
  generalize dig Y=ys at *
  refine eN Tryz.func101 ?_
  (repeat' first|refine uG ?_|((first|apply oR rfl rfl|(apply dF rfl rfl rfl;intro _)|(apply dP rfl rfl rfl;intro _)|(apply dL rfl rfl rfl;intro _)|apply dC rfl rfl rfl rfl);(focus(first|exact cd [true,true,true] rfl rfl (EN rfl) (hd) rfl rfl rfl rfl rfl rfl rfl rfl rfl rfl rfl|exact PO_vlen rfl (EL rfl) rfl|exact mO));try exact kQ)|refine xK false false [0,1,2,3] rfl mixed (by decide+kernel) ?_|refine xK false true [0,1,2,3] rfl mixed (by decide+kernel) ?_|refine xK true false [0,1,2,3] rfl mixed (by decide+kernel) ?_|refine xK true true [0,1,2,3] rfl mixed (by decide+kernel) ?_|(refine sQ (fun h=> ?_) (fun h=> ?_)<;>fail_if_success (first|(have:true=true:=h)|(have:false=false:=h)))|fail)
  all_goals(refine rB ?_ ?_ ?_)
  all_goals rfl
 ·generalize dig X=xs at *
  generalize dig Y=ys at *
  generalize(dig (X%Y)).length=NR at *
  refine eN Tryz.func101 ?_
  (repeat' first|refine uG ?_|((first|apply oR rfl rfl|(apply dF rfl rfl rfl;intro _)|(apply dP rfl rfl rfl;intro _)|(apply dL rfl rfl rfl;intro _)|apply dC rfl rfl rfl rfl);(focus(first|exact cd [true,true,true] rfl rfl (EN rfl) (hd) rfl rfl rfl rfl rfl rfl rfl rfl rfl rfl rfl|exact PO_vlen rfl (EL rfl) rfl|exact mO));try exact kQ)|refine xK false false [0,1,2,3] rfl mixed (by decide+kernel) ?_|refine xK false true [0,1,2,3] rfl mixed (by decide+kernel) ?_|refine xK true false [0,1,2,3] rfl mixed (by decide+kernel) ?_|refine xK true true [0,1,2,3] rfl mixed (by decide+kernel) ?_|(refine sQ (fun h=> ?_) (fun h=> ?_)<;>fail_if_success (first|(have:true=true:=h)|(have:false=false:=h)))|fail)
  all_goals(refine rB ?_ ?_ ?_)
  all_goals rfl
 ·generalize dig X=xs at *
  generalize dig Y=ys at *
  generalize(dig (X/Y)).length=NQ at *
  refine eN Tryz.func101 ?_
  (repeat' first|refine uG ?_|((first|apply oR rfl rfl|(apply dF rfl rfl rfl;intro _)|(apply dP rfl rfl rfl;intro _)|(apply dL rfl rfl rfl;intro _)|apply dC rfl rfl rfl rfl);(focus(first|exact cd [true,true,true] rfl rfl (EN rfl) (hd) rfl rfl rfl rfl rfl rfl rfl rfl rfl rfl rfl|exact PO_vlen rfl (EL rfl) rfl|exact mO));try exact kQ)|refine xK false false [0,1,2,3] rfl mixed (by decide+kernel) ?_|refine xK false true [0,1,2,3] rfl mixed (by decide+kernel) ?_|refine xK true false [0,1,2,3] rfl mixed (by decide+kernel) ?_|refine xK true true [0,1,2,3] rfl mixed (by decide+kernel) ?_|(refine sQ (fun h=> ?_) (fun h=> ?_)<;>fail_if_success (first|(have:true=true:=h)|(have:false=false:=h)))|fail)
  all_goals(refine rB ?_ ?_ ?_)
  all_goals rfl
 ·generalize dig X=xs at *
  generalize dig Y=ys at *
  generalize(dig (X%Y)).length=NR at *
  generalize(dig (X/Y)).length=NQ at *
  refine eN Tryz.func101 ?_
  (repeat' first|refine uG ?_|((first|apply oR rfl rfl|(apply dF rfl rfl rfl;intro _)|(apply dP rfl rfl rfl;intro _)|(apply dL rfl rfl rfl;intro _)|apply dC rfl rfl rfl rfl);(focus(first|exact cd [true,true,true] rfl rfl (EN rfl) (hd) rfl rfl rfl rfl rfl rfl rfl rfl rfl rfl rfl|exact PO_vlen rfl (EL rfl) rfl|exact mO));try exact kQ)|refine xK false false [0,1,2,3] rfl mixed (by decide+kernel) ?_|refine xK false true [0,1,2,3] rfl mixed (by decide+kernel) ?_|refine xK true false [0,1,2,3] rfl mixed (by decide+kernel) ?_|refine xK true true [0,1,2,3] rfl mixed (by decide+kernel) ?_|(refine sQ (fun h=> ?_) (fun h=> ?_)<;>fail_if_success (first|(have:true=true:=h)|(have:false=false:=h)))|fail)
  all_goals(refine rB ?_ ?_ ?_)
  all_goals rfl
theorem upB_get{ws T:List Nat}{k j:Nat}(h:j<k)(hk:k≤ws.length):(upB ws T k)[j]? =ws[j]? :=by
 unfold upB
 rw[List.getElem?_append_left (by rw[List.length_take];omega),List.getElem?_take,if_pos h]
theorem lshIn_pc{g n cap s:Nat}{ws xs:List Nat}(hx:okW xs)(hv:ws.take n=xs)(h1:1≤n)(hn:n≤ws.length)(hm:n≤100000)(hs1:1≤s)(hs:s<64):
  PC Tryz.prog 67 [.vw 0 g 0 n cap, .vw 0 g 0 n cap, .g (.int .u64 s)] ⟨[],[],[AR g ws]⟩ (.g (wG (upC xs s))) ⟨[],[],[AR g (putL ws 0 (upR xs s))]⟩:=by
 have hl:xs.length=n:=by rw[←hv];simp;omega
 have hT:=upR_length xs s
 obtain⟨m,hm1⟩: ∃m,n=m+1:=⟨n-1,by omega⟩
 have hxm:xs[m]? =some (xs[m]'(by omega)):=List.getElem?_eq_getElem (by omega)
 obtain⟨xm,hxm1⟩: ∃x,x=xs[m]'(by omega):=⟨_,rfl⟩
 rw[←hxm1]at hxm
 have hc:=upC_last (s:=s) (by omega) hx hxm
 rw[←hm1,←hl,List.take_length]at hc
 have hne:((n:Int) !=(n:Int))=false:=by simp
 have hs0:((s:Int)==0)=false:=beq_eq_false_iff_ne.2 (by omega)
 have hl0:((n:Int)==0)=false:=beq_eq_false_iff_ne.2 (by omega)
 have ha:=and63 hs
 have hb:IntKind.u64.wrap (64-(s:Int))=((64-s:Nat):Int):=by rw[show(64:Int)-(s:Int)=((64-s:Nat):Int) by omega];exact u64_wrap rfl (by unfold WB;omega)
 have hd:=and63 (n:=64-s) (by omega)
 have hlen1:IntKind.i64.wrap ((n:Int)-1)=((m:Nat):Int):=by rw[w64 (by omega)];omega
 have hget: ∀k x,k<n→xs[k]? =some x→ws[k]? =some x:=fun k x hk h=>by rw[←hv,List.getElem?_take,if_pos hk]at h;exact h
 have hgm:(wsG ws)[0+m]? =some (wG xm):=wsG_get (by rw[Nat.zero_add];exact hget m xm (by omega) hxm)
 refine eN Tryz.func67 ?_
 (repeat first|refine uE ?_|((first|apply oR rfl rfl|(apply dF rfl rfl rfl;intro _)|(apply dP rfl rfl rfl;intro _)|(apply dL rfl rfl rfl;intro _)|apply dC rfl rfl rfl rfl);(focus(first|exact PO_vlen rfl (EL rfl) rfl|exact mO));try exact kQ))
 refine sQ (fun h=> ?_) fun h=> ?_
 ·exfalso;rw[hne]at h;cases h
 clear h
 (try refine uD ?_)
 refine sQ (fun h=> ?_) fun h=> ?_
 ·exfalso;rw[hs0]at h;cases h
 clear h
 (repeat first|refine uE ?_|((first|apply oR rfl rfl|(apply dF rfl rfl rfl;intro _)|(apply dP rfl rfl rfl;intro _)|(apply dL rfl rfl rfl;intro _)|apply dC rfl rfl rfl rfl);(focus(first|exact PO_vlen rfl (EL rfl) rfl|exact mO));try exact kQ))
 refine sQ (fun h=> ?_) fun h=> ?_
 ·exfalso;rw[hl0]at h;cases h
 clear h
 (repeat first|refine uF ?_|((first|apply oR rfl rfl|(apply dF rfl rfl rfl;intro _)|(apply dP rfl rfl rfl;intro _)|(apply dL rfl rfl rfl;intro _)|apply dC rfl rfl rfl rfl);(focus(first|exact mO));try exact kQ)|refine xU [7] rfl ?_)
 refine PW_weak (env':=slots [(0, .vw 0 g 0 n cap),(1, .vw 0 g 0 n cap),(2, .g (.int .u64 s))]) (H':=⟨[],[],[AR g ws]⟩) (SlotsOk.le ⟨.inl rfl, .inl rfl, .inl (congrArg (fun k=>PV.g (.int .u64 k)) ha),trivial⟩) (HLe.of_eq rfl) ?_
 (repeat first|refine uF ?_|((first|apply oR rfl rfl|(apply dF rfl rfl rfl;intro _)|(apply dP rfl rfl rfl;intro _)|(apply dL rfl rfl rfl;intro _)|apply dC rfl rfl rfl rfl);(focus(first|exact mO));try exact kQ)|refine xU [8] rfl ?_)
 refine PW_weak (env':=slots [(0, .vw 0 g 0 n cap),(1, .vw 0 g 0 n cap),(2, .g (.int .u64 s)),(7, .g (.int .u64 ((64-s:Nat):Int)))]) (H':=⟨[],[],[AR g ws]⟩) (SlotsOk.le ⟨.inl rfl, .inl rfl, .inl rfl, .inl (congrArg (fun k=>PV.g (.int .u64 k)) hb),trivial⟩) (HLe.of_eq rfl) ?_
 (repeat first|refine uF ?_|((first|apply oR rfl rfl|(apply dF rfl rfl rfl;intro _)|(apply dP rfl rfl rfl;intro _)|(apply dL rfl rfl rfl;intro _)|apply dC rfl rfl rfl rfl);(focus(first|exact mO));try exact kQ)|refine xU [9] rfl ?_)
 refine PW_weak (env':=slots [(0, .vw 0 g 0 n cap),(1, .vw 0 g 0 n cap),(2, .g (.int .u64 s)),(7, .g (.int .u64 ((64-s:Nat):Int)))]) (H':=⟨[],[],[AR g ws]⟩) (SlotsOk.le ⟨.inl rfl, .inl rfl, .inl rfl, .inl (congrArg (fun k=>PV.g (.int .u64 k)) hd),trivial⟩) (HLe.of_eq rfl) ?_
 (repeat first|refine uE ?_|((first|apply oR rfl rfl|(apply dF rfl rfl rfl;intro _)|(apply dP rfl rfl rfl;intro _)|(apply dL rfl rfl rfl;intro _)|apply dC rfl rfl rfl rfl);(focus(first|exact PO_vlen rfl (EL rfl) rfl|exact PO_vindex m rfl (EL rfl) (SZ rfl) rfl rfl hlen1 (by omega)|exact PO_load_mref_one rfl (AG rfl) rfl rfl hgm rfl|exact PO_shr rfl rfl rfl (Int.natCast_nonneg _)|exact mO));try exact kQ))
 refine PW_loop (S:=Nat) (fun k=>slots [(0, .vw 0 g 0 n cap),(1, .vw 0 g 0 n cap),(2, .g (.int .u64 s)),(6, .g (wG (upC xs s))),(7, .g (.int .u64 ((64-s:Nat):Int))),(8, .g (.int .i64 (k:Int)))]) (fun k=>⟨[],[],[AR g (upB ws (upR xs s) (k+1))]⟩) (fun k=>k≤m) (fun k=>k) m (Nat.le_refl _)
  (SlotsOk.le ⟨.inl rfl, .inl rfl, .inl rfl, .inl (congrArg (fun z=>PV.g (.int .u64 z)) (by rw[hc];exact shr_rawB (by omega))), .inl rfl, .inl (congrArg (fun z=>PV.g (.int .i64 z)) hlen1),trivial⟩) (HLe.of_eq (by rw[show m+1=(upR xs s).length by omega,upB_start])) (fun k hk=> ?_)
 have hxk:xs[k]? =some (xs[k]'(by omega)):=List.getElem?_eq_getElem (by omega)
 obtain⟨x,hx1⟩: ∃x,x=xs[k]'(by omega):=⟨_,rfl⟩
 rw[←hx1]at hxk
 have hgx:(wsG (upB ws (upR xs s) (k+1)))[0+k]? =some (wG x):=wsG_get (by rw[Nat.zero_add,upB_get (by omega) (by omega)];exact hget k x (by omega) hxk)
 have hsx:=shl_raw (n:=x) (s:=s) (by omega)
 cases k with
 |zero=>
  have hst:=upB_step (ws:=ws) (upR_zero (s:=s) hxk) (by omega)
  rw[upB_done]at hst
  (repeat first|refine uE ?_|((first|apply oR rfl rfl|(apply dF rfl rfl rfl;intro _)|(apply dP rfl rfl rfl;intro _)|(apply dL rfl rfl rfl;intro _)|apply dC rfl rfl rfl rfl);(focus(first|exact PO_vindex 0 rfl (EL rfl) (SZ rfl) rfl rfl rfl (by omega)|exact PO_load_mref_one rfl (AG rfl) rfl rfl hgx rfl|exact PO_as (PO_shl rfl rfl rfl (Int.natCast_nonneg _)) (congrArg (fun k=>PV.g (.int .u64 k)) hsx)|exact PO_store_mref rfl (SZ rfl) rfl rfl rfl rfl (by decide) rfl hgx (Nat.le_refl _)|exact mO));try exact kQ))
  have e:(wsG (upB ws (upR xs s) (0+1))).set (0+0) (wG (x *2^s%WB))=wsG (putL ws 0 (upR xs s)):=by rw[←hst];exact wsG_set
  rw[show AR g (putL ws 0 (upR xs s))= .arr g WT ((wsG (upB ws (upR xs s) (0+1))).set (0+0) (wG (x *2^s%WB)))from congrArg (MO.arr g WT) e.symm]
  refine rB ?_ ?_ ?_
  all_goals rfl
 |succ k=>
  have hyk:xs[k]? =some (xs[k]'(by omega)):=List.getElem?_eq_getElem (by omega)
  obtain⟨y,hy1⟩: ∃y,y=xs[k]'(by omega):=⟨_,rfl⟩
  rw[←hy1]at hyk
  have hk1:IntKind.i64.wrap (((k+1:Nat):Int)-1)=((k:Nat):Int):=by rw[w64 (by omega)];omega
  have hgy:(wsG (upB ws (upR xs s) (k+1+1)))[0+k]? =some (wG y):=wsG_get (by rw[Nat.zero_add,upB_get (by omega) (by omega)];exact hget k y (by omega) hyk)
  have hst:=upB_step (ws:=ws) (upR_get (s:=s) (by omega) hx hxk hyk) (by omega)
  have hsy:=shr_rawB (n:=y) (s:=64-s) (by omega)
  have hy2:y/2^(64-s)<WB:=Nat.lt_of_le_of_lt (Nat.div_le_self _ _) (hx.at hyk)
  have hor:=or_rawB (a:=x *2^s%WB) (b:=y/2^(64-s)) (Nat.mod_lt _ (by decide)) hy2
  obtain⟨A,hA⟩: ∃A,A=x *2^s%WB:=⟨_,rfl⟩
  obtain⟨B,hB⟩: ∃B,B=y/2^(64-s):=⟨_,rfl⟩
  rw[←hA]at hsx hor hst
  rw[←hB]at hsy hor hst
  (try refine uD ?_)
  refine sQ (fun h=> ?_) fun h=> ?_
  ·clear h
   (repeat first|refine uG ?_|(apply dR rfl rfl;focus(first|exact Cond_mload rfl rfl (AG rfl) rfl rfl hgx rfl|exact Cond_mload rfl rfl (AG rfl) rfl rfl hgy rfl|exact Cond_mstore rfl (SZ rfl) rfl rfl rfl rfl (by decide) rfl hgx (Nat.le_refl _)))|((first|apply oR rfl rfl|(apply dF rfl rfl rfl;intro _)|(apply dP rfl rfl rfl;intro _)|(apply dL rfl rfl rfl;intro _)|apply dC rfl rfl rfl rfl);(focus(first|exact PO_vindex k rfl (EL rfl) (SZ rfl) rfl rfl hk1 (by omega)|exact PO_vindex (k+1) rfl (EL rfl) (SZ rfl) rfl rfl rfl (by omega)|exact PO_shl rfl rfl rfl (Int.natCast_nonneg _)|exact PO_shr rfl rfl rfl (Int.natCast_nonneg _)|exact mO));try exact kQ)|refine xK false false [10000] rfl mixed (by decide+kernel) ?_|refine xK false true [10000] rfl mixed (by decide+kernel) ?_|refine xK true false [10000] rfl mixed (by decide+kernel) ?_|refine xK true true [10000] rfl mixed (by decide+kernel) ?_)
   exact⟨k,by omega,by omega,SlotsOk.le ⟨.inl rfl, .inl rfl, .inl rfl, .inl rfl, .inl rfl, .inl (congrArg (fun z=>PV.g (.int .i64 z)) hk1),trivial⟩,
    HLe.of_eq (congrArg (fun l=>(⟨[],[],[MO.arr g WT l]⟩:PH)) (by
     rw[←hst,hsx,hsy,show GV.int .u64 (IntKind.u64.wrap (((BitVec.ofInt IntKind.u64.bits (A:Int) ||| BitVec.ofInt IntKind.u64.bits (B:Int)).toNat:Nat):Int))=wG (A ||| B)from congrArg (GV.int .u64) hor,Nat.zero_add]
     exact wsG_set))⟩
  ·exfalso;have:=of_decide_eq_false h;omega
theorem abs_nils:PC Tryz.prog 103 [.ptr 0 0, .ptr 0 0] ⟨[[.g (.bool false), .nils]],[],[]⟩ (.ptr 0 0) ⟨[[.g (.bool false), .nils]],[],[]⟩:=by
 have hs:PC Tryz.prog 73 [.ptr 0 0, .ptr 0 0] ⟨[[.g (.bool false), .nils]],[],[]⟩ (.ptr 0 0) ⟨[[.g (.bool false), .nils]],[],[]⟩:=by
  refine eN Tryz.func73 ?_
  (repeat first|refine uE ?_|((first|apply oR rfl rfl|(apply dF rfl rfl rfl;intro _)|(apply dP rfl rfl rfl;intro _)|(apply dL rfl rfl rfl;intro _)|apply dC rfl rfl rfl rfl);(focus(first|exact PO_pcmp rfl Tryz.underlying105 (SZ rfl) (.inr rfl) rfl rfl rfl rfl|exact mO));try exact kQ))
  refine rB ?_ ?_ ?_
  all_goals rfl
 refine eN Tryz.func103 ?_
 (repeat first|refine uA ?_|(apply oR rfl rfl;focus(first|exact cd [] rfl rfl (EN rfl) (hs) rfl rfl rfl rfl rfl rfl rfl rfl rfl rfl rfl|exact mO)))
 refine rB ?_ ?_ ?_
 all_goals rfl
theorem abs_row{g n c:Nat}{W:List Nat}:PC Tryz.prog 103 [.ptr 0 0, .ptr 0 0] ⟨[[.g (.bool false), .vw 0 g 0 n c]],[],[AR g W]⟩ (.ptr 0 0) ⟨[[.g (.bool false), .vw 0 g 0 n c]],[],[AR g W]⟩:=by
 have hs:PC Tryz.prog 73 [.ptr 0 0, .ptr 0 0] ⟨[[.g (.bool false), .vw 0 g 0 n c]],[],[AR g W]⟩ (.ptr 0 0) ⟨[[.g (.bool false), .vw 0 g 0 n c]],[],[AR g W]⟩:=by
  refine eN Tryz.func73 ?_
  (repeat first|refine uE ?_|((first|apply oR rfl rfl|(apply dF rfl rfl rfl;intro _)|(apply dP rfl rfl rfl;intro _)|(apply dL rfl rfl rfl;intro _)|apply dC rfl rfl rfl rfl);(focus(first|exact PO_pcmp rfl Tryz.underlying105 (SZ rfl) (.inr rfl) rfl rfl rfl rfl|exact mO));try exact kQ))
  refine rB ?_ ?_ ?_
  all_goals rfl
 refine eN Tryz.func103 ?_
 (repeat first|refine uA ?_|(apply oR rfl rfl;focus(first|exact cd [] rfl rfl (EN rfl) (hs) rfl rfl rfl rfl rfl rfl rfl rfl rfl rfl rfl|exact mO)))
 refine rB ?_ ?_ ?_
 all_goals rfl
theorem abs_new{Y:Nat}(h0:Y≠0)(hm:(dig Y).length≤800):PC Tryz.prog 103 [.ptr 0 0, .ptr 1 0] ⟨[[.g (.bool false), .nils],[.g (.bool false), .g (.sl (wsG (dig Y)))]],[],[]⟩ (.ptr 0 0) ⟨[[.g (.bool false), .g (.sl (wsG (dig Y)))],[.g (.bool false), .g (.sl (wsG (dig Y)))]],[],[]⟩:=by
 have h1:=dig_len_pos h0
 rw[wsG_length]at h1
 have hs:=set_pc h1 (by omega)
 have hz:=ZOk.set h0 (by omega)
 have htk:=fz_take hz.tk
 clear hz hm h0
 generalize dig Y=ys at *
 generalize ys++List.replicate (capN ys.length-ys.length) 0=W at *
 generalize capN ys.length=cp at *
 generalize ys.length=N at *
 have hst:PC Tryz.prog 73 [.ptr 0 0, .ptr 1 0] ⟨[[.g (.bool false), .nils],[.g (.bool false), .g (.sl (wsG ys))]],[],[]⟩ (.ptr 0 0) ⟨[[.g (.bool false), .vw 0 0 0 N cp],[.g (.bool false), .g (.sl (wsG ys))]],[],[AR 0 W]⟩:=by
  refine eN Tryz.func73 ?_
  (repeat first|refine uG ?_|((first|apply oR rfl rfl|(apply dF rfl rfl rfl;intro _)|(apply dP rfl rfl rfl;intro _)|(apply dL rfl rfl rfl;intro _)|apply dC rfl rfl rfl rfl);(focus(first|exact PO_pcmp rfl Tryz.underlying105 (SZ rfl) (.inr rfl) rfl rfl rfl rfl|exact cd [true] rfl rfl (EN rfl) (hs) rfl rfl rfl rfl rfl rfl rfl rfl rfl rfl rfl|exact mO));try exact kQ)|refine xK false false [0,1] rfl mixed (by decide+kernel) ?_|refine xK false true [0,1] rfl mixed (by decide+kernel) ?_|refine xK true false [0,1] rfl mixed (by decide+kernel) ?_|refine xK true true [0,1] rfl mixed (by decide+kernel) ?_)
  refine rB ?_ ?_ ?_
  all_goals rfl
 refine eN Tryz.func103 ?_
 (repeat first|refine uC ?_|(apply oR rfl rfl;focus(first|exact cd [] rfl rfl (EN rfl) (hst) rfl rfl rfl rfl rfl rfl rfl rfl rfl rfl rfl|exact mO))|refine xU [3] rfl ?_)
 refine PW_freeze 0 rfl (PW_weak (env':=slots [(0, .ptr 0 0)]) (H':=⟨[[.g (.bool false), .g (.sl (wsG ys))],[.g (.bool false), .g (.sl (wsG ys))]],[],[.gone (0+1)]⟩) (SlotsOk.le ⟨.inl rfl,trivial⟩) (HLe.of_eq ?_) ?_)
 ·rw[←htk];rfl
 (try refine uN ?_)
 refine rB ?_ ?_ ?_
 all_goals rfl
end Go.Proofs.YtdoenpeadkoklaaGreatFmtBesafter