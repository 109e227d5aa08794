/- What the program's functions compute, each shown once; and plain laws of it. -/
import Derived.Test.YtdoenpeadkoklaaGreatFmtBesafterOwnL
set_option maxRecDepth 100000
set_option maxHeartbeats 32000000
namespace Go.Proofs.YtdoenpeadkoklaaGreatFmtBesafter
open Go Go.Pure
attribute [local irreducible] PW POps POpsD PO PC Cond
theorem ENsnat:enterB Tryz.prog 148=true:=by kernel_rfl
theorem putL0_part{ws zs:List Nat}{j n:Nat}(h:j+n≤zs.length):((putL ws 0 zs).drop j).take n=(zs.drop j).take n:=by
 rw[putL_zero,List.drop_append_of_le_length (by omega),List.take_append_of_le_length (by rw[List.length_drop];omega)]
theorem win_get{l w:List Nat}{j n i a:Nat}(h:(l.drop j).take n=w)(hi:i<n)(ha:w[i]? =some a):l[j+i]? =some a:=by
 rw[←h,List.getElem?_take,if_pos hi,List.getElem?_drop]at ha
 exact ha
theorem dec1{g:Nat}(h:1≤g)(hg:g<WB):IntKind.u64.wrap ((g:Int)-1)=((g-1:Nat):Int):=by
 rw[show((g:Int)-1)=((g-1:Nat):Int) by omega]
 exact u64_wrap rfl (by omega)
theorem less_word{p v:Nat}(hv:v<WB)(h:v≤p):(p-v)/WB=(if p%WB<v then p/WB-1 else p/WB)∧((p-v)%WB:Nat)=(p%WB+WB-v)%WB∧(p%WB<v→1≤p/WB):=by
 have e:=Nat.mod_add_div p WB
 have hl:=Nat.mod_lt p (show 0<WB by decide)
 generalize p%WB=a at *
 generalize p/WB=b at *
 subst e
 unfold WB at *
 refine⟨?_, ?_, ?_⟩
 ·split<;>omega
 ·omega
 ·intro _;omega
theorem sub_word{a v:Nat}(ha:a<WB)(hv:v<WB):IntKind.u64.wrap ((a:Int)-(v:Int))=((a+WB-v)%WB:Nat):=by
 simp only[IntKind.wrap,IntKind.signed,IntKind.bits,Bool.false_and,Bool.false_eq_true,if_false]
 unfold WB at *
 omega
theorem add_word{a v:Nat}:IntKind.u64.wrap ((a:Int)+(v:Int))=((a+v)%WB:Nat):=by
 rw[←Int.natCast_add,u64_mod]
theorem sub_zeros{x y:Nat}(hx:x<WB)(hy:y<WB):subW [x,y] [0,0] 0=[x,y]∧subC [x,y] [0,0] 0=0:=by
 simp only[subW,subC,Nat.not_lt_zero,if_false,Nat.add_zero,Nat.sub_zero,Nat.add_mod_right,Nat.mod_eq_of_lt hx,Nat.mod_eq_of_lt hy,and_self]
theorem putL_self{l w:List Nat}{j n:Nat}(h:(l.drop j).take n=w)(hn:w.length=n):putL l j w=l:=by
 unfold putL
 rw[hn,←h,←List.drop_drop,List.append_assoc,List.take_append_drop,List.take_append_drop]
theorem putL_putL{l a b:List Nat}{j:Nat}(h:a.length=b.length)(hj:j+a.length≤l.length):putL (putL l j a) j b=putL l j b:=by
 have h1:=putL_length hj
 have h2:(putL l j a).take j=l.take j:=by
  unfold putL
  rw[List.append_assoc,List.take_append_of_le_length (by rw[List.length_take];omega),List.take_take,Nat.min_self]
 have h3:(putL l j a).drop (j+b.length)=l.drop (j+b.length):=by
  refine List.ext_getElem? fun i=> ?_
  rw[List.getElem?_drop,List.getElem?_drop,putL_get (by omega)]
 show(putL l j a).take j++b++(putL l j a).drop (j+b.length)=l.take j++b++l.drop (j+b.length)
 rw[h2,h3]
theorem step_mod{x D V:Nat}:(x+WB *D)%V=(x+WB *(D%V))%V:=by
 rw[Nat.add_mod x (WB *D),Nat.mul_mod WB D,Nat.add_mod x (WB *(D%V)),Nat.mul_mod WB (D%V),Nat.mod_mod]
theorem quC_get{D n k:Nat}{ws l:List Nat}(hk:k≤n)(hn:n≤ws.length){i:Nat}(hi:i<n): ∃z,(quC D ws l n k)[i]? =some z:=by
 have:=quC_length (D:=D) (l:=l) hk hn
 exact⟨_,List.getElem?_eq_getElem (by omega)⟩
theorem divBasic_two{gq cq gu cu gv cv m v0 v1 tp:Nat}{wq wu wv U:List Nat}(hU:wu.take (m+2)=U)(hwu:m+2≤wu.length)(hwo:okW wu)(hcu:m+2≤cu)(hv:wv.take 2=[v0,v1])(hwv:2≤wv.length)(hv0:v0<WB)(hv1:v1<WB)(hv1b:WB≤2 *v1)(ht:U[m+1]? =some tp)(htv:tp<v1)(hq:m≤wq.length)(hm:m≤1000):
  PC Tryz.prog 187 [.vw 0 gq 0 m cq, .ptr 0 0, .vw 1 gu 0 (m+2) cu, .vw 2 gv 0 2 cv] ⟨[[.nilp]],[],[AR gq wq,AR gu wu,AR gv wv]⟩ (.tuple []) ⟨[[.nilp]],[],[AR gq (putL wq 0 (padD m (val U/(v0+WB *v1)))),AR gu (putL wu 0 (padD (m+2) (val U%(v0+WB *v1)))),AR gv wv]⟩:=by
 have hv1p:1≤v1:=by unfold WB at hv1b;omega
 have hv1n:v1≠0:=by omega
 obtain⟨V,hVd⟩: ∃V,V=v0+WB *v1:=⟨_,rfl⟩
 have hVp:0<V:=by rw[hVd];exact Nat.lt_of_lt_of_le (Nat.mul_pos (by decide) hv1p) (Nat.le_add_left _ _)
 have hVW:V<WB *WB:=by
  have:WB *(v1+1)≤WB *WB:=Nat.mul_le_mul_left _ hv1
  rw[Nat.mul_add,Nat.mul_one]at this
  omega
 have hV2:v1 *WB+v0=V:=by rw[hVd,Nat.mul_comm,Nat.add_comm]
 rw[←hVd]
 have hUl:U.length=m+2:=by rw[←hU,List.length_take];omega
 have hUo:okW U:=by rw[←hU];exact hwo.take _
 have hvo:okW [v0,v1]:=okW_cons.2 ⟨hv0,okW_cons.2 ⟨hv1,okW_nil⟩⟩
 have hvv:(wv.drop 0).take 2=[v0,v1]:=by rw[List.drop_zero];exact hv
 have hgv0:(wsG wv)[0+0]? =some (wG v0):=wsG_get (win_get hvv (by decide) rfl)
 have hgv1:(wsG wv)[0+1]? =some (wG v1):=wsG_get (win_get (i:=1) hvv (by decide) rfl)
 have hrec:=recip_pc hv1n hv1
 have hstart:uB V U m=U:=by
  have:=uB_start (D:=V) hUo (by omega) (by
   rw[hUl,Nat.add_sub_cancel]
   have hUm:U[m]? =some (U[m]'(by omega)):=List.getElem?_eq_getElem (by omega)
   rw[val_dropB hUm,val_dropB ht,List.drop_of_length_le (by omega),val_nil,Nat.mul_zero,Nat.add_zero]
   have h1:=hUo.at hUm
   have h2:WB *(tp+1)≤WB *v1:=Nat.mul_le_mul_left _ htv
   rw[Nat.mul_add,Nat.mul_one]at h2
   omega)
  rwa[hUl,Nat.add_sub_cancel]at this
 have hput:putL wu 0 U=wu:=by
  refine putL_self (n:=m+2) ?_ hUl
  rw[List.drop_zero];exact hU
 have hsv:=save_pc
 have hsn:= @stackNat_pcx 3 (by decide) (by decide)
 have hm2:IntKind.i64.wrap (((m+2:Nat):Int)-2)=((m:Nat):Int):=by rw[w64 (by omega)];omega
 refine PC_of_PM Tryz.func187 rfl rfl (rs:=_) rfl (Nat.le_of_ble_eq_true (by kernel_rfl)) ?_
 repeat((repeat refine PM_seq ?_);first|refine PM_cond_f rfl ?_|refine PM_cond_t rfl ?_|refine PM_skip ?_|(refine PM_pw ?_;(repeat first|refine uE ?_|((first|apply oR rfl rfl|(apply dF rfl rfl rfl;intro _)|(apply dP rfl rfl rfl;intro _)|(apply dL rfl rfl rfl;intro _)|apply dC rfl rfl rfl rfl);(focus(first|exact PO_vlen rfl (EL rfl) rfl|exact mO));try exact kQ));refine Or.inl (And.intro rfl ?_)))
 refine PM_seq ?_
 refine PM_defer (l:=[_,_,_]) rfl rfl rfl (by intro t h;cases h) ?_
 (repeat first|refine uE ?_|((first|apply oR rfl rfl|(apply dF rfl rfl rfl;intro _)|(apply dP rfl rfl rfl;intro _)|(apply dL rfl rfl rfl;intro _)|apply dC rfl rfl rfl rfl);(focus(first|exact cb [] rfl rfl (EN rfl) (hsv) rfl rfl rfl rfl rfl rfl rfl rfl rfl rfl rfl|exact mO));try exact kQ))
 refine⟨_,rfl, ?_⟩
 refine PM_pw ?_
 refine PW_weak (env':=slots [(0, .vw 0 gq 0 m cq),(1, .ptr 0 0),(2, .vw 1 gu 0 (m+2) cu),(3, .vw 2 gv 0 2 cv),(8, .g (.int .i64 2)),(9, .g (.int .i64 m))]) (H':=⟨[[.nilp]],[],[AR gq wq,AR gu wu,AR gv wv]⟩) (SlotsOk.le ⟨.inl rfl, .inl rfl, .inl rfl, .inl rfl, .inl rfl, .inl (congrArg (fun k=>PV.g (.int .i64 k)) hm2),trivial⟩) (HLe.of_eq rfl) ?_
 refine PW_seq ?_
 refine PW_region_x (l1:=[_,_,_]) (l2:=[_]) rfl (fun t h=>by cases h;decide) ?_
 (try refine uD ?_)
 refine⟨_,POx_call [] rfl rfl ENsnat rfl (PCx_at hsn [0] [] [] rfl rfl rfl rfl rfl), ?_⟩
 rintro v H' ⟨v0',H0,⟨C,c1,c2,rfl,rfl⟩,rfl,rfl⟩
 (repeat first|refine uE ?_|((first|apply oR rfl rfl|(apply dF rfl rfl rfl;intro _)|(apply dP rfl rfl rfl;intro _)|(apply dL rfl rfl rfl;intro _)|apply dC rfl rfl rfl rfl);(focus(first|exact PO_vindex 1 rfl (EL rfl) (SZ rfl) rfl rfl (show IntKind.i64.wrap (2-1)=((1:Nat):Int) by decide) (by decide)|exact PO_load_mref_one rfl (AG rfl) rfl rfl hgv1 rfl|exact cqP hrec|exact mO));try exact kQ))
 clear hrec hsv hsn
 refine PW_loop (S:=Nat×List Nat) (fun q=>slots [(0, .vw 0 gq 0 m cq),(2, .vw 1 gu 0 (m+2) cu),(3, .vw 2 gv 0 2 cv),(8, .g (.int .i64 2)),(9, .g (.int .i64 m)),(10, .vw 3 0 0 3 C),(11, .g (wG v1)),(12, .g (wG (recW v1))),(13, .g (wG (if q.1=m+1 then 0 else val (U.drop q.1)%V/WB))),(14, .g (.int .i64 ((q.1:Int)-1)))]) (fun q=>⟨[[.nilp]],[],[AR gq (quC V wq U m (min q.1 m)),AR gu (putL wu 0 (uB V U (min q.1 m))),AR gv wv,AR 0 q.2]⟩) (fun q=>q.1≤m+1∧q.2.length=C) (fun q=>q.1) (m+1,stW C) ⟨Nat.le_refl _,stW_length C⟩
  (SlotsOk.le ⟨.inl rfl, .inl rfl, .inl rfl, .inl rfl, .inl rfl, .inl rfl, .inl rfl, .inl rfl, .inl (congrArg PV.g (by rw[if_pos rfl];rfl)), .inl (congrArg (fun z=>PV.g (.int .i64 z)) (by show(m:Int)=((m+1:Nat):Int)-1;omega)),trivial⟩) (HLe.of_eq (by rw[Nat.min_eq_right (Nat.le_succ m),quC_start,hstart,hput];rfl)) (fun q hq=> ?_)
 obtain⟨k,T⟩:=q
 obtain⟨hk,hT⟩:=hq
 dsimp only at hk hT
 have hvx:val [v0,v1]=V:=by rw[val_two,hVd]
 have hfin: ∀g,g<WB→(putL T 0 (mulAddW [v0,v1] g 0)).set (0+2) (mulAddC [v0,v1] g 0)=putL T 0 (padD 3 (g *V)):=by
  intro g hg
  have h1:=set_putL (ws:=T) (us:=mulAddW [v0,v1] g 0) (off:=0) (n:=2) (w:=mulAddC [v0,v1] g 0) (by rw[mulAddW_length];rfl) (by omega)
  rw[h1,mulAdd_pad hvo hg,hvx,Nat.mul_comm]
  rfl
 have hz: ∀g,∃z,(wsG (putL T 0 (mulAddW [v0,v1] g 0)))[0+2]? =some (wG z):=by
  intro g
  have hl:(putL T 0 (mulAddW [v0,v1] g 0)).length=T.length:=putL_length (by rw[mulAddW_length];show 0+2≤_;omega)
  exact⟨_,wsG_get (List.getElem?_eq_getElem (by omega))⟩
 cases k with
 |zero=>
  refine PW_weak (env':=slots [(14, .g (.int .i64 (-1)))]) (H':=⟨[[.nilp]],[],[AR gq (putL wq 0 (padD m (val U/V))),AR gu (putL wu 0 (padD (m+2) (val U%V))),AR gv wv,AR 0 T]⟩) (SlotsOk.le ⟨.inl rfl,trivial⟩) (HLe.of_eq (by
   dsimp only
   rw[Nat.zero_min,quC_done,uB_done hVp hVW (by omega),hUl])) ?_
  have hr:= @restore4_pcd gq gu gv 0 (putL wq 0 (padD m (val U/V))) (putL wu 0 (padD (m+2) (val U%V))) wv T
  clear hfin hz hstart hput
  generalize putL wq 0 (padD m (val U/V))=Q at *
  generalize putL wu 0 (padD (m+2) (val U%V))=W at *
  (try refine uD ?_)
  refine Or.inl (And.intro rfl ⟨_,EN rfl,hr, ?_⟩)
  refine rB ?_ ?_ ?_
  all_goals rfl
 |succ j=>
  by_cases hjm:j=m
  ·subst hjm
   have hUm:U[j]? =some (U[j]'(by omega)):=List.getElem?_eq_getElem (by omega)
   obtain⟨x,hx1⟩: ∃x,x=U[j]'(by omega):=⟨_,rfl⟩
   rw[←hx1]at hUm
   have hxw:=hUo.at hUm
   have htw:=hUo.at ht
   have hwU: ∀i a,i<j+2→U[i]? =some a→wu[i]? =some a:=fun i a hi h=>by rw[←hU,List.getElem?_take,if_pos hi]at h;exact h
   have hg0:(wsG wu)[0+j]? =some (wG x):=wsG_get (by rw[Nat.zero_add];exact hwU j x (by omega) hUm)
   have hg1:(wsG wu)[0+(j+1)]? =some (wG tp):=wsG_get (by rw[Nat.zero_add];exact hwU (j+1) tp (by omega) ht)
   have hwin:(wu.drop j).take 2=[x,tp]:=by
    refine List.ext_getElem? fun i=> ?_
    rw[List.getElem?_take]
    match i with
    |0=>rw[if_pos (by decide),List.getElem?_drop,Nat.add_zero,hwU j x (by omega) hUm];rfl
    |1=>rw[if_pos (by decide),List.getElem?_drop,hwU (j+1) tp (by omega) ht];rfl
    |i+2=>rw[if_neg (by omega)];rfl
   have hdiv:=divWW_pc (x1:=0) (x0:=tp) hv1n hv1 hv1p htw
   rw[Nat.zero_mul,Nat.zero_add,Nat.div_eq_of_lt htv,Nat.mod_eq_of_lt htv]at hdiv
   have hmw:=mulWW_pc (x:=0) (y:=v0) (by decide) hv0
   rw[Nat.zero_mul,Nat.zero_div,Nat.zero_mod]at hmw
   have hgt:=greater_pc (a:=0) (b:=0) (c:=tp) (d:=x) (by decide) hxw
   rw[show decide (tp *WB+x<0 *WB+0)=false by simp]at hgt
   have hmul:=mulAddV_vpc (g:=0) (o:=0) (n:=2) (cap:=C) (g1:=gv) (o1:=0) (c1:=cv) (ws:=T) (y:=0) (r:=0) hvv hvo rfl (by decide) (by decide) (by decide) (by omega)
   obtain⟨z,hz0⟩:=hz 0
   have hf0:=hfin 0 (by decide)
   rw[Nat.zero_mul]at hf0
   obtain⟨c0,hc0⟩: ∃c,c=mulAddC [v0,v1] 0 0:=⟨_,rfl⟩
   rw[←hc0]at hmul hf0
   have hT3:((putL T 0 (padD 3 0)).drop 0).take 3=[0,0,0]:=by rw[putL0_part (by decide)];rfl
   have hT2:((putL T 0 (padD 3 0)).drop 0).take 2=[0,0]:=by rw[putL0_part (by decide)];rfl
   have hTl:(putL T 0 (padD 3 0)).length=C:=by rw[putL_length (by rw[padD_length];omega),hT]
   have hgt2:(wsG (putL T 0 (padD 3 0)))[0+2]? =some (wG 0):=wsG_get (win_get hT3 (by decide) rfl)
   have hsub:=subVV_pc (g:=gu) (o:=j) (n:=2) (cap:=cu-j) (cap':=cu-j) (g1:=0) (o1:=0) (c1:=C) (ws:=wu) (xs:=[x,tp]) (ys:=[0,0]) (ws1:=putL T 0 (padD 3 0)) hT2 hwo hwin (okW_cons.2 ⟨by decide,okW_cons.2 ⟨by decide,okW_nil⟩⟩) rfl (by unfold maxLen;omega) (by omega)
   rw[(sub_zeros hxw htw).1,(sub_zeros hxw htw).2,putL_self hwin rfl]at hsub
   have htp:val (U.drop j)%V/WB=tp:=by
    have h1:val (U.drop j)=x+WB *tp:=by rw[val_dropB hUm,val_dropB ht,List.drop_of_length_le (by omega),val_nil,Nat.mul_zero,Nat.add_zero]
    have h2:x+WB *tp<V:=by
     have h2:WB *(tp+1)≤WB *v1:=Nat.mul_le_mul_left _ htv
     rw[Nat.mul_add,Nat.mul_one]at h2
     omega
    rw[h1,Nat.mod_eq_of_lt h2,Nat.add_mul_div_left _ _ (by decide),Nat.div_eq_of_lt hxw,Nat.zero_add]
   have hj3:IntKind.i64.wrap ((j:Int)+IntKind.i64.wrap (((3:Nat):Int)-1))=((j+2:Nat):Int):=by rw[show IntKind.i64.wrap (((3:Nat):Int)-1)=2 by decide,w64 (by omega)];omega
   have hj1:IntKind.i64.wrap (IntKind.i64.wrap ((j:Int)+2)-1)=((j+1:Nat):Int):=by rw[w64 (n:=(j:Int)+2) (by omega),w64 (by omega)];omega
   have hj0:IntKind.i64.wrap (IntKind.i64.wrap ((j:Int)+2)-2)=((j:Nat):Int):=by rw[w64 (n:=(j:Int)+2) (by omega),w64 (by omega)];omega
   have hk0:((((0:Nat):Int)) !=(v1:Int))=true:=bne_iff_ne.2 (by omega)
   refine PW_weak (env':=slots [(0, .vw 0 gq 0 j cq),(2, .vw 1 gu 0 (j+2) cu),(3, .vw 2 gv 0 2 cv),(8, .g (.int .i64 2)),(9, .g (.int .i64 j)),(10, .vw 3 0 0 3 C),(11, .g (wG v1)),(12, .g (wG (recW v1))),(13, .g (wG 0)),(14, .g (.int .i64 j))]) (H':=⟨[[.nilp]],[],[AR gq wq,AR gu wu,AR gv wv,AR 0 T]⟩) (SlotsOk.le ⟨.inl rfl, .inl rfl, .inl rfl, .inl rfl, .inl rfl, .inl rfl, .inl rfl, .inl rfl, .inl (congrArg PV.g (by dsimp only;rw[if_pos rfl])), .inl (congrArg (fun z=>PV.g (.int .i64 z)) (by dsimp only;omega)),trivial⟩) (HLe.of_eq (by
    dsimp only
    rw[Nat.min_eq_right (Nat.le_succ j),quC_start,hstart,hput])) ?_
   clear hfin hz hUo hwin hT3 hT2 hwU
   generalize putL T 0 (padD 3 0)=T2 at *
   (try refine uD ?_)
   refine sQ (fun h=> ?_) fun h=> ?_
   ·clear h
    (repeat first|refine uE ?_|((first|apply oR rfl rfl|(apply dF rfl rfl rfl;intro _)|(apply dP rfl rfl rfl;intro _)|(apply dL rfl rfl rfl;intro _)|apply dC rfl rfl rfl rfl);(focus(first|exact PO_vindex (j+1) rfl (EL rfl) (SZ rfl) rfl rfl hj1 (by omega)|exact PO_load_mref_one rfl (AG rfl) rfl rfl hg1 rfl|exact cqP hdiv|exact PO_vindex 0 rfl (EL rfl) (SZ rfl) rfl rfl (show IntKind.i64.wrap (2-2)=((0:Nat):Int) by decide) (by decide)|exact PO_load_mref_one rfl (AG rfl) rfl rfl hgv0 rfl|exact cqP hmw|exact PO_vindex j rfl (EL rfl) (SZ rfl) rfl rfl hj0 (by omega)|exact PO_load_mref_one rfl (AG rfl) rfl rfl hg0 rfl|exact mO));try exact kQ))
    refine PW_loop_none ?_
    (repeat first|refine uE ?_|((first|apply oR rfl rfl|(apply dF rfl rfl rfl;intro _)|(apply dP rfl rfl rfl;intro _)|(apply dL rfl rfl rfl;intro _)|apply dC rfl rfl rfl rfl);(focus(first|exact cqP hgt|exact vcut 2 rfl (EL rfl) (SZ rfl) rfl rfl rfl rfl rfl (by omega)|exact ct [] rfl rfl tw_mulAdd (hmul) rfl rfl rfl rfl rfl rfl rfl rfl rfl rfl rfl|exact PO_vindex 2 rfl (EL rfl) (SZ rfl) rfl rfl rfl (by omega)|exact PO_asH (PO_store_mref rfl (SZ rfl) rfl rfl rfl rfl (by decide) rfl hz0 (Nat.le_refl _)) (congrArg (fun l=>(⟨[[.nilp]],[],[AR gq wq,AR gu wu,AR gv wv,MO.arr 0 WT l]⟩:PH)) (wsG_set.trans (congrArg wsG hf0)))|exact PO_vlen rfl (EL rfl) rfl|exact mO));try exact kQ))
    refine sQ (fun h=> ?_) fun h=> ?_
    ·clear h
     (repeat first|refine uE ?_|((first|apply oR rfl rfl|(apply dF rfl rfl rfl;intro _)|(apply dP rfl rfl rfl;intro _)|(apply dL rfl rfl rfl;intro _)|apply dC rfl rfl rfl rfl);(focus(first|exact PO_vindex 2 rfl (EL rfl) (SZ rfl) rfl rfl rfl (by omega)|exact PO_load_mref_one rfl (AG rfl) rfl rfl hgt2 rfl|exact PO_as (vmid j (j+2) rfl (EL rfl) (SZ rfl) rfl rfl rfl rfl hj3 (by omega) (by omega) (by omega)) (show _=PV.vw 1 gu j 2 (cu-j) by rw[Nat.zero_add,Nat.add_sub_cancel_left])|exact vcut 2 rfl (EL rfl) (SZ rfl) rfl rfl rfl rfl rfl (by omega)|exact ct [] rfl rfl tw_sub (hsub) rfl rfl rfl rfl rfl rfl rfl rfl rfl rfl rfl|exact PO_vindex (j+1) rfl (EL rfl) (SZ rfl) rfl rfl hj1 (by omega)|exact PO_load_mref_one rfl (AG rfl) rfl rfl hg1 rfl|exact PO_vlen rfl (EL rfl) rfl|exact mO));try exact kQ))
     have hjj:((j:Int)==(j:Int))=true:=beq_self_eq_true _
     refine sQ (fun h=> ?_) fun h=> ?_
     ·clear h
      (repeat first|refine uE ?_|((first|apply oR rfl rfl|(apply dF rfl rfl rfl;intro _)|(apply dP rfl rfl rfl;intro _)|(apply dL rfl rfl rfl;intro _)|apply dC rfl rfl rfl rfl);(focus(first|exact PO_vlen rfl (EL rfl) rfl|exact mO));try exact kQ))
      refine sQ (fun h=> ?_) fun h=> ?_
      ·clear h
       (try refine uD ?_)
       exact⟨(j,T2),⟨by omega,hTl⟩,by dsimp only;omega,SlotsOk.le ⟨.inl rfl, .inl rfl, .inl rfl, .inl rfl, .inl rfl, .inl rfl, .inl rfl, .inl rfl, .inl (congrArg PV.g (by dsimp only;rw[if_neg (by omega),htp])), .inl (congrArg (fun z=>PV.g (.int .i64 z)) (w64 (by omega))),trivial⟩,HLe.of_eq (by
        dsimp only
        rw[Nat.min_self,quC_start,hstart,hput])⟩
      ·exfalso;rw[hjj]at h;cases h
     ·exfalso;rw[hjj]at h;cases h
    ·exfalso
     have h1:=of_decide_eq_false h
     rw[w64 (by omega)]at h1
     omega
   ·exfalso;rw[hk0]at h;cases h
  ·have hlt:j<m:=by omega
   have hUj:U[j]? =some (U[j]'(by omega)):=List.getElem?_eq_getElem (by omega)
   obtain⟨x,hx1⟩: ∃x,x=U[j]'(by omega):=⟨_,rfl⟩
   rw[←hx1]at hUj
   have hxw:=hUo.at hUj
   obtain⟨R,hRd⟩: ∃R,R=val (U.drop (j+1))%V:=⟨_,rfl⟩
   have hR:R<V:=by rw[hRd];exact Nat.mod_lt _ hVp
   have hRW:R<WB *WB:=Nat.lt_trans hR hVW
   have hBl:=uB_length (D:=V) (k:=j+1) (l:=U) (by omega)
   have hpart:((putL wu 0 (uB V U (j+1))).drop j).take 3=[x,R%WB,R/WB]:=by
    rw[putL0_part (by omega),uB_part hUj (by omega),←hRd,padD_two_eq hRW]
   have hRn:val (U.drop j)%V=(x+WB *R)%V:=by rw[val_dropB hUj,hRd];exact step_mod
   have hRnl:(x+WB *R)%V<V:=Nat.mod_lt _ hVp
   obtain⟨G,hGd⟩: ∃G,G=(x+WB *R)/V:=⟨_,rfl⟩
   have hGw:G<WB:=by rw[hGd];exact digit_ltB hxw hR
   have hqst:=quC_step (n:=m) (ws:=wq) hVp hxw hUj hlt hq
   rw[←hRd,←hGd]at hqst
   obtain⟨zq,hzq⟩:=quC_get (D:=V) (ws:=wq) (l:=U) (n:=m) (k:=j+1) (by omega) hq (i:=j) hlt
   have hgq:(wsG (quC V wq U m (j+1)))[0+j]? =some (wG zq):=wsG_get (by rw[Nat.zero_add];exact hzq)
   have hust:=uB_step hVp hVW hUj (by omega)
   rw[←hRd]at hust
   have hWput:putL (putL wu 0 (uB V U (j+1))) j (padD 3 ((x+WB *R)%V))=putL wu 0 (uB V U j):=by
    rw[putL_in (by rw[padD_length];omega),hust]
   have hgN:(wsG (putL wu 0 (uB V U j)))[0+(j+1)]? =some (wG ((x+WB *R)%V/WB)):=by
    have h1:((putL wu 0 (uB V U j)).drop j).take 3=padD 3 ((x+WB *R)%V):=by
     rw[←hWput]
     have h2:=putL_part (ws:=putL wu 0 (uB V U (j+1))) (us:=padD 3 ((x+WB *R)%V)) (off:=j) (by rw[padD_length,putL_length (by omega)];omega)
     rwa[padD_length]at h2
    have h3:=win_get (i:=1) (a:=(x+WB *R)%V/WB%WB) h1 (by decide) rfl
    rw[Nat.zero_add]
    rw[Nat.mod_eq_of_lt ((Nat.div_lt_iff_lt_mul (by decide)).2 (Nat.lt_trans hRnl hVW))]at h3
    exact wsG_get h3
   have hWo:okW (putL wu 0 (uB V U (j+1))):=putL0_ok hwo (uB_ok hUo)
   have hWl:(putL wu 0 (uB V U (j+1))).length=wu.length:=putL_length (by omega)
   have hR0:R%WB<WB:=Nat.mod_lt _ (by decide)
   have hR1:R/WB<WB:=(Nat.div_lt_iff_lt_mul (by decide)).2 hRW
   have hR1v:R/WB≤v1:=by
    refine Nat.le_of_lt_succ ((Nat.div_lt_iff_lt_mul (by decide)).2 ?_)
    rw[Nat.succ_mul,Nat.mul_comm v1]
    omega
   have hfit:=round_fit hxw hR hVW hGd
   have hov:=fun h=>round_over hVd hv0 hv1 hxw hR h hGd
   have htop:=fun h=>top_guess hVd hv0 hv1b hR hxw h
   have hRe:=Nat.mod_add_div R WB
   have hRe2:R/WB *WB+R%WB=R:=by rw[Nat.mul_comm,Nat.add_comm];exact hRe
   have hfirst: ∀H:R/WB≠v1,R/WB<v1:=fun H=>by omega
   have hstartI:R/WB<v1→WInv R x v1 v0 (R/v1) (R%v1):=fun H=>WInv.start (by
    have h2:WB *(R/WB+1)≤WB *v1:=Nat.mul_le_mul_left _ H
    rw[Nat.mul_add,Nat.mul_one]at h2
    rw[Nat.mul_comm v1]
    omega) hv1p hxw
   have hdiv:=fun H:R/WB<v1=>divWW_pc (x1:=R/WB) (x0:=R%WB) hv1n hv1 H hR0
   rw[hRe2]at hdiv
   rw[←hGd]at htop
   refine PW_weak (env':=slots [(0, .vw 0 gq 0 m cq),(2, .vw 1 gu 0 (m+2) cu),(3, .vw 2 gv 0 2 cv),(8, .g (.int .i64 2)),(9, .g (.int .i64 m)),(10, .vw 3 0 0 3 C),(11, .g (wG v1)),(12, .g (wG (recW v1))),(13, .g (wG (R/WB))),(14, .g (.int .i64 j))]) (H':=⟨[[.nilp]],[],[AR gq (quC V wq U m (j+1)),AR gu (putL wu 0 (uB V U (j+1))),AR gv wv,AR 0 T]⟩) (SlotsOk.le ⟨.inl rfl, .inl rfl, .inl rfl, .inl rfl, .inl rfl, .inl rfl, .inl rfl, .inl rfl, .inl (congrArg PV.g (by dsimp only;rw[if_neg (by omega),←hRd])), .inl (congrArg (fun z=>PV.g (.int .i64 z)) (by dsimp only;omega)),trivial⟩) (HLe.of_eq (by
    dsimp only
    rw[Nat.min_eq_left (by omega)])) ?_
   obtain⟨u0,hu0⟩: ∃u,u=R%WB:=⟨_,rfl⟩
   obtain⟨u1,hu1⟩: ∃u,u=R/WB:=⟨_,rfl⟩
   rw[←hu0]at hpart hfit hov hdiv hR0
   rw[←hu1]at hpart hfit hov hdiv hR1 hR1v hfirst hstartI htop
   rw[←hu1]
   have hj3:IntKind.i64.wrap ((j:Int)+3)=((j+3:Nat):Int):=by rw[w64 (by omega)];omega
   have hj2:IntKind.i64.wrap ((j:Int)+2)=((j+2:Nat):Int):=by rw[w64 (by omega)];omega
   have hj1:IntKind.i64.wrap (IntKind.i64.wrap ((j:Int)+2)-1)=((j+1:Nat):Int):=by rw[w64 (n:=(j:Int)+2) (by omega),w64 (by omega)];omega
   have hj0:IntKind.i64.wrap (IntKind.i64.wrap ((j:Int)+2)-2)=((j:Nat):Int):=by rw[w64 (n:=(j:Int)+2) (by omega),w64 (by omega)];omega
   have hgW0:(wsG (putL wu 0 (uB V U (j+1))))[0+j]? =some (wG x):=wsG_get (by rw[Nat.zero_add];exact win_get (i:=0) hpart (by decide) rfl)
   have hgW1:(wsG (putL wu 0 (uB V U (j+1))))[0+(j+1)]? =some (wG u0):=wsG_get (by rw[Nat.zero_add];exact win_get (i:=1) hpart (by decide) rfl)
   clear hx1
   clear hUo hU hUl hstart hput ht
   obtain⟨W,hW⟩: ∃W,W=putL wu 0 (uB V U (j+1)):=⟨_,rfl⟩
   obtain⟨Q,hQ⟩: ∃Q,Q=quC V wq U m (j+1):=⟨_,rfl⟩
   rw[←hW]at hpart hWput hWo hWl hgW0 hgW1
   rw[←hQ]at hqst hgq
   rw[←hW,←hQ]
   (repeat first|refine uF ?_|((first|apply oR rfl rfl|(apply dF rfl rfl rfl;intro _)|(apply dP rfl rfl rfl;intro _)|(apply dL rfl rfl rfl;intro _)|apply dC rfl rfl rfl rfl);(focus(first|exact mO));try exact kQ)|refine xU [11] rfl ?_)
   refine PW_cut_ex (S:=Nat) (fun g=>slots [(0, .vw 0 gq 0 m cq),(2, .vw 1 gu 0 (m+2) cu),(3, .vw 2 gv 0 2 cv),(8, .g (.int .i64 2)),(9, .g (.int .i64 m)),(10, .vw 3 0 0 3 C),(11, .g (wG v1)),(12, .g (wG (recW v1))),(14, .g (.int .i64 j)),(15, .g (wG g))]) (fun _=>⟨[[.nilp]],[],[AR gq Q,AR gu W,AR gv wv,AR 0 T]⟩) (fun g=>g=G∨(g=G+1∧G+1<WB)) ?_ ?_
   ·skip
    (try refine uD ?_)
    refine sQ (fun h=> ?_) fun h=> ?_
    ·have hne:u1≠v1:=fun e=>by rw[e]at h;simp at h
     clear h
     have hl:=hfirst hne
     have hd:=hdiv hl
     have hI0:=hstartI hl
     have hmw:=mulWW_pc (x:=R/v1) (y:=v0) hI0.b hv0
     have hr0:R%v1<WB:=Nat.lt_trans (Nat.mod_lt _ hv1p) hv1
     have hGeq:(R *WB+x)/(v1 *WB+v0)=G:=by rw[hV2,Nat.mul_comm R,Nat.add_comm,←hGd]
     (repeat first|refine uE ?_|((first|apply oR rfl rfl|(apply dF rfl rfl rfl;intro _)|(apply dP rfl rfl rfl;intro _)|(apply dL rfl rfl rfl;intro _)|apply dC rfl rfl rfl rfl);(focus(first|exact PO_vindex (j+1) rfl (EL rfl) (SZ rfl) rfl rfl hj1 (by omega)|exact PO_load_mref_one rfl (AG rfl) rfl rfl hgW1 rfl|exact cqP hd|exact PO_vindex 0 rfl (EL rfl) (SZ rfl) rfl rfl (show IntKind.i64.wrap (2-2)=((0:Nat):Int) by decide) (by decide)|exact PO_load_mref_one rfl (AG rfl) rfl rfl hgv0 rfl|exact cqP hmw|exact PO_vindex j rfl (EL rfl) (SZ rfl) rfl rfl hj0 (by omega)|exact PO_load_mref_one rfl (AG rfl) rfl rfl hgW0 rfl|exact mO));try exact kQ))
     refine PW_loop (S:=Nat×Nat) (fun q=>slots [(0, .vw 0 gq 0 m cq),(2, .vw 1 gu 0 (m+2) cu),(3, .vw 2 gv 0 2 cv),(8, .g (.int .i64 2)),(9, .g (.int .i64 m)),(10, .vw 3 0 0 3 C),(11, .g (wG v1)),(12, .g (wG (recW v1))),(14, .g (.int .i64 j)),(15, .g (wG q.1)),(16, .g (wG q.2)),(17, .g (wG v0)),(18, .g (wG (q.1 *v0/WB))),(19, .g (wG (q.1 *v0%WB))),(20, .g (wG x))]) (fun _=>⟨[[.nilp]],[],[AR gq Q,AR gu W,AR gv wv,AR 0 T]⟩) (fun q=>WInv R x v1 v0 q.1 q.2∧q.2<WB) (fun q=>q.1) (R/v1,R%v1) ⟨hI0,hr0⟩
      (SlotsOk.le ⟨.inl rfl, .inl rfl, .inl rfl, .inl rfl, .inl rfl, .inl rfl, .inl rfl, .inl rfl, .inl rfl, .inl rfl, .inl rfl, .inl rfl, .inl rfl, .inl rfl, .inl rfl,trivial⟩) (HLe.of_eq rfl) (fun q hq=> ?_)
     obtain⟨g,r⟩:=q
     obtain⟨hI,hrw⟩:=hq
     dsimp only at hI hrw
     have hgt:=greater_pc (a:=g *v0/WB) (b:=g *v0%WB) (c:=r) (d:=x) (Nat.mod_lt _ (by decide)) hxw
     rw[Nat.div_add_mod' (g *v0) WB]at hgt
     (repeat first|refine uE ?_|((first|apply oR rfl rfl|(apply dF rfl rfl rfl;intro _)|(apply dP rfl rfl rfl;intro _)|(apply dL rfl rfl rfl;intro _)|apply dC rfl rfl rfl rfl);(focus(first|exact cqP hgt|exact mO));try exact kQ))
     refine sQ (fun h=> ?_) fun h=> ?_
     ·have hlt2:=of_decide_eq_true h
      clear h
      obtain⟨hg1,hI'⟩:=hI.over hv1p hlt2
      obtain⟨p1,p2,p3⟩:=less_word (p:=g *v0) hv0 (Nat.le_mul_of_pos_left _ hg1)
      rw[←Nat.sub_one_mul]at p1 p2
      have e1:=dec1 hg1 hI.b
      have e2:=add_word (a:=r) (v:=v1)
      have hpw:g *v0/WB<WB:=(Nat.div_lt_iff_lt_mul (by decide)).2 (Nat.lt_of_le_of_lt (Nat.mul_le_mul (Nat.le_of_lt hI.b) (Nat.le_refl v0)) (Nat.mul_lt_mul_of_pos_left hv0 (by decide)))
      have hpm:g *v0%WB<WB:=Nat.mod_lt _ (by decide)
      have e3:=sub_word hpm hv0
      rw[←p2]at e3
      (try refine uD ?_)
      refine sQ (fun h=> ?_) fun h=> ?_
      ·have hr2:WB≤r+v1:=by
        rw[e2]at h
        have h1:=of_decide_eq_true h
        rcases Nat.lt_or_ge (r+v1) WB with h2|h2
        ·rw[Nat.mod_eq_of_lt h2]at h1;omega
        ·exact h2
       have hGe:=hI'.broke hv1p hv0 hr2
       rw[hGeq]at hGe
       clear h
       (try refine uD ?_)
       exact⟨g-1, .inl hGe.symm,SlotsOk.le ⟨.inl rfl, .inl rfl, .inl rfl, .inl rfl, .inl rfl, .inl rfl, .inl rfl, .inl rfl, .inl rfl, .inl (congrArg (fun k=>PV.g (.int .u64 k)) e1),trivial⟩,HLe.of_eq rfl⟩
      ·have hr2:r+v1<WB:=by
        rw[e2]at h
        have h1:=of_decide_eq_false h
        rcases Nat.lt_or_ge (r+v1) WB with h2|h2
        ·exact h2
        ·exfalso
         have h3:(r+v1)%WB=r+v1-WB:=by rw[Nat.mod_eq_sub_mod h2,Nat.mod_eq_of_lt (by omega)]
         omega
       rw[Nat.mod_eq_of_lt hr2]at e2
       clear h
       (try refine uD ?_)
       refine sQ (fun h=> ?_) fun h=> ?_
       ·have hw:g *v0%WB<v0:=by have h1:=of_decide_eq_true h;dsimp only at h1;omega
        rw[if_pos hw]at p1
        have e4:=dec1 (p3 hw) hpw
        rw[←p1]at e4
        clear h
        (try refine uD ?_)
        exact⟨(g-1,r+v1),⟨hI',hr2⟩,by dsimp only;omega,SlotsOk.le ⟨.inl rfl, .inl rfl, .inl rfl, .inl rfl, .inl rfl, .inl rfl, .inl rfl, .inl rfl, .inl rfl, .inl (congrArg (fun k=>PV.g (.int .u64 k)) e1), .inl (congrArg (fun k=>PV.g (.int .u64 k)) e2), .inl rfl, .inl (congrArg (fun k=>PV.g (.int .u64 k)) e4), .inl (congrArg (fun k=>PV.g (.int .u64 k)) e3), .inl rfl,trivial⟩,HLe.of_eq rfl⟩
       ·have hw: ¬g *v0%WB<v0:=by have h1:=of_decide_eq_false h;dsimp only at h1;omega
        rw[if_neg hw]at p1
        clear h
        (try refine uD ?_)
        exact⟨(g-1,r+v1),⟨hI',hr2⟩,by dsimp only;omega,SlotsOk.le ⟨.inl rfl, .inl rfl, .inl rfl, .inl rfl, .inl rfl, .inl rfl, .inl rfl, .inl rfl, .inl rfl, .inl (congrArg (fun k=>PV.g (.int .u64 k)) e1), .inl (congrArg (fun k=>PV.g (.int .u64 k)) e2), .inl rfl, .inl (congrArg (fun k:Nat=>PV.g (.int .u64 k)) p1.symm), .inl (congrArg (fun k=>PV.g (.int .u64 k)) e3), .inl rfl,trivial⟩,HLe.of_eq rfl⟩
     ·have hGe:=hI.done hv1p (by have:=of_decide_eq_false h;omega)
      rw[hGeq]at hGe
      clear h
      (try refine uD ?_)
      exact⟨g, .inl hGe.symm,SlotsOk.le ⟨.inl rfl, .inl rfl, .inl rfl, .inl rfl, .inl rfl, .inl rfl, .inl rfl, .inl rfl, .inl rfl, .inl rfl,trivial⟩,HLe.of_eq rfl⟩
    ·have he:u1=v1:=by
      rcases Nat.lt_or_ge u1 v1 with h2|h2
      ·exfalso;rw[show((u1:Int) !=(v1:Int))=true from bne_iff_ne.2 (by omega)]at h;cases h
      ·omega
     clear h
     (try refine uD ?_)
     rcases htop he with e|e
     ·exact⟨G, .inl rfl,SlotsOk.le ⟨.inl rfl, .inl rfl, .inl rfl, .inl rfl, .inl rfl, .inl rfl, .inl rfl, .inl rfl, .inl rfl, .inl (by rw[e];rfl),trivial⟩,HLe.of_eq rfl⟩
     ·exact⟨G+1, .inr ⟨rfl,by rw[e];decide⟩,SlotsOk.le ⟨.inl rfl, .inl rfl, .inl rfl, .inl rfl, .inl rfl, .inl rfl, .inl rfl, .inl rfl, .inl rfl, .inl (by rw[e];rfl),trivial⟩,HLe.of_eq rfl⟩
   ·intro gg hgg
    have hqst':Q.set (0+j) G=quC V wq U m j:=by rw[Nat.zero_add];exact hqst
    rcases hgg with e|⟨e,hG1⟩
    ·rw[e]
     clear e gg
     have hmul:=mulAddV_vpc (g:=0) (o:=0) (n:=2) (cap:=C) (g1:=gv) (o1:=0) (c1:=cv) (ws:=T) (y:=G) (r:=0) hvv hvo rfl (by decide) hGw (by decide) (by omega)
     obtain⟨z,hz0⟩:=hz G
     have hf0:=hfin G hGw
     obtain⟨c0,hc0⟩: ∃c,c=mulAddC [v0,v1] G 0:=⟨_,rfl⟩
     rw[←hc0]at hmul hf0
     have hT3:((putL T 0 (padD 3 (G *V))).drop 0).take 3=padD 3 (G *V):=by
      rw[putL0_part (by rw[padD_length];exact Nat.le_refl _),List.drop_zero,List.take_of_length_le (by rw[padD_length];exact Nat.le_refl _)]
     have hTl:(putL T 0 (padD 3 (G *V))).length=C:=by rw[putL_length (by rw[padD_length];omega),hT]
     have hsub:=subVV_pc (g:=gu) (o:=j) (n:=3) (cap:=cu-j) (cap':=cu-j) (g1:=0) (o1:=0) (c1:=C) (ws:=W) (xs:=[x,u0,u1]) (ys:=padD 3 (G *V)) (ws1:=putL T 0 (padD 3 (G *V))) hT3 hWo hpart (padD_ok _ _) (padD_length _ _) (by unfold maxLen;omega) (by omega)
     rw[hfit.1,hfit.2,hWput]at hsub
     generalize putL T 0 (padD 3 (G *V))=T2 at *
     (repeat first|refine uE ?_|((first|apply oR rfl rfl|(apply dF rfl rfl rfl;intro _)|(apply dP rfl rfl rfl;intro _)|(apply dL rfl rfl rfl;intro _)|apply dC rfl rfl rfl rfl);(focus(first|exact vcut 2 rfl (EL rfl) (SZ rfl) rfl rfl rfl rfl rfl (by omega)|exact ct [] rfl rfl tw_mulAdd (hmul) rfl rfl rfl rfl rfl rfl rfl rfl rfl rfl rfl|exact PO_vindex 2 rfl (EL rfl) (SZ rfl) rfl rfl rfl (by omega)|exact PO_asH (PO_store_mref rfl (SZ rfl) rfl rfl rfl rfl (by decide) rfl hz0 (Nat.le_refl _)) (congrArg (fun l=>(⟨[[.nilp]],[],[AR gq Q,AR gu W,AR gv wv,MO.arr 0 WT l]⟩:PH)) (wsG_set.trans (congrArg wsG hf0)))|exact PO_vlen rfl (EL rfl) rfl|exact mO));try exact kQ))
     refine sQ (fun h=> ?_) fun h=> ?_
     ·exfalso
      have h1:=of_decide_eq_true h
      rw[w64 (by omega)]at h1
      omega
     clear h
     (repeat first|refine uE ?_|((first|apply oR rfl rfl|(apply dF rfl rfl rfl;intro _)|(apply dP rfl rfl rfl;intro _)|(apply dL rfl rfl rfl;intro _)|apply dC rfl rfl rfl rfl);(focus(first|exact PO_as (vmid j (j+3) rfl (EL rfl) (SZ rfl) rfl rfl rfl rfl hj3 (by omega) (by omega) (by omega)) (show _=PV.vw 1 gu j 3 (cu-j) by rw[Nat.zero_add,Nat.add_sub_cancel_left])|exact vcut 3 rfl (EL rfl) (SZ rfl) rfl rfl rfl rfl rfl (by omega)|exact ct [] rfl rfl tw_sub (hsub) rfl rfl rfl rfl rfl rfl rfl rfl rfl rfl rfl|exact PO_vindex (j+1) rfl (EL rfl) (SZ rfl) rfl rfl hj1 (by omega)|exact PO_load_mref_one rfl (AG rfl) rfl rfl hgN rfl|exact PO_vlen rfl (EL rfl) rfl|exact mO));try exact kQ))
     refine sQ (fun h=> ?_) fun h=> ?_
     ·exfalso;have:=beq_iff_eq.1 h;omega
     clear h
     (repeat first|refine uE ?_|((first|apply oR rfl rfl|(apply dF rfl rfl rfl;intro _)|(apply dP rfl rfl rfl;intro _)|(apply dL rfl rfl rfl;intro _)|apply dC rfl rfl rfl rfl);(focus(first|exact PO_vlen rfl (EL rfl) rfl|exact PO_vindex j rfl (EL rfl) (SZ rfl) rfl rfl rfl (by omega)|exact PO_asH (PO_store_mref rfl (SZ rfl) rfl rfl rfl rfl (by decide) rfl hgq (Nat.le_refl _)) (congrArg (fun l=>(⟨[[.nilp]],[],[MO.arr gq WT l,AR gu (putL wu 0 (uB V U j)),AR gv wv,AR 0 T2]⟩:PH)) (wsG_set.trans (congrArg wsG hqst')))|exact mO));try exact kQ))
     exact⟨(j,T2),⟨by omega,hTl⟩,by dsimp only;omega,SlotsOk.le ⟨.inl rfl, .inl rfl, .inl rfl, .inl rfl, .inl rfl, .inl rfl, .inl rfl, .inl rfl, .inl (congrArg PV.g (by dsimp only;rw[if_neg (by omega),hRn])), .inl (congrArg (fun z=>PV.g (.int .i64 z)) (w64 (by omega))),trivial⟩,HLe.of_eq (by
      dsimp only
      rw[Nat.min_eq_left (by omega)])⟩
    ·rw[e]
     clear e gg
     have hmul:=mulAddV_vpc (g:=0) (o:=0) (n:=2) (cap:=C) (g1:=gv) (o1:=0) (c1:=cv) (ws:=T) (y:=G+1) (r:=0) hvv hvo rfl (by decide) hG1 (by decide) (by omega)
     obtain⟨z,hz0⟩:=hz (G+1)
     have hf0:=hfin (G+1) hG1
     obtain⟨c0,hc0⟩: ∃c,c=mulAddC [v0,v1] (G+1) 0:=⟨_,rfl⟩
     rw[←hc0]at hmul hf0
     have hT3:((putL T 0 (padD 3 ((G+1) *V))).drop 0).take 3=padD 3 ((G+1) *V):=by
      rw[putL0_part (by rw[padD_length];exact Nat.le_refl _),List.drop_zero,List.take_of_length_le (by rw[padD_length];exact Nat.le_refl _)]
     have hTl:(putL T 0 (padD 3 ((G+1) *V))).length=C:=by rw[putL_length (by rw[padD_length];omega),hT]
     have hsub:=subVV_pc (g:=gu) (o:=j) (n:=3) (cap:=cu-j) (cap':=cu-j) (g1:=0) (o1:=0) (c1:=C) (ws:=W) (xs:=[x,u0,u1]) (ys:=padD 3 ((G+1) *V)) (ws1:=putL T 0 (padD 3 ((G+1) *V))) hT3 hWo hpart (padD_ok _ _) (padD_length _ _) (by unfold maxLen;omega) (by omega)
     obtain⟨s0,s1,s2,q1,q2,q3,q4,q5⟩:=hov hG1
     rw[q1,q2]at hsub
     have hso:okW [s0,s1,s2]:=by rw[←q1];exact subW_ok _ _ _
     have hp3:((putL W j [s0,s1,s2]).drop j).take 3=[s0,s1,s2]:=putL_part (ws:=W) (us:=[s0,s1,s2]) (off:=j) (by show j+3≤_;omega)
     have hp2:((putL W j [s0,s1,s2]).drop j).take 2=[s0,s1]:=by
      have:=congrArg (List.take 2) hp3
      rw[List.take_take]at this
      exact this
     have hWl1:(putL W j [s0,s1,s2]).length=wu.length:=by rw[putL_length (by show j+3≤_;omega),hWl]
     have hadd:=addVV_pc (g:=gu) (o:=j) (n:=2) (cap:=cu-j) (cap':=cu-j) (g1:=gv) (o1:=0) (c1:=cv) (ws:=putL W j [s0,s1,s2]) (xs:=[s0,s1]) (ys:=[v0,v1]) (ws1:=wv) hvv (putL_ok j hWo hso) hp2 hvo rfl (by unfold maxLen;omega) (by omega)
     have hal:(addW [s0,s1] [v0,v1] 0).length=2:=addW_length (x:=[s0,s1]) (y:=[v0,v1]) (c:=0) rfl
     have hgs:(wsG (putL (putL W j [s0,s1,s2]) j (addW [s0,s1] [v0,v1] 0)))[0+(j+2)]? =some (wG s2):=wsG_get (by
      rw[Nat.zero_add,putL_get (by omega)]
      exact win_get (i:=2) hp3 (by decide) rfl)
     have hset:(putL (putL W j [s0,s1,s2]) j (addW [s0,s1] [v0,v1] 0)).set (0+(j+2)) ((s2+addC [s0,s1] [v0,v1] 0)%WB)=putL wu 0 (uB V U j):=by
      rw[Nat.zero_add,set_putL hal (by omega),q5,putL_putL (by rw[padD_length];rfl) (by show j+3≤_;omega),hWput]
     generalize putL T 0 (padD 3 ((G+1) *V))=T2 at *
     generalize addW [s0,s1] [v0,v1] 0=aw at *
     generalize addC [s0,s1] [v0,v1] 0=ac at *
     generalize putL W j [s0,s1,s2]=Wa at *
     generalize putL Wa j aw=Wb at *
     have hsw:wG ((s2+ac)%WB)=GV.int .u64 (IntKind.u64.wrap ((s2:Int)+(ac:Int))):=congrArg (GV.int .u64) add_word.symm
     have hdec:=dec1 (g:=G+1) (by omega) hG1
     (repeat first|refine uE ?_|((first|apply oR rfl rfl|(apply dF rfl rfl rfl;intro _)|(apply dP rfl rfl rfl;intro _)|(apply dL rfl rfl rfl;intro _)|apply dC rfl rfl rfl rfl);(focus(first|exact vcut 2 rfl (EL rfl) (SZ rfl) rfl rfl rfl rfl rfl (by omega)|exact ct [] rfl rfl tw_mulAdd (hmul) rfl rfl rfl rfl rfl rfl rfl rfl rfl rfl rfl|exact PO_vindex 2 rfl (EL rfl) (SZ rfl) rfl rfl rfl (by omega)|exact PO_asH (PO_store_mref rfl (SZ rfl) rfl rfl rfl rfl (by decide) rfl hz0 (Nat.le_refl _)) (congrArg (fun l=>(⟨[[.nilp]],[],[AR gq Q,AR gu W,AR gv wv,MO.arr 0 WT l]⟩:PH)) (wsG_set.trans (congrArg wsG hf0)))|exact PO_vlen rfl (EL rfl) rfl|exact mO));try exact kQ))
     refine sQ (fun h=> ?_) fun h=> ?_
     ·exfalso
      have h1:=of_decide_eq_true h
      rw[w64 (by omega)]at h1
      omega
     clear h
     (repeat first|refine uF ?_|((first|apply oR rfl rfl|(apply dF rfl rfl rfl;intro _)|(apply dP rfl rfl rfl;intro _)|(apply dL rfl rfl rfl;intro _)|apply dC rfl rfl rfl rfl);(focus(first|exact PO_as (vmid j (j+3) rfl (EL rfl) (SZ rfl) rfl rfl rfl rfl hj3 (by omega) (by omega) (by omega)) (show _=PV.vw 1 gu j 3 (cu-j) by rw[Nat.zero_add,Nat.add_sub_cancel_left])|exact vcut 3 rfl (EL rfl) (SZ rfl) rfl rfl rfl rfl rfl (by omega)|exact ct [] rfl rfl tw_sub (hsub) rfl rfl rfl rfl rfl rfl rfl rfl rfl rfl rfl|exact PO_as (vmid j (j+2) rfl (EL rfl) (SZ rfl) rfl rfl rfl rfl hj2 (by omega) (by omega) (by omega)) (show _=PV.vw 1 gu j 2 (cu-j) by rw[Nat.zero_add,Nat.add_sub_cancel_left])|exact ct [] rfl rfl tw_add (hadd) rfl rfl rfl rfl rfl rfl rfl rfl rfl rfl rfl|exact PO_vindex (j+2) rfl (EL rfl) (SZ rfl) rfl rfl hj2 (by omega)|exact PO_load_mref_one rfl (AG rfl) rfl rfl hgs rfl|exact PO_asH (PO_store_mref rfl (SZ rfl) rfl rfl rfl rfl (by decide) rfl hgs (Nat.le_refl _)) (congrArg (fun l=>(⟨[[.nilp]],[],[AR gq Q,MO.arr gu WT l,AR gv wv,AR 0 T2]⟩:PH)) ((congrArg ((wsG Wb).set (0+(j+2))) hsw.symm).trans (wsG_set.trans (congrArg wsG hset))))|exact PO_vindex (j+1) rfl (EL rfl) (SZ rfl) rfl rfl hj1 (by omega)|exact PO_load_mref_one rfl (AG rfl) rfl rfl hgN rfl|exact PO_vlen rfl (EL rfl) rfl|exact mO));try exact kQ)|refine xU [34] rfl ?_)
     refine PW_weak (env':=slots [(0, .vw 0 gq 0 m cq),(2, .vw 1 gu 0 (m+2) cu),(3, .vw 2 gv 0 2 cv),(8, .g (.int .i64 2)),(9, .g (.int .i64 m)),(10, .vw 3 0 0 3 C),(11, .g (wG v1)),(12, .g (wG (recW v1))),(14, .g (.int .i64 j)),(15, .g (wG G))]) (H':=⟨[[.nilp]],[],[AR gq Q,AR gu (putL wu 0 (uB V U j)),AR gv wv,AR 0 T2]⟩) (SlotsOk.le ⟨.inl rfl, .inl rfl, .inl rfl, .inl rfl, .inl rfl, .inl rfl, .inl rfl, .inl rfl, .inl rfl, .inl (congrArg (fun k=>PV.g (.int .u64 k)) hdec),trivial⟩) (HLe.of_eq rfl) ?_
     (repeat first|refine uE ?_|((first|apply oR rfl rfl|(apply dF rfl rfl rfl;intro _)|(apply dP rfl rfl rfl;intro _)|(apply dL rfl rfl rfl;intro _)|apply dC rfl rfl rfl rfl);(focus(first|exact PO_vindex (j+1) rfl (EL rfl) (SZ rfl) rfl rfl hj1 (by omega)|exact PO_load_mref_one rfl (AG rfl) rfl rfl hgN rfl|exact PO_vlen rfl (EL rfl) rfl|exact mO));try exact kQ))
     refine sQ (fun h=> ?_) fun h=> ?_
     ·exfalso;have:=beq_iff_eq.1 h;omega
     clear h
     (repeat first|refine uE ?_|((first|apply oR rfl rfl|(apply dF rfl rfl rfl;intro _)|(apply dP rfl rfl rfl;intro _)|(apply dL rfl rfl rfl;intro _)|apply dC rfl rfl rfl rfl);(focus(first|exact PO_vlen rfl (EL rfl) rfl|exact PO_vindex j rfl (EL rfl) (SZ rfl) rfl rfl rfl (by omega)|exact PO_asH (PO_store_mref rfl (SZ rfl) rfl rfl rfl rfl (by decide) rfl hgq (Nat.le_refl _)) (congrArg (fun l=>(⟨[[.nilp]],[],[MO.arr gq WT l,AR gu (putL wu 0 (uB V U j)),AR gv wv,AR 0 T2]⟩:PH)) (wsG_set.trans (congrArg wsG hqst')))|exact mO));try exact kQ))
     exact⟨(j,T2),⟨by omega,hTl⟩,by dsimp only;omega,SlotsOk.le ⟨.inl rfl, .inl rfl, .inl rfl, .inl rfl, .inl rfl, .inl rfl, .inl rfl, .inl rfl, .inl (congrArg PV.g (by dsimp only;rw[if_neg (by omega),hRn])), .inl (congrArg (fun z=>PV.g (.int .i64 z)) (w64 (by omega))),trivial⟩,HLe.of_eq (by
      dsimp only
      rw[Nat.min_eq_left (by omega)])⟩
end Go.Proofs.YtdoenpeadkoklaaGreatFmtBesafter