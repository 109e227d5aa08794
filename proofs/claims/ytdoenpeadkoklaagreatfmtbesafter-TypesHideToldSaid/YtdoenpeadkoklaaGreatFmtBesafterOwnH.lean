/- What the program's functions compute, each shown once; and plain laws of it. -/
import Derived.Test.YtdoenpeadkoklaaGreatFmtBesafterOwnG
set_option maxRecDepth 100000
set_option maxHeartbeats 32000000
namespace Go.Proofs.YtdoenpeadkoklaaGreatFmtBesafter
open Go Go.Pure
attribute [local irreducible] PW POps POpsD PO PC Cond
theorem tw_addMul(args:Array Value)(w:World):(callFunc 168 args).run Tryz.prog w= .ok (.enter 70 args) w:=
 run_callFunc_twin (twin:=Tryz.f70.name) Tryz.func168 (by kernel_rfl) (by kernel_rfl) (by kernel_rfl) (by kernel_rfl) Tryz.func70 (by kernel_rfl) (by kernel_rfl) (by kernel_rfl) args w
theorem tw_mulAdd(args:Array Value)(w:World):(callFunc 164 args).run Tryz.prog w= .ok (.enter 69 args) w:=
 run_callFunc_twin (twin:=Tryz.f69.name) Tryz.func164 (by kernel_rfl) (by kernel_rfl) (by kernel_rfl) (by kernel_rfl) Tryz.func69 (by kernel_rfl) (by kernel_rfl) (by kernel_rfl) args w
theorem putL_zero(ws zs:List Nat):putL ws 0 zs=zs++ws.drop zs.length:=by simp[putL]
theorem putL_in{ws zs us:List Nat}{i:Nat}(h:i+us.length≤zs.length):putL (putL ws 0 zs) i us=putL ws 0 (putL zs i us):=by
 rw[putL_zero,putL_zero,putL_length h]
 unfold putL
 rw[List.take_append_of_le_length (by omega),List.drop_append_of_le_length h]
 simp
theorem part_in{ws zs:List Nat}{i n:Nat}(h:i+n≤zs.length):((putL ws 0 zs).drop i).take n=(zs.drop i).take n:=by
 rw[putL_zero,List.drop_append_of_le_length (by omega),List.take_append_of_le_length (by simp;omega)]
theorem putL0_ok{ws zs:List Nat}(h1:okW ws)(h2:okW zs):okW (putL ws 0 zs):=putL_ok 0 h1 h2
theorem basicMul_pc{g cap:Nat}{ws xs ys:List Nat}(hws:okW ws)(hx:okW xs)(hy:okW ys)(hn:(wsG xs).length+(wsG ys).length≤ws.length)(hcap:(wsG xs).length+(wsG ys).length≤cap)(hm:(wsG xs).length+(wsG ys).length≤100000)(hx1:1≤(wsG xs).length):
  PC Tryz.prog 140 [.vw 0 g 0 ((wsG xs).length+(wsG ys).length) cap, .g (.sl (wsG xs)), .g (.sl (wsG ys))] ⟨[],[],[AR g ws]⟩ (.tuple []) ⟨[],[],[AR g (putL ws 0 (padD ((wsG xs).length+(wsG ys).length) (val xs *val ys)))]⟩:=by
 have hnx:(wsG xs).length=xs.length:=wsG_length xs
 have hny:(wsG ys).length=ys.length:=wsG_length ys
 have hadd:IntKind.i64.wrap (((wsG xs).length:Int)+((wsG ys).length:Int))=(((wsG xs).length+(wsG ys).length:Nat):Int):=by rw[w64 (by omega)];omega
 have hclr:putAt (wsG ws) 0 (List.replicate ((wsG xs).length+(wsG ys).length) (constG (.int .u64 0)))=wsG (putL ws 0 (List.replicate ((wsG xs).length+(wsG ys).length) 0)):=by
  unfold putAt putL wsG
  simp[wG,constG]
 refine eN Tryz.func140 ?_
 (repeat first|refine uE ?_|((first|apply oR rfl rfl|(apply dF rfl rfl rfl;intro _)|(apply dP rfl rfl rfl;intro _)|(apply dL rfl rfl rfl;intro _)|apply dC rfl rfl rfl rfl);(focus(first|exact PO_vlen rfl (EL rfl) rfl|exact vcut ((wsG xs).length+(wsG ys).length) rfl (EL rfl) (SZ rfl) rfl rfl rfl rfl hadd hcap|exact PO_asH (PO_vclear rfl (EL rfl) (ZR rfl) rfl (SZ rfl) rfl rfl (by rw[wsG_length ws];omega)) (congrArg (fun l=>(⟨[],[],[MO.arr g WT l]⟩:PH)) hclr)|exact mO));try exact kQ))
 refine PW_loop (S:=Nat×List Nat) (fun s=>slots [(0, .vw 0 g 0 ((wsG xs).length+(wsG ys).length) cap),(1, .g (.sl (wsG xs))),(15, .g (.sl (wsG ys))),(16, .g (.int .i64 ((wsG ys).length:Nat))),(17, .g (.int .i64 s.1))]) (fun s=>⟨[],[],[AR g (putL ws 0 s.2)]⟩) (fun s=>s.1≤(wsG ys).length∧MulInv xs ys s.2 s.1) (fun s=>(wsG ys).length-s.1) (0,List.replicate ((wsG xs).length+(wsG ys).length) 0) ⟨Nat.zero_le _,by have h:=MulInv.start xs ys;rw[show xs.length+ys.length=(wsG xs).length+(wsG ys).length by omega]at h;exact h⟩
  (SlotsOk.le ?_) (HLe.of_eq ?_) (fun s hs=> ?_)
 ·exact⟨.inl rfl, .inl rfl, .inl rfl, .inl rfl, .inl rfl,trivial⟩
 ·rfl
 obtain⟨i,zs⟩:=s
 obtain⟨hi,hI⟩:=hs
 simp only at hi hI
 have hzl:=hI.len
 (try refine uD ?_)
 refine sQ (fun h=> ?_) fun h=> ?_
 ·have hlt:i<(wsG ys).length:=by have:=of_decide_eq_true h;omega
  have hyi:ys[i]? =some (ys[i]'(by omega)):=List.getElem?_eq_getElem (by omega)
  generalize ys[i]'(by omega)=d at hyi
  have hg:(wsG ys)[(i:Int).toNat]? =some (wG d):=wsG_get hyi
  have hd:d<WB:=hy.at hyi
  clear h
  (repeat first|refine uE ?_|((first|apply oR rfl rfl|(apply dF rfl rfl rfl;intro _)|(apply dP rfl rfl rfl;intro _)|(apply dL rfl rfl rfl;intro _)|apply dC rfl rfl rfl rfl);(focus(first|exact iA rfl (EL rfl) (SZ rfl) rfl rfl (Int.natCast_nonneg _) hg rfl|exact mO));try exact kQ))
  refine sQ (fun h=> ?_) fun h=> ?_
  ·have hd0:d≠0:=fun e=>by subst e;simp at h
   have hstep:=hI.step hx hyi hd
   have hpl:((zs.drop i).take xs.length).length=xs.length:=by simp;omega
   have hul:(addMulW ((zs.drop i).take xs.length) xs d 0).length=xs.length:=by rw[addMulW_length hpl,hpl]
   have hcall:=addMulV_pc (g:=g) (o:=i) (n:=(wsG xs).length) (cap:=cap-i) (cap':=cap-i) (ws:=putL ws 0 zs) (xs:=(zs.drop i).take xs.length) (ys:=xs) (m:=d) (a:=0) (putL0_ok hws hI.ok) (by rw[hnx];exact part_in (by omega)) hx hnx.symm (by unfold maxLen;omega) hd (by decide) (by rw[putL_zero];simp;omega)
   have hsum:IntKind.i64.wrap ((i:Int)+((wsG xs).length:Int))=((i+(wsG xs).length:Nat):Int):=by rw[w64 (by omega)];omega
   have hsum2:IntKind.i64.wrap (((wsG xs).length:Int)+(i:Int))=(((wsG xs).length+i:Nat):Int):=by rw[w64 (by omega)];omega
   have hset:putL (putL ws 0 zs) i (addMulW ((zs.drop i).take xs.length) xs d 0++[addMulC ((zs.drop i).take xs.length) xs d 0])=putL ws 0 (rowW zs xs i d):=putL_in (by rw[List.length_append,hul];simp;omega)
   have hz:(wsG (putL (putL ws 0 zs) i (addMulW ((zs.drop i).take xs.length) xs d 0)))[0+((wsG xs).length+i)]? =some (wG ((putL (putL ws 0 zs) i (addMulW ((zs.drop i).take xs.length) xs d 0))[(wsG xs).length+i]'(by rw[putL_length (by rw[hul,putL_zero];simp;omega),putL_zero];simp;omega))):=wsG_get (by rw[Nat.zero_add];exact List.getElem?_eq_getElem _)
   generalize(putL (putL ws 0 zs) i (addMulW ((zs.drop i).take xs.length) xs d 0))[(wsG xs).length+i]'(by rw[putL_length (by rw[hul,putL_zero];simp;omega),putL_zero];simp;omega)=q at hz
   clear h
   (repeat first|refine uE ?_|(apply dR rfl rfl;focus(first|exact Cond_mstore rfl (SZ rfl) rfl rfl rfl rfl (by decide) rfl hz (Nat.le_refl _)))|((first|apply oR rfl rfl|(apply dF rfl rfl rfl;intro _)|(apply dP rfl rfl rfl;intro _)|(apply dL rfl rfl rfl;intro _)|apply dC rfl rfl rfl rfl);(focus(first|exact PO_vlen rfl (EL rfl) rfl|exact PO_as (vmid i (i+(wsG xs).length) rfl (EL rfl) (SZ rfl) rfl rfl rfl rfl hsum (by omega) (by omega) (by omega)) (show _=PV.vw 0 g i ((wsG xs).length) (cap-i) by rw[Nat.zero_add,Nat.add_sub_cancel_left])|exact ct [] rfl rfl tw_addMul (hcall) rfl rfl rfl rfl rfl rfl rfl rfl rfl rfl rfl|exact PO_vindex ((wsG xs).length+i) rfl (EL rfl) (SZ rfl) rfl rfl hsum2 (by omega)|exact mO));try exact kQ))
   exact⟨(i+1,rowW zs xs i d),⟨hlt,hstep⟩,by simp only;omega,SlotsOk.le ⟨.inl rfl, .inl rfl, .inl rfl, .inl rfl, .inl (congrArg (fun k=>PV.g (.int .i64 k)) (w64 (by simp only;omega))),trivial⟩,
    HLe.of_eq (by
     rw[←hset,←set_putL hul (by rw[putL_zero];simp;omega),show i+xs.length=0+((wsG xs).length+i) by omega]
     exact congrArg (fun l=>(⟨[],[],[MO.arr g WT l]⟩:PH)) wsG_set)⟩
  ·have hd0:d=0:=by have:=h;simp at this;omega
   subst hd0
   clear h
   (try refine uD ?_)
   exact⟨(i+1,zs),⟨hlt,hI.skip hyi⟩,by simp only;omega,SlotsOk.le ⟨.inl rfl, .inl rfl, .inl rfl, .inl rfl, .inl (congrArg (fun k=>PV.g (.int .i64 k)) (w64 (by simp only;omega))),trivial⟩,HLe.of_eq rfl⟩
 ·have hi':i=(wsG ys).length:=by have:=of_decide_eq_false h;omega
  have hpad:=hI.pad
  rw[hi',List.take_of_length_le (by omega),show xs.length+ys.length=(wsG xs).length+(wsG ys).length by omega]at hpad
  rw[←hpad]
  (try refine uD ?_)
  refine rB ?_ ?_ ?_
  all_goals rfl
theorem basicMul_vpc{g cap g1 nx c1:Nat}{ws ws1 xs:List Nat}(hv1:(ws1.drop 0).take nx=xs)(hl1:nx≤ws1.length)(hws:okW ws)(hx:okW xs)(hn:nx+nx≤ws.length)(hcap:nx+nx≤cap)(hm:nx+nx≤100000)(hx1:1≤nx):
  PC Tryz.prog 140 [.vw 0 g 0 (nx+nx) cap, .vw 1 g1 0 nx c1, .vw 1 g1 0 nx c1] ⟨[],[],[AR g ws,AR g1 ws1]⟩ (.tuple []) ⟨[],[],[AR g (putL ws 0 (padD (nx+nx) (val xs *val xs))),AR g1 ws1]⟩:=by
 have hnx:nx=xs.length:=by rw[←hv1];simp;omega
 have hny:nx=xs.length:=by rw[←hv1];simp;omega
 have hadd:IntKind.i64.wrap ((nx:Int)+(nx:Int))=((nx+nx:Nat):Int):=by rw[w64 (by omega)];omega
 have hclr:putAt (wsG ws) 0 (List.replicate (nx+nx) (constG (.int .u64 0)))=wsG (putL ws 0 (List.replicate (nx+nx) 0)):=by
  unfold putAt putL wsG
  simp[wG,constG]
 refine eN Tryz.func140 ?_
 (repeat first|refine uE ?_|((first|apply oR rfl rfl|(apply dF rfl rfl rfl;intro _)|(apply dP rfl rfl rfl;intro _)|(apply dL rfl rfl rfl;intro _)|apply dC rfl rfl rfl rfl);(focus(first|exact PO_vlen rfl (EL rfl) rfl|exact vcut (nx+nx) rfl (EL rfl) (SZ rfl) rfl rfl rfl rfl hadd hcap|exact PO_asH (PO_vclear rfl (EL rfl) (ZR rfl) rfl (SZ rfl) rfl rfl (by rw[wsG_length ws];omega)) (congrArg (fun l=>(⟨[],[],[MO.arr g WT l,AR g1 ws1]⟩:PH)) hclr)|exact mO));try exact kQ))
 refine PW_loop (S:=Nat×List Nat) (fun s=>slots [(0, .vw 0 g 0 (nx+nx) cap),(1, .vw 1 g1 0 nx c1),(15, .vw 1 g1 0 nx c1),(16, .g (.int .i64 (nx:Nat))),(17, .g (.int .i64 s.1))]) (fun s=>⟨[],[],[AR g (putL ws 0 s.2),AR g1 ws1]⟩) (fun s=>s.1≤nx∧MulInv xs xs s.2 s.1) (fun s=>nx-s.1) (0,List.replicate (nx+nx) 0) ⟨Nat.zero_le _,by have h:=MulInv.start xs xs;rw[show xs.length+xs.length=nx+nx by omega]at h;exact h⟩
  (SlotsOk.le ?_) (HLe.of_eq ?_) (fun s hs=> ?_)
 ·exact⟨.inl rfl, .inl rfl, .inl rfl, .inl rfl, .inl rfl,trivial⟩
 ·rfl
 obtain⟨i,zs⟩:=s
 obtain⟨hi,hI⟩:=hs
 simp only at hi hI
 have hzl:=hI.len
 (try refine uD ?_)
 refine sQ (fun h=> ?_) fun h=> ?_
 ·have hlt:i<nx:=by have:=of_decide_eq_true h;omega
  have hyi:xs[i]? =some (xs[i]'(by omega)):=List.getElem?_eq_getElem (by omega)
  generalize xs[i]'(by omega)=d at hyi
  have hg:(wsG ws1)[0+i]? =some (wG d):=wsG_get (by rw[←hv1,List.getElem?_take,if_pos hlt,List.getElem?_drop]at hyi;exact hyi)
  have hd:d<WB:=hx.at hyi
  clear h
  (repeat first|refine uE ?_|((first|apply oR rfl rfl|(apply dF rfl rfl rfl;intro _)|(apply dP rfl rfl rfl;intro _)|(apply dL rfl rfl rfl;intro _)|apply dC rfl rfl rfl rfl);(focus(first|exact PO_vindex i rfl (EL rfl) (SZ rfl) rfl rfl rfl hlt|exact PO_load_mref_one rfl (AG rfl) rfl rfl hg rfl|exact mO));try exact kQ))
  refine sQ (fun h=> ?_) fun h=> ?_
  ·have hd0:d≠0:=fun e=>by subst e;simp at h
   have hstep:=hI.step hx hyi hd
   have hpl:((zs.drop i).take xs.length).length=xs.length:=by simp;omega
   have hul:(addMulW ((zs.drop i).take xs.length) xs d 0).length=xs.length:=by rw[addMulW_length hpl,hpl]
   have hcall:=addMulV_vpc (g:=g) (o:=i) (n:=nx) (cap:=cap-i) (cap':=cap-i) (g1:=g1) (o1:=0) (c1:=c1) (ws:=putL ws 0 zs) (xs:=(zs.drop i).take xs.length) (ys:=xs) (ws1:=ws1) (m:=d) (a:=0) hv1 (putL0_ok hws hI.ok) (by rw[hnx];exact part_in (by omega)) hx hnx.symm (by unfold maxLen;omega) hd (by decide) (by rw[putL_zero];simp;omega)
   have hsum:IntKind.i64.wrap ((i:Int)+(nx:Int))=((i+nx:Nat):Int):=by rw[w64 (by omega)];omega
   have hsum2:IntKind.i64.wrap ((nx:Int)+(i:Int))=((nx+i:Nat):Int):=by rw[w64 (by omega)];omega
   have hset:putL (putL ws 0 zs) i (addMulW ((zs.drop i).take xs.length) xs d 0++[addMulC ((zs.drop i).take xs.length) xs d 0])=putL ws 0 (rowW zs xs i d):=putL_in (by rw[List.length_append,hul];simp;omega)
   have hz:(wsG (putL (putL ws 0 zs) i (addMulW ((zs.drop i).take xs.length) xs d 0)))[0+(nx+i)]? =some (wG ((putL (putL ws 0 zs) i (addMulW ((zs.drop i).take xs.length) xs d 0))[nx+i]'(by rw[putL_length (by rw[hul,putL_zero];simp;omega),putL_zero];simp;omega))):=wsG_get (by rw[Nat.zero_add];exact List.getElem?_eq_getElem _)
   generalize(putL (putL ws 0 zs) i (addMulW ((zs.drop i).take xs.length) xs d 0))[nx+i]'(by rw[putL_length (by rw[hul,putL_zero];simp;omega),putL_zero];simp;omega)=q at hz
   clear h
   (repeat first|refine uE ?_|(apply dR rfl rfl;focus(first|exact Cond_mstore rfl (SZ rfl) rfl rfl rfl rfl (by decide) rfl hz (Nat.le_refl _)))|((first|apply oR rfl rfl|(apply dF rfl rfl rfl;intro _)|(apply dP rfl rfl rfl;intro _)|(apply dL rfl rfl rfl;intro _)|apply dC rfl rfl rfl rfl);(focus(first|exact PO_vlen rfl (EL rfl) rfl|exact PO_as (vmid i (i+nx) rfl (EL rfl) (SZ rfl) rfl rfl rfl rfl hsum (by omega) (by omega) (by omega)) (show _=PV.vw 0 g i (nx) (cap-i) by rw[Nat.zero_add,Nat.add_sub_cancel_left])|exact ct [] rfl rfl tw_addMul (hcall) rfl rfl rfl rfl rfl rfl rfl rfl rfl rfl rfl|exact PO_vindex (nx+i) rfl (EL rfl) (SZ rfl) rfl rfl hsum2 (by omega)|exact mO));try exact kQ))
   exact⟨(i+1,rowW zs xs i d),⟨hlt,hstep⟩,by simp only;omega,SlotsOk.le ⟨.inl rfl, .inl rfl, .inl rfl, .inl rfl, .inl (congrArg (fun k=>PV.g (.int .i64 k)) (w64 (by simp only;omega))),trivial⟩,
    HLe.of_eq (by
     rw[←hset,←set_putL hul (by rw[putL_zero];simp;omega),show i+xs.length=0+(nx+i) by omega]
     exact congrArg (fun l=>(⟨[],[],[MO.arr g WT l,AR g1 ws1]⟩:PH)) wsG_set)⟩
  ·have hd0:d=0:=by have:=h;simp at this;omega
   subst hd0
   clear h
   (try refine uD ?_)
   exact⟨(i+1,zs),⟨hlt,hI.skip hyi⟩,by simp only;omega,SlotsOk.le ⟨.inl rfl, .inl rfl, .inl rfl, .inl rfl, .inl (congrArg (fun k=>PV.g (.int .i64 k)) (w64 (by simp only;omega))),trivial⟩,HLe.of_eq rfl⟩
 ·have hi':i=nx:=by have:=of_decide_eq_false h;omega
  have hpad:=hI.pad
  rw[hi',List.take_of_length_le (by omega),show xs.length+xs.length=nx+nx by omega]at hpad
  rw[←hpad]
  (try refine uD ?_)
  refine rB ?_ ?_ ?_
  all_goals rfl
theorem prod_lt{xs ys:List Nat}(hx:okW xs)(hy:okW ys):val xs *val ys<WB^(xs.length+ys.length):=by
 have h1:=val_lt hx
 have h2:=val_lt hy
 rw[Nat.pow_add]
 exact Nat.mul_lt_mul'' h1 h2
theorem mulAdd_pad{xs:List Nat}{y:Nat}(hx:okW xs)(hy:y<WB):mulAddW xs y 0++[mulAddC xs y 0]=padD (xs.length+1) (val xs *y):=by
 have hok:okW (mulAddW xs y 0++[mulAddC xs y 0]):=okW_append.2 ⟨mulAddW_ok _ _ _,okW_cons.2 ⟨mulAddC_lt hx hy (by decide),okW_nil⟩⟩
 have h:=padD_val hok
 rw[List.length_append,mulAddW_length,val_append,mulAddW_length]at h
 have hv:=mulAdd_val xs y 0
 simp only[val,Nat.mul_zero,Nat.add_zero,List.length_cons,List.length_nil]at h hv
 rw[hv]at h
 simpa using h.symm
theorem part0{ws us:List Nat}{k:Nat}(h:us.length=k):((putL ws 0 us).drop 0).take k=us:=by
 rw[List.drop_zero,putL_zero,List.take_append_of_le_length (by omega),List.take_of_length_le (by omega)]
theorem padD_two{d:Nat}(hd:d<WB):padD 2 (d *d)=[d *d%WB,d *d/WB]:=by
 have:d *d/WB<WB:=by have:=word_step hd hd (show 0<WB by decide);simpa using this
 simp[padD,Nat.mod_eq_of_lt this]
theorem two_of{l:List Nat}(h:2≤l.length): ∃q0 q1 R,l=q0::q1::R:=by
 cases l with
 |nil=>simp at h
 |cons a r=>cases r with
  |nil=>simp at h
  |cons b r=>exact⟨a,b,r,rfl⟩
theorem putL_get0{ws us:List Nat}{k:Nat}(hl:us.length≤k)(h:k<ws.length):(putL ws 0 us)[k]? =some (ws[k]'h):=by
 rw[putL_get (by omega)];exact List.getElem?_eq_getElem h
theorem mulWW_pc{x y:Nat}(hx:x<WB)(hy:y<WB):PC Tryz.prog 138 [.g (wG x), .g (wG y)] ⟨[],[],[]⟩ (.tuple [.g (wG (x *y/WB)), .g (wG (x *y%WB))]) ⟨[],[],[]⟩:=by
 have h1:=bmul_pc hx hy
 refine eN Tryz.func138 ?_
 (repeat first|refine uA ?_|(apply oR rfl rfl;focus(first|exact cqP h1|exact mO)))
 exact Ret2 (vC vT (vC vT vN)) rfl rfl rfl
theorem mulAddWW_g{xs:List Nat}{y:Nat}(hx:okW xs)(hy:y<WB)(hy0:y≠0)(h1:1≤(wsG xs).length)(hm:(wsG xs).length≤100000):
  PC Tryz.prog 133 [.nils, .g (.sl (wsG xs)), .g (wG y), .g (wG 0)] ⟨[],[],[]⟩ (.vw 0 0 0 (dig (val xs *y)).length ((wsG xs).length+1+4)) ⟨[],[],[AR 0 (putL (List.replicate ((wsG xs).length+1+4) 0) 0 (padD ((wsG xs).length+1) (val xs *y)))]⟩:=by
 have hl:(wsG xs).length=xs.length:=wsG_length xs
 have hadd:IntKind.i64.wrap (((wsG xs).length:Int)+1)=(((wsG xs).length+1:Nat):Int):=by rw[w64 (by omega)];omega
 have hmk:=make_nil (n:=(wsG xs).length+1) (by omega) (by omega)
 rw[show capN ((wsG xs).length+1)=(wsG xs).length+1+4 from by unfold capN;rw[if_neg (by omega)]]at hmk
 rw[←hadd]at hmk
 have hw0:(wsG xs).length+1≤((List.replicate ((wsG xs).length+1+4) 0)).length:=by rw[List.length_replicate];omega
 have hv:=mulAddV_pc (g:=0) (o:=0) (n:=(wsG xs).length) (cap:=(wsG xs).length+1+4) (ws:=List.replicate ((wsG xs).length+1+4) 0) (xs:=xs) (y:=y) (r:=0) hx hl.symm (by unfold maxLen;omega) hy (by decide) (by omega)
 have hpl:=padD_length ((wsG xs).length+1) (val xs *y)
 have hlt:val xs *y<WB^((wsG xs).length+1):=by
  have:=prod_lt hx (okW_cons.2 ⟨hy,okW_nil⟩)
  rw[hl]
  simpa[val]using this
 have hn:=norm_pc (g:=0) (o:=0) (n:=(wsG xs).length+1) (cap:=(wsG xs).length+1+4) (ws:=putL (List.replicate ((wsG xs).length+1+4) 0) 0 (padD ((wsG xs).length+1) (val xs *y))) (l:=padD ((wsG xs).length+1) (val xs *y)) (part0 hpl) (by rw[putL_length (by omega)];omega) (by omega) (by unfold maxLen;omega)
 rw[nlen_padD hlt]at hn
 have hfin:(putL (List.replicate ((wsG xs).length+1+4) 0) 0 (mulAddW xs y 0)).set (0+(wsG xs).length) (mulAddC xs y 0)=putL (List.replicate ((wsG xs).length+1+4) 0) 0 (padD ((wsG xs).length+1) (val xs *y)):=by
  have:=set_putL (ws:=(List.replicate ((wsG xs).length+1+4) 0)) (us:=mulAddW xs y 0) (off:=0) (n:=(wsG xs).length) (w:=mulAddC xs y 0) (by rw[mulAddW_length xs y 0];omega) (by omega)
  rw[this,mulAdd_pad hx hy,←hl]
 have hz:(wsG (putL (List.replicate ((wsG xs).length+1+4) 0) 0 (mulAddW xs y 0)))[0+(wsG xs).length]? =some (wG (((List.replicate ((wsG xs).length+1+4) 0))[(wsG xs).length]'(by omega))):=wsG_get (by rw[Nat.zero_add];exact putL_get0 (ws:=(List.replicate ((wsG xs).length+1+4) 0)) (us:=mulAddW xs y 0) (by rw[mulAddW_length xs y 0];omega) _)
 generalize((List.replicate ((wsG xs).length+1+4) 0))[(wsG xs).length]'(by omega)=q at hz
 refine eN Tryz.func133 ?_
 (repeat' first|refine uC ?_|(apply oR rfl rfl;focus(first|exact PO_vlen rfl (EL rfl) rfl|exact mO))|refine xU [4] rfl ?_|(refine sQ (fun h=> ?_) (fun h=> ?_)<;>fail_if_success (first|(have:true=true:=h)|(have:false=false:=h)))|fail)
 all_goals(try(exfalso;have:=of_decide_eq_true h;omega))
 (repeat first|refine uA ?_|(apply oR rfl rfl;focus(first|exact cd [true] rfl rfl (EN rfl) (hmk) rfl rfl rfl rfl rfl rfl rfl rfl rfl rfl rfl|exact vcut (wsG xs).length rfl (EL rfl) (SZ rfl) rfl rfl rfl rfl rfl (by omega)|exact ct [] rfl rfl tw_mulAdd (hv) rfl rfl rfl rfl rfl rfl rfl rfl rfl rfl rfl|exact PO_vindex (wsG xs).length rfl (EL rfl) (SZ rfl) rfl rfl rfl (by omega)|exact cd [] rfl rfl (EN rfl) (hn) rfl rfl rfl rfl rfl rfl rfl rfl rfl rfl rfl|exact PO_asH (PO_store_mref rfl (SZ rfl) rfl rfl rfl rfl (by decide) rfl hz (Nat.le_refl _)) (congrArg (fun l=>(⟨[],[],[MO.arr 0 WT l]⟩:PH)) (wsG_set.trans (congrArg wsG hfin)))|exact mO)))
 refine rB ?_ ?_ ?_
 all_goals rfl
theorem mulAddWW_in{gz lz cz g nx c:Nat}{wz ws xs:List Nat}{y:Nat}(hv1:(ws.drop 0).take nx=xs)(hl1:nx≤ws.length)(hroom:nx+1≤cz)(hcz:cz≤1000000)(hwz:cz≤wz.length)(hx:okW xs)(hy:y<WB)(hy0:y≠0)(h1:1≤nx)(hm:nx≤100000):
  PC Tryz.prog 133 [.vw 0 gz 0 lz cz, .vw 1 g 0 nx c, .g (wG y), .g (wG 0)] ⟨[],[],[AR gz wz,AR g ws]⟩ (.vw 0 gz 0 (dig (val xs *y)).length (cz)) ⟨[],[],[AR gz (putL wz 0 (padD (nx+1) (val xs *y))),AR g ws]⟩:=by
 have hl:nx=xs.length:=by rw[←hv1];simp;omega
 have hadd:IntKind.i64.wrap ((nx:Int)+1)=((nx+1:Nat):Int):=by rw[w64 (by omega)];omega
 have hmk:=make_in (n:=nx+1) (g:=gz) (o:=0) (len:=lz) (cap:=cz) (m:=AR gz wz) hroom
 rw[←hadd]at hmk
 have hw0:nx+1≤(wz).length:=by omega
 have hv:=mulAddV_vpc (g:=gz) (o:=0) (n:=nx) (cap:=cz) (g1:=g) (o1:=0) (c1:=c) (ws:=wz) (xs:=xs) (ws1:=ws) (y:=y) (r:=0) hv1 hx hl.symm (by unfold maxLen;omega) hy (by decide) (by omega)
 have hpl:=padD_length (nx+1) (val xs *y)
 have hlt:val xs *y<WB^(nx+1):=by
  have:=prod_lt hx (okW_cons.2 ⟨hy,okW_nil⟩)
  rw[hl]
  simpa[val]using this
 have hn:=norm_pc (g:=gz) (o:=0) (n:=nx+1) (cap:=cz) (ws:=putL wz 0 (padD (nx+1) (val xs *y))) (l:=padD (nx+1) (val xs *y)) (part0 hpl) (by rw[putL_length (by omega)];omega) (by omega) (by unfold maxLen;omega)
 rw[nlen_padD hlt]at hn
 have hfin:(putL wz 0 (mulAddW xs y 0)).set (0+nx) (mulAddC xs y 0)=putL wz 0 (padD (nx+1) (val xs *y)):=by
  have:=set_putL (ws:=wz) (us:=mulAddW xs y 0) (off:=0) (n:=nx) (w:=mulAddC xs y 0) (by rw[mulAddW_length xs y 0];omega) (by omega)
  rw[this,mulAdd_pad hx hy,←hl]
 have hz:(wsG (putL wz 0 (mulAddW xs y 0)))[0+nx]? =some (wG ((wz)[nx]'(by omega))):=wsG_get (by rw[Nat.zero_add];exact putL_get0 (ws:=wz) (us:=mulAddW xs y 0) (by rw[mulAddW_length xs y 0];omega) _)
 generalize(wz)[nx]'(by omega)=q at hz
 refine eN Tryz.func133 ?_
 (repeat' first|refine uC ?_|(apply oR rfl rfl;focus(first|exact PO_vlen rfl (EL rfl) rfl|exact mO))|refine xU [4] rfl ?_|(refine sQ (fun h=> ?_) (fun h=> ?_)<;>fail_if_success (first|(have:true=true:=h)|(have:false=false:=h)))|fail)
 all_goals(try(exfalso;have:=of_decide_eq_true h;omega))
 (repeat first|refine uA ?_|(apply oR rfl rfl;focus(first|exact cd [true] rfl rfl (EN rfl) (hmk) rfl rfl rfl rfl rfl rfl rfl rfl rfl rfl rfl|exact vcut nx rfl (EL rfl) (SZ rfl) rfl rfl rfl rfl rfl (by omega)|exact ct [] rfl rfl tw_mulAdd (hv) rfl rfl rfl rfl rfl rfl rfl rfl rfl rfl rfl|exact PO_vindex nx rfl (EL rfl) (SZ rfl) rfl rfl rfl (by omega)|exact cd [] rfl rfl (EN rfl) (hn) rfl rfl rfl rfl rfl rfl rfl rfl rfl rfl rfl|exact PO_asH (PO_store_mref rfl (SZ rfl) rfl rfl rfl rfl (by decide) rfl hz (Nat.le_refl _)) (congrArg (fun l=>(⟨[],[],[MO.arr gz WT l,AR g ws]⟩:PH)) (wsG_set.trans (congrArg wsG hfin)))|exact mO)))
 refine rB ?_ ?_ ?_
 all_goals rfl
theorem mulAddWW_out{gz lz cz g nx c:Nat}{wz ws xs:List Nat}{y:Nat}(hv1:(ws.drop 0).take nx=xs)(hl1:nx≤ws.length)(hroom:cz<nx+1)(hx:okW xs)(hy:y<WB)(hy0:y≠0)(h1:1≤nx)(hm:nx≤100000):
  PC Tryz.prog 133 [.vw 0 gz 0 lz cz, .vw 1 g 0 nx c, .g (wG y), .g (wG 0)] ⟨[],[],[AR gz wz,AR g ws]⟩ (.vw 2 0 0 (dig (val xs *y)).length (nx+1+4)) ⟨[],[],[AR gz wz,AR g ws,AR 0 (putL (List.replicate (nx+1+4) 0) 0 (padD (nx+1) (val xs *y)))]⟩:=by
 have hl:nx=xs.length:=by rw[←hv1];simp;omega
 have hadd:IntKind.i64.wrap ((nx:Int)+1)=((nx+1:Nat):Int):=by rw[w64 (by omega)];omega
 have hmk:=make_out (n:=nx+1) (g:=gz) (o:=0) (len:=lz) (cap:=cz) (m:=AR gz wz) (by omega) hroom (by omega)
 rw[←hadd]at hmk
 have hw0:nx+1≤((List.replicate (nx+1+4) 0)).length:=by rw[List.length_replicate];omega
 have hv:=mulAddV_vpc (g:=0) (o:=0) (n:=nx) (cap:=nx+1+4) (g1:=g) (o1:=0) (c1:=c) (ws:=List.replicate (nx+1+4) 0) (xs:=xs) (ws1:=ws) (y:=y) (r:=0) hv1 hx hl.symm (by unfold maxLen;omega) hy (by decide) (by omega)
 have hpl:=padD_length (nx+1) (val xs *y)
 have hlt:val xs *y<WB^(nx+1):=by
  have:=prod_lt hx (okW_cons.2 ⟨hy,okW_nil⟩)
  rw[hl]
  simpa[val]using this
 have hn:=norm_pc (g:=0) (o:=0) (n:=nx+1) (cap:=nx+1+4) (ws:=putL (List.replicate (nx+1+4) 0) 0 (padD (nx+1) (val xs *y))) (l:=padD (nx+1) (val xs *y)) (part0 hpl) (by rw[putL_length (by omega)];omega) (by omega) (by unfold maxLen;omega)
 rw[nlen_padD hlt]at hn
 have hfin:(putL (List.replicate (nx+1+4) 0) 0 (mulAddW xs y 0)).set (0+nx) (mulAddC xs y 0)=putL (List.replicate (nx+1+4) 0) 0 (padD (nx+1) (val xs *y)):=by
  have:=set_putL (ws:=(List.replicate (nx+1+4) 0)) (us:=mulAddW xs y 0) (off:=0) (n:=nx) (w:=mulAddC xs y 0) (by rw[mulAddW_length xs y 0];omega) (by omega)
  rw[this,mulAdd_pad hx hy,←hl]
 have hz:(wsG (putL (List.replicate (nx+1+4) 0) 0 (mulAddW xs y 0)))[0+nx]? =some (wG (((List.replicate (nx+1+4) 0))[nx]'(by omega))):=wsG_get (by rw[Nat.zero_add];exact putL_get0 (ws:=(List.replicate (nx+1+4) 0)) (us:=mulAddW xs y 0) (by rw[mulAddW_length xs y 0];omega) _)
 generalize((List.replicate (nx+1+4) 0))[nx]'(by omega)=q at hz
 refine eN Tryz.func133 ?_
 (repeat' first|refine uC ?_|(apply oR rfl rfl;focus(first|exact PO_vlen rfl (EL rfl) rfl|exact mO))|refine xU [4] rfl ?_|(refine sQ (fun h=> ?_) (fun h=> ?_)<;>fail_if_success (first|(have:true=true:=h)|(have:false=false:=h)))|fail)
 all_goals(try(exfalso;have:=of_decide_eq_true h;omega))
 (repeat first|refine uA ?_|(apply oR rfl rfl;focus(first|exact cd [true] rfl rfl (EN rfl) (hmk) rfl rfl rfl rfl rfl rfl rfl rfl rfl rfl rfl|exact vcut nx rfl (EL rfl) (SZ rfl) rfl rfl rfl rfl rfl (by omega)|exact ct [] rfl rfl tw_mulAdd (hv) rfl rfl rfl rfl rfl rfl rfl rfl rfl rfl rfl|exact PO_vindex nx rfl (EL rfl) (SZ rfl) rfl rfl rfl (by omega)|exact cd [] rfl rfl (EN rfl) (hn) rfl rfl rfl rfl rfl rfl rfl rfl rfl rfl rfl|exact PO_asH (PO_store_mref rfl (SZ rfl) rfl rfl rfl rfl (by decide) rfl hz (Nat.le_refl _)) (congrArg (fun l=>(⟨[],[],[AR gz wz,AR g ws,MO.arr 0 WT l]⟩:PH)) (wsG_set.trans (congrArg wsG hfin)))|exact mO)))
 refine rB ?_ ?_ ?_
 all_goals rfl
theorem sqr_nil{g nx c:Nat}{ws xs:List Nat}{stk:PV}(hv1:(ws.drop 0).take nx=xs)(hl1:nx≤ws.length)(hcx:nx≤c)(hcx1:c≤ws.length)(hcx2:c≤1000000)(hx:okW xs)(h1:1≤nx)(hm:nx<12):
  PC Tryz.prog 120 [.nils, .any, .vw 0 g 0 nx c] ⟨[],[],[AR g ws]⟩ (.vw 1 0 0 (dig (val xs *val xs)).length (nx+nx+4)) ⟨[],[],[AR g ws,AR 0 (putL (List.replicate (nx+nx+4) 0) 0 (padD (nx+nx) (val xs *val xs)))]⟩:=by
 have hl:nx=xs.length:=by rw[←hv1];simp;omega
 have hmul:IntKind.i64.wrap ((2:Int) *(nx:Int))=((nx+nx:Nat):Int):=by rw[w64 (by omega)];omega
 have hmk:=make_nil (n:=nx+nx) (by omega) (by omega)
 rw[show capN (nx+nx)=nx+nx+4 from by unfold capN;rw[if_neg (by omega)]]at hmk
 have hw0:nx+nx≤((List.replicate (nx+nx+4) 0)).length:=by rw[List.length_replicate];omega
 have hpl:=padD_length (nx+nx) (val xs *val xs)
 have hlt:val xs *val xs<WB^(nx+nx):=by
  have:=prod_lt hx hx
  rwa[←hl]at this
 have hn:=norm_pc (g:=0) (o:=0) (n:=nx+nx) (cap:=nx+nx+4) (ws:=putL (List.replicate (nx+nx+4) 0) 0 (padD (nx+nx) (val xs *val xs))) (l:=padD (nx+nx) (val xs *val xs)) (part0 hpl) (by rw[putL_length (by omega)];omega) (by omega) (by unfold maxLen;omega)
 rw[nlen_padD hlt]at hn
 obtain⟨q0,q1,R,hR⟩:=two_of (l:=(List.replicate (nx+nx+4) 0)) (by omega)
 by_cases hone:nx=1
 ·subst hone
  obtain⟨d,hd⟩: ∃d,xs=[d]:=by
   match xs,hl with
   |[d],_=>exact⟨d,rfl⟩
  subst hd
  have hdw:d<WB:=hx d (by simp)
  have hww:=mulWW_pc hdw hdw
  have hg:(wsG ws)[0+0]? =some (wG d):=wsG_get (by
   have:((ws.drop 0).take 1)[0]? =some d:=by rw[hv1];rfl
   rw[List.getElem?_take,if_pos (by omega),List.getElem?_drop]at this
   exact this)
  rw[show val [d]=d by simp[val],padD_two hdw]at hn⊢
  have hput:putL (q0::q1::R) 0 [d *d%WB,d *d/WB]=d *d%WB::d *d/WB::R:=by simp[putL]
  rw[hR]at hmk hn⊢
  rw[hput]at hn⊢
  refine eN Tryz.func120 ?_
  (repeat first|refine uA ?_|(apply oR rfl rfl;focus(first|exact PO_vlen rfl (EL rfl) rfl|exact PO_vindex 0 rfl (EL rfl) (SZ rfl) rfl rfl rfl (by decide)|exact PO_vindex 1 rfl (EL rfl) (SZ rfl) rfl rfl rfl (by decide)|exact PO_load_mref_one rfl (AG rfl) rfl rfl hg rfl|exact cd [true] rfl rfl (EN rfl) (hmk) rfl rfl rfl rfl rfl rfl rfl rfl rfl rfl rfl|exact cqP hww|exact PO_store_mref rfl (SZ rfl) rfl rfl rfl rfl (by decide) rfl rfl (Nat.le_refl _)|exact cd [] rfl rfl (EN rfl) (hn) rfl rfl rfl rfl rfl rfl rfl rfl rfl rfl rfl|exact mO)))
  refine rB ?_ ?_ ?_
  all_goals rfl
 ·have hal:=alias_nilv (m:=AR g ws) (g:=g) (o:=0) (n:=nx) (c:=c)
  have hb:=basicMul_vpc (g:=0) (cap:=nx+nx+4) (g1:=g) (nx:=nx) (c1:=c) (ws:=(List.replicate (nx+nx+4) 0)) (ws1:=ws) (xs:=xs) hv1 hl1 (okW_rep _) hx hw0 (by omega) (by omega) h1
  rw[←hmul]at hmk
  refine eN Tryz.func120 ?_
  (repeat' first|refine uC ?_|(apply oR rfl rfl;focus(first|exact PO_vlen rfl (EL rfl) rfl|exact mO))|refine xU [9] rfl ?_|(refine sQ (fun h=> ?_) (fun h=> ?_)<;>fail_if_success (first|(have:true=true:=h)|(have:false=false:=h)))|fail)
  all_goals(try(exfalso;have:=of_decide_eq_true h;omega))
  try clear h
  (repeat' first|refine uC ?_|(apply oR rfl rfl;focus(first|exact PO_vlen rfl (EL rfl) rfl|exact cd [true] rfl rfl (EN rfl) (hal) rfl rfl rfl rfl rfl rfl rfl rfl rfl rfl rfl|exact cd [true] rfl rfl (EN rfl) (hmk) rfl rfl rfl rfl rfl rfl rfl rfl rfl rfl rfl|exact PO_loadg rfl (AG rfl) rfl rfl|exact cd [] rfl rfl (EN rfl) (hb) rfl rfl rfl rfl rfl rfl rfl rfl rfl rfl rfl|exact cd [] rfl rfl (EN rfl) (hn) rfl rfl rfl rfl rfl rfl rfl rfl rfl rfl rfl|exact mO))|refine xU [15] rfl ?_|(refine sQ (fun h=> ?_) (fun h=> ?_)<;>fail_if_success (first|(have:true=true:=h)|(have:false=false:=h)))|fail)
  all_goals(try(exfalso;have:=of_decide_eq_false h;omega))
  refine rB ?_ ?_ ?_
  all_goals rfl
theorem sqr_in{gz lz cz g nx c:Nat}{wz ws xs:List Nat}{stk:PV}(hroom:nx+nx≤cz)(hcz:cz≤1000000)(hwz:cz≤wz.length)(hwo:okW wz)(hv1:(ws.drop 0).take nx=xs)(hl1:nx≤ws.length)(hcx:nx≤c)(hcx1:c≤ws.length)(hcx2:c≤1000000)(hx:okW xs)(h1:1≤nx)(hm:nx<12):
  PC Tryz.prog 120 [.vw 0 gz 0 lz cz, .any, .vw 1 g 0 nx c] ⟨[],[],[AR gz wz,AR g ws]⟩ (.vw 0 gz 0 (dig (val xs *val xs)).length (cz)) ⟨[],[],[AR gz (putL wz 0 (padD (nx+nx) (val xs *val xs))),AR g ws]⟩:=by
 have hl:nx=xs.length:=by rw[←hv1];simp;omega
 have hmul:IntKind.i64.wrap ((2:Int) *(nx:Int))=((nx+nx:Nat):Int):=by rw[w64 (by omega)];omega
 have hmk:=make_in (n:=nx+nx) (g:=gz) (o:=0) (len:=lz) (cap:=cz) (m:=AR gz wz) hroom
 skip
 have hw0:nx+nx≤(wz).length:=by omega
 have hpl:=padD_length (nx+nx) (val xs *val xs)
 have hlt:val xs *val xs<WB^(nx+nx):=by
  have:=prod_lt hx hx
  rwa[←hl]at this
 have hn:=norm_pc (g:=gz) (o:=0) (n:=nx+nx) (cap:=cz) (ws:=putL wz 0 (padD (nx+nx) (val xs *val xs))) (l:=padD (nx+nx) (val xs *val xs)) (part0 hpl) (by rw[putL_length (by omega)];omega) (by omega) (by unfold maxLen;omega)
 rw[nlen_padD hlt]at hn
 obtain⟨q0,q1,R,hR⟩:=two_of (l:=wz) (by omega)
 by_cases hone:nx=1
 ·subst hone
  obtain⟨d,hd⟩: ∃d,xs=[d]:=by
   match xs,hl with
   |[d],_=>exact⟨d,rfl⟩
  subst hd
  have hdw:d<WB:=hx d (by simp)
  have hww:=mulWW_pc hdw hdw
  have hg:(wsG ws)[0+0]? =some (wG d):=wsG_get (by
   have:((ws.drop 0).take 1)[0]? =some d:=by rw[hv1];rfl
   rw[List.getElem?_take,if_pos (by omega),List.getElem?_drop]at this
   exact this)
  rw[show val [d]=d by simp[val],padD_two hdw]at hn⊢
  have hput:putL (q0::q1::R) 0 [d *d%WB,d *d/WB]=d *d%WB::d *d/WB::R:=by simp[putL]
  rw[hR]at hmk hn⊢
  rw[hput]at hn⊢
  refine eN Tryz.func120 ?_
  (repeat first|refine uA ?_|(apply oR rfl rfl;focus(first|exact PO_vlen rfl (EL rfl) rfl|exact PO_vindex 0 rfl (EL rfl) (SZ rfl) rfl rfl rfl (by decide)|exact PO_vindex 1 rfl (EL rfl) (SZ rfl) rfl rfl rfl (by decide)|exact PO_load_mref_one rfl (AG rfl) rfl rfl hg rfl|exact cd [true] rfl rfl (EN rfl) (hmk) rfl rfl rfl rfl rfl rfl rfl rfl rfl rfl rfl|exact cqP hww|exact PO_store_mref rfl (SZ rfl) rfl rfl rfl rfl (by decide) rfl rfl (Nat.le_refl _)|exact cd [] rfl rfl (EN rfl) (hn) rfl rfl rfl rfl rfl rfl rfl rfl rfl rfl rfl|exact mO)))
  refine rB ?_ ?_ ?_
  all_goals rfl
 ·have hal:=alias_two (g1:=gz) (n1:=lz) (c1:=cz) (g2:=g) (n2:=nx) (c2:=c) (ws1:=wz) (ws2:=ws) (by omega) (by omega) hwz hcx1 hcz hcx2
  have hb:=basicMul_vpc (g:=gz) (cap:=cz) (g1:=g) (nx:=nx) (c1:=c) (ws:=wz) (ws1:=ws) (xs:=xs) hv1 hl1 hwo hx hw0 (by omega) (by omega) h1
  rw[←hmul]at hmk
  refine eN Tryz.func120 ?_
  (repeat' first|refine uC ?_|(apply oR rfl rfl;focus(first|exact PO_vlen rfl (EL rfl) rfl|exact mO))|refine xU [9] rfl ?_|(refine sQ (fun h=> ?_) (fun h=> ?_)<;>fail_if_success (first|(have:true=true:=h)|(have:false=false:=h)))|fail)
  all_goals(try(exfalso;have:=of_decide_eq_true h;omega))
  try clear h
  (repeat' first|refine uC ?_|(apply oR rfl rfl;focus(first|exact PO_vlen rfl (EL rfl) rfl|exact cd [] rfl rfl (EN rfl) (hal) rfl rfl rfl rfl rfl rfl rfl rfl rfl rfl rfl|exact cd [true] rfl rfl (EN rfl) (hmk) rfl rfl rfl rfl rfl rfl rfl rfl rfl rfl rfl|exact PO_loadg rfl (AG rfl) rfl rfl|exact cd [] rfl rfl (EN rfl) (hb) rfl rfl rfl rfl rfl rfl rfl rfl rfl rfl rfl|exact cd [] rfl rfl (EN rfl) (hn) rfl rfl rfl rfl rfl rfl rfl rfl rfl rfl rfl|exact mO))|refine xU [15] rfl ?_|(refine sQ (fun h=> ?_) (fun h=> ?_)<;>fail_if_success (first|(have:true=true:=h)|(have:false=false:=h)))|fail)
  all_goals(try(exfalso;have:=of_decide_eq_false h;omega))
  refine rB ?_ ?_ ?_
  all_goals rfl
theorem sqr_out{gz lz cz g nx c:Nat}{wz ws xs:List Nat}{stk:PV}(hroom:cz<nx+nx)(hcz1:1≤cz)(hcz:cz≤1000000)(hwz:cz≤wz.length)(hv1:(ws.drop 0).take nx=xs)(hl1:nx≤ws.length)(hcx:nx≤c)(hcx1:c≤ws.length)(hcx2:c≤1000000)(hx:okW xs)(h1:1≤nx)(hm:nx<12):
  PC Tryz.prog 120 [.vw 0 gz 0 lz cz, .any, .vw 1 g 0 nx c] ⟨[],[],[AR gz wz,AR g ws]⟩ (.vw 2 0 0 (dig (val xs *val xs)).length (nx+nx+4)) ⟨[],[],[AR gz wz,AR g ws,AR 0 (putL (List.replicate (nx+nx+4) 0) 0 (padD (nx+nx) (val xs *val xs)))]⟩:=by
 have hl:nx=xs.length:=by rw[←hv1];simp;omega
 have hmul:IntKind.i64.wrap ((2:Int) *(nx:Int))=((nx+nx:Nat):Int):=by rw[w64 (by omega)];omega
 have hmk:=make_out (n:=nx+nx) (g:=gz) (o:=0) (len:=lz) (cap:=cz) (m:=AR gz wz) (by omega) hroom (by omega)
 skip
 have hw0:nx+nx≤((List.replicate (nx+nx+4) 0)).length:=by rw[List.length_replicate];omega
 have hpl:=padD_length (nx+nx) (val xs *val xs)
 have hlt:val xs *val xs<WB^(nx+nx):=by
  have:=prod_lt hx hx
  rwa[←hl]at this
 have hn:=norm_pc (g:=0) (o:=0) (n:=nx+nx) (cap:=nx+nx+4) (ws:=putL (List.replicate (nx+nx+4) 0) 0 (padD (nx+nx) (val xs *val xs))) (l:=padD (nx+nx) (val xs *val xs)) (part0 hpl) (by rw[putL_length (by omega)];omega) (by omega) (by unfold maxLen;omega)
 rw[nlen_padD hlt]at hn
 obtain⟨q0,q1,R,hR⟩:=two_of (l:=(List.replicate (nx+nx+4) 0)) (by omega)
 by_cases hone:nx=1
 ·subst hone
  obtain⟨d,hd⟩: ∃d,xs=[d]:=by
   match xs,hl with
   |[d],_=>exact⟨d,rfl⟩
  subst hd
  have hdw:d<WB:=hx d (by simp)
  have hww:=mulWW_pc hdw hdw
  have hg:(wsG ws)[0+0]? =some (wG d):=wsG_get (by
   have:((ws.drop 0).take 1)[0]? =some d:=by rw[hv1];rfl
   rw[List.getElem?_take,if_pos (by omega),List.getElem?_drop]at this
   exact this)
  rw[show val [d]=d by simp[val],padD_two hdw]at hn⊢
  have hput:putL (q0::q1::R) 0 [d *d%WB,d *d/WB]=d *d%WB::d *d/WB::R:=by simp[putL]
  rw[hR]at hmk hn⊢
  rw[hput]at hn⊢
  refine eN Tryz.func120 ?_
  (repeat first|refine uA ?_|(apply oR rfl rfl;focus(first|exact PO_vlen rfl (EL rfl) rfl|exact PO_vindex 0 rfl (EL rfl) (SZ rfl) rfl rfl rfl (by decide)|exact PO_vindex 1 rfl (EL rfl) (SZ rfl) rfl rfl rfl (by decide)|exact PO_load_mref_one rfl (AG rfl) rfl rfl hg rfl|exact cd [true] rfl rfl (EN rfl) (hmk) rfl rfl rfl rfl rfl rfl rfl rfl rfl rfl rfl|exact cqP hww|exact PO_store_mref rfl (SZ rfl) rfl rfl rfl rfl (by decide) rfl rfl (Nat.le_refl _)|exact cd [] rfl rfl (EN rfl) (hn) rfl rfl rfl rfl rfl rfl rfl rfl rfl rfl rfl|exact mO)))
  refine rB ?_ ?_ ?_
  all_goals rfl
 ·have hal:=alias_two (g1:=gz) (n1:=lz) (c1:=cz) (g2:=g) (n2:=nx) (c2:=c) (ws1:=wz) (ws2:=ws) hcz1 (by omega) hwz hcx1 hcz hcx2
  have hb:=basicMul_vpc (g:=0) (cap:=nx+nx+4) (g1:=g) (nx:=nx) (c1:=c) (ws:=(List.replicate (nx+nx+4) 0)) (ws1:=ws) (xs:=xs) hv1 hl1 (okW_rep _) hx hw0 (by omega) (by omega) h1
  rw[←hmul]at hmk
  refine eN Tryz.func120 ?_
  (repeat' first|refine uC ?_|(apply oR rfl rfl;focus(first|exact PO_vlen rfl (EL rfl) rfl|exact mO))|refine xU [9] rfl ?_|(refine sQ (fun h=> ?_) (fun h=> ?_)<;>fail_if_success (first|(have:true=true:=h)|(have:false=false:=h)))|fail)
  all_goals(try(exfalso;have:=of_decide_eq_true h;omega))
  try clear h
  (repeat' first|refine uC ?_|(apply oR rfl rfl;focus(first|exact PO_vlen rfl (EL rfl) rfl|exact cd [] rfl rfl (EN rfl) (hal) rfl rfl rfl rfl rfl rfl rfl rfl rfl rfl rfl|exact cd [true] rfl rfl (EN rfl) (hmk) rfl rfl rfl rfl rfl rfl rfl rfl rfl rfl rfl|exact PO_loadg rfl (AG rfl) rfl rfl|exact cd [] rfl rfl (EN rfl) (hb) rfl rfl rfl rfl rfl rfl rfl rfl rfl rfl rfl|exact cd [] rfl rfl (EN rfl) (hn) rfl rfl rfl rfl rfl rfl rfl rfl rfl rfl rfl|exact mO))|refine xU [15] rfl ?_|(refine sQ (fun h=> ?_) (fun h=> ?_)<;>fail_if_success (first|(have:true=true:=h)|(have:false=false:=h)))|fail)
  all_goals(try(exfalso;have:=of_decide_eq_false h;omega))
  refine rB ?_ ?_ ?_
  all_goals rfl
theorem mul_in{gz lz cz g nx c y:Nat}{wz ws xs:List Nat}(hv1:(ws.drop 0).take nx=xs)(hl1:nx≤ws.length)(hroom:nx+1≤cz)(hcz:cz≤1000000)(hwz:cz≤wz.length)(hx:okW xs)(hy:y<WB)(hy0:y≠0)(h1:1≤nx)(hm:nx≤100000):
  PC Tryz.prog 121 [.vw 0 gz 0 lz cz, .any, .vw 1 g 0 nx c, .g (.sl (wsG [y]))] ⟨[],[],[AR gz wz,AR g ws]⟩ (.vw 0 gz 0 (dig (val xs *y)).length cz) ⟨[],[],[AR gz (putL wz 0 (padD (nx+1) (val xs *y))),AR g ws]⟩:=by
 have hc:=mulAddWW_in (gz:=gz) (lz:=lz) (cz:=cz) (g:=g) (nx:=nx) (c:=c) (wz:=wz) (ws:=ws) (xs:=xs) (y:=y) hv1 hl1 hroom hcz hwz hx hy hy0 h1 hm
 refine eN Tryz.func121 ?_
 (repeat' first|refine uF ?_|((first|apply oR rfl rfl|(apply dF rfl rfl rfl;intro _)|(apply dP rfl rfl rfl;intro _)|(apply dL rfl rfl rfl;intro _)|apply dC rfl rfl rfl rfl);(focus(first|exact PO_vlen rfl (EL rfl) rfl|exact iA (g:=wG y) rfl (EL rfl) (SZ rfl) rfl rfl (by decide) rfl rfl|exact cd [] rfl rfl (EN rfl) (hc) rfl rfl rfl rfl rfl rfl rfl rfl rfl rfl rfl|exact mO));try exact kQ)|refine xU [9] rfl ?_|(refine sQ (fun h=> ?_) (fun h=> ?_)<;>fail_if_success (first|(have:true=true:=h)|(have:false=false:=h)))|fail)
 all_goals(try(exfalso;have hh:=of_decide_eq_true h;first|omega|(simp only[wsG_length,List.length_cons,List.length_nil]at hh;omega)))
 all_goals(try(exfalso;have hh:=of_decide_eq_false h;first|omega|(simp only[wsG_length,List.length_cons,List.length_nil]at hh;omega)))
 refine rB ?_ ?_ ?_
 all_goals rfl
theorem mul_out{gz lz cz g nx c y:Nat}{wz ws xs:List Nat}(hv1:(ws.drop 0).take nx=xs)(hl1:nx≤ws.length)(hroom:cz<nx+1)(hx:okW xs)(hy:y<WB)(hy0:y≠0)(h1:1≤nx)(hm:nx≤100000):
  PC Tryz.prog 121 [.vw 0 gz 0 lz cz, .any, .vw 1 g 0 nx c, .g (.sl (wsG [y]))] ⟨[],[],[AR gz wz,AR g ws]⟩ (.vw 2 0 0 (dig (val xs *y)).length (nx+1+4)) ⟨[],[],[AR gz wz,AR g ws,AR 0 (putL (List.replicate (nx+1+4) 0) 0 (padD (nx+1) (val xs *y)))]⟩:=by
 have hc:=mulAddWW_out (gz:=gz) (lz:=lz) (cz:=cz) (g:=g) (nx:=nx) (c:=c) (wz:=wz) (ws:=ws) (xs:=xs) (y:=y) hv1 hl1 hroom hx hy hy0 h1 hm
 refine eN Tryz.func121 ?_
 (repeat' first|refine uF ?_|((first|apply oR rfl rfl|(apply dF rfl rfl rfl;intro _)|(apply dP rfl rfl rfl;intro _)|(apply dL rfl rfl rfl;intro _)|apply dC rfl rfl rfl rfl);(focus(first|exact PO_vlen rfl (EL rfl) rfl|exact iA (g:=wG y) rfl (EL rfl) (SZ rfl) rfl rfl (by decide) rfl rfl|exact cd [] rfl rfl (EN rfl) (hc) rfl rfl rfl rfl rfl rfl rfl rfl rfl rfl rfl|exact mO));try exact kQ)|refine xU [9] rfl ?_|(refine sQ (fun h=> ?_) (fun h=> ?_)<;>fail_if_success (first|(have:true=true:=h)|(have:false=false:=h)))|fail)
 all_goals(try(exfalso;have hh:=of_decide_eq_true h;first|omega|(simp only[wsG_length,List.length_cons,List.length_nil]at hh;omega)))
 all_goals(try(exfalso;have hh:=of_decide_eq_false h;first|omega|(simp only[wsG_length,List.length_cons,List.length_nil]at hh;omega)))
 refine rB ?_ ?_ ?_
 all_goals rfl
theorem dig_wlen(X:Nat):(wsG (dig X)).length=(dig X).length:=wsG_length _
theorem dig_len_pos{X:Nat}(h:X≠0):1≤(wsG (dig X)).length:=by
 rw[dig_wlen]
 cases hd:dig X with
 |nil=>exact absurd (dig_nil hd) h
 |cons a l=>simp
theorem dig_one_of{X:Nat}(h:(wsG (dig X)).length=1):X<WB∧dig X=[X]:=by
 rw[dig_wlen]at h
 obtain⟨d,hd⟩: ∃d,dig X=[d]:=by
  match hx:dig X,h with
  |[d],_=>exact⟨d,rfl⟩
 have:=val_dig X
 rw[hd]at this
 simp[val]at this
 subst this
 exact⟨by have:=okW_dig d;rw[hd]at this;exact this d (by simp),hd⟩
theorem mul_ge{X Y:Nat}(hX:X≠0)(hY:Y≠0)(hge:(wsG (dig Y)).length≤(wsG (dig X)).length)(hm:(wsG (dig X)).length≤30):
  PC Tryz.prog 121 [.nils, .any, .g (.sl (wsG (dig X))), .g (.sl (wsG (dig Y)))] ⟨[],[],[]⟩ (.vw 0 0 0 (dig (X *Y)).length ((wsG (dig X)).length+(wsG (dig Y)).length+4)) ⟨[],[],[AR 0 (putL (List.replicate ((wsG (dig X)).length+(wsG (dig Y)).length+4) 0) 0 (padD ((wsG (dig X)).length+(wsG (dig Y)).length) (X *Y)))]⟩:=by
 have hX1:=dig_len_pos hX
 have hY1:=dig_len_pos hY
 by_cases hone:(wsG (dig Y)).length=1
 ·obtain⟨hyw,hyd⟩:=dig_one_of hone
  have hc:=mulAddWW_g (xs:=dig X) (y:=Y) (okW_dig X) hyw hY hX1 (by omega)
  rw[val_dig]at hc
  rw[hone,hyd]
  rw[hyd]at hge hY1 hone
  generalize dig X=xs at *
  generalize dig (X *Y)=zs at *
  refine eN Tryz.func121 ?_
  (repeat' first|refine uF ?_|((first|apply oR rfl rfl|(apply dF rfl rfl rfl;intro _)|(apply dP rfl rfl rfl;intro _)|(apply dL rfl rfl rfl;intro _)|apply dC rfl rfl rfl rfl);(focus(first|exact iA (g:=wG Y) rfl (EL rfl) (SZ rfl) rfl rfl (by decide) rfl rfl|exact cd [true] rfl rfl (EN rfl) (hc) rfl rfl rfl rfl rfl rfl rfl rfl rfl rfl rfl|exact mO));try exact kQ)|refine xU [9] rfl ?_|(refine sQ (fun h=> ?_) (fun h=> ?_)<;>fail_if_success (first|(have:true=true:=h)|(have:false=false:=h)))|fail)
  all_goals(try(exfalso;have hh:=of_decide_eq_true h;first|omega|(simp only[wsG_length,List.length_cons,List.length_nil]at hh;omega)))
  all_goals(try(exfalso;have hh:=of_decide_eq_false h;first|omega|(simp only[wsG_length,List.length_cons,List.length_nil]at hh;omega)))
  refine rB ?_ ?_ ?_
  all_goals rfl
 ·have hXo:=okW_dig X
  have hYo:=okW_dig Y
  have hXl:=dig_wlen X
  have hYl:=dig_wlen Y
  have hvX:=val_dig X
  have hvY:=val_dig Y
  have hprod:=prod_lt hXo hYo
  rw[hvX,hvY,←hXl,←hYl]at hprod
  have hb:=basicMul_pc (g:=0) (cap:=(wsG (dig X)).length+(wsG (dig Y)).length+4) (ws:=List.replicate ((wsG (dig X)).length+(wsG (dig Y)).length+4) 0) (xs:=dig X) (ys:=dig Y) (okW_rep _) hXo hYo (by rw[List.length_replicate];omega) (by omega) (by omega) hX1
  rw[hvX,hvY]at hb
  have hpl:=padD_length ((wsG (dig X)).length+(wsG (dig Y)).length) (X *Y)
  have hn:=norm_pc (g:=0) (o:=0) (n:=(wsG (dig X)).length+(wsG (dig Y)).length) (cap:=(wsG (dig X)).length+(wsG (dig Y)).length+4) (ws:=putL (List.replicate ((wsG (dig X)).length+(wsG (dig Y)).length+4) 0) 0 (padD ((wsG (dig X)).length+(wsG (dig Y)).length) (X *Y))) (l:=padD ((wsG (dig X)).length+(wsG (dig Y)).length) (X *Y)) (part0 hpl) (by rw[putL_length (by rw[List.length_replicate];omega),List.length_replicate];omega) (by omega) (by unfold maxLen;omega)
  rw[nlen_padD hprod]at hn
  have hmk:=make_nil (n:=(wsG (dig X)).length+(wsG (dig Y)).length) (by omega) (by omega)
  rw[show capN ((wsG (dig X)).length+(wsG (dig Y)).length)=(wsG (dig X)).length+(wsG (dig Y)).length+4 from by unfold capN;rw[if_neg (by omega)]]at hmk
  have hadd:IntKind.i64.wrap (((wsG (dig X)).length:Int)+((wsG (dig Y)).length:Int))=(((wsG (dig X)).length+(wsG (dig Y)).length:Nat):Int):=by rw[w64 (by omega)];omega
  rw[←hadd]at hmk
  have hal1:=alias_nil (p:= .g (.sl (wsG (dig X))))
  have hal2:=alias_nil (p:= .g (.sl (wsG (dig Y))))
  generalize dig X=xs at *
  generalize dig Y=ys at *
  generalize dig (X *Y)=zs at *
  refine eN Tryz.func121 ?_
  (repeat' first|refine uF ?_|((first|apply oR rfl rfl|(apply dF rfl rfl rfl;intro _)|(apply dP rfl rfl rfl;intro _)|(apply dL rfl rfl rfl;intro _)|apply dC rfl rfl rfl rfl);(focus(first|exact mO));try exact kQ)|refine xU [9] rfl ?_|(refine sQ (fun h=> ?_) (fun h=> ?_)<;>fail_if_success (first|(have:true=true:=h)|(have:false=false:=h)))|fail)
  all_goals(try(exfalso;have hh:=of_decide_eq_true h;first|omega|(simp only[wsG_length,List.length_cons,List.length_nil]at hh;omega)))
  try clear h
  (repeat' first|refine uF ?_|((first|apply oR rfl rfl|(apply dF rfl rfl rfl;intro _)|(apply dP rfl rfl rfl;intro _)|(apply dL rfl rfl rfl;intro _)|apply dC rfl rfl rfl rfl);(focus(first|exact cb [true] rfl rfl (EN rfl) (hal1) rfl rfl rfl rfl rfl rfl rfl rfl rfl rfl rfl|exact cb [true] rfl rfl (EN rfl) (hal2) rfl rfl rfl rfl rfl rfl rfl rfl rfl rfl rfl|exact cd [true] rfl rfl (EN rfl) (hmk) rfl rfl rfl rfl rfl rfl rfl rfl rfl rfl rfl|exact PO_loadg rfl (AG rfl) rfl rfl|exact cd [] rfl rfl (EN rfl) (hb) rfl rfl rfl rfl rfl rfl rfl rfl rfl rfl rfl|exact cd [] rfl rfl (EN rfl) (hn) rfl rfl rfl rfl rfl rfl rfl rfl rfl rfl rfl|exact mO));try exact kQ)|refine xU [15] rfl ?_|(refine sQ (fun h=> ?_) (fun h=> ?_)<;>fail_if_success (first|(have:true=true:=h)|(have:false=false:=h)))|fail)
  all_goals(try(exfalso;have hh:=of_decide_eq_false h;first|omega|(simp only[wsG_length,List.length_cons,List.length_nil]at hh;omega)))
  refine rB ?_ ?_ ?_
  all_goals rfl
def prodW(X Y:Nat):List Nat:=putL (List.replicate ((wsG (dig X)).length+(wsG (dig Y)).length+4) 0) 0 (padD ((wsG (dig X)).length+(wsG (dig Y)).length) (X *Y))
theorem prodW_comm(X Y:Nat):prodW X Y=prodW Y X:=by
 unfold prodW
 rw[Nat.add_comm (wsG (dig X)).length,Nat.mul_comm X]
theorem prodW_take(X Y:Nat):(prodW X Y).take (dig (X *Y)).length=dig (X *Y):=by
 unfold prodW
 have hp:=prod_lt (okW_dig X) (okW_dig Y)
 rw[val_dig,val_dig,←dig_wlen X,←dig_wlen Y]at hp
 have hpl:=padD_length ((wsG (dig X)).length+(wsG (dig Y)).length) (X *Y)
 have hl:=dig_length_le hp
 rw[putL_zero,List.take_append_of_le_length (by omega)]
 exact take_padD hp
theorem mul_g{X Y:Nat}(hX:X≠0)(hY:Y≠0)(hm:(wsG (dig X)).length≤30)(hm2:(wsG (dig Y)).length≤30):
  PC Tryz.prog 121 [.nils, .any, .g (.sl (wsG (dig X))), .g (.sl (wsG (dig Y)))] ⟨[],[],[]⟩ (.vw 0 0 0 (dig (X *Y)).length ((wsG (dig X)).length+(wsG (dig Y)).length+4)) ⟨[],[],[AR 0 (prodW X Y)]⟩:=by
 by_cases hge:(wsG (dig Y)).length≤(wsG (dig X)).length
 ·exact mul_ge hX hY hge hm
 ·have hc:=mul_ge hY hX (by omega) hm2
  rw[show putL (List.replicate ((wsG (dig Y)).length+(wsG (dig X)).length+4) 0) 0 (padD ((wsG (dig Y)).length+(wsG (dig X)).length) (Y *X))=prodW X Y from prodW_comm Y X,Nat.mul_comm Y X,Nat.add_comm (wsG (dig Y)).length]at hc
  generalize prodW X Y=pw at *
  generalize dig X=xs at *
  generalize dig Y=ys at *
  generalize dig (X *Y)=zs at *
  refine eN Tryz.func121 ?_
  (try refine uD ?_)
  refine sQ (fun h=> ?_) fun h=> ?_
  ·(repeat first|refine uE ?_|((first|apply oR rfl rfl|(apply dF rfl rfl rfl;intro _)|(apply dP rfl rfl rfl;intro _)|(apply dL rfl rfl rfl;intro _)|apply dC rfl rfl rfl rfl);(focus(first|exact cd [true] rfl rfl (EN rfl) (hc) rfl rfl rfl rfl rfl rfl rfl rfl rfl rfl rfl|exact mO));try exact kQ))
   refine rB ?_ ?_ ?_
   all_goals rfl
  ·exfalso;have hh:=of_decide_eq_false h;omega
theorem mul_z{X Y:Nat}(h0:X=0∨Y=0):PC Tryz.prog 121 [.nils, .any, .g (.sl (wsG (dig X))), .g (.sl (wsG (dig Y)))] ⟨[],[],[]⟩ .nils ⟨[],[],[]⟩:=by
 have key: ∀ys xs:List Nat,(wsG xs).length=0∨(wsG ys).length=0→(wsG ys).length≤(wsG xs).length→PC Tryz.prog 121 [.nils, .any, .g (.sl (wsG xs)), .g (.sl (wsG ys))] ⟨[],[],[]⟩ .nils ⟨[],[],[]⟩:=by
  intro ys xs h0 hle
  refine eN Tryz.func121 ?_
  (repeat' first|refine uF ?_|((first|apply oR rfl rfl|(apply dF rfl rfl rfl;intro _)|(apply dP rfl rfl rfl;intro _)|(apply dL rfl rfl rfl;intro _)|apply dC rfl rfl rfl rfl);(focus(first|exact PO_nslice rfl (EL rfl) (SZ rfl) rfl rfl rfl rfl rfl|exact mO));try exact kQ)|refine xU [7] rfl ?_|(refine sQ (fun h=> ?_) (fun h=> ?_)<;>fail_if_success (first|(have:true=true:=h)|(have:false=false:=h)))|fail)
  all_goals(try(exfalso;have hh:=of_decide_eq_true h;omega))
  all_goals(first|(refine rB ?_ ?_ ?_;all_goals rfl)|(exfalso;simp only[beq_eq_false_iff_ne,ne_eq,decide_eq_false_iff_not]at *;omega))
 have hx:(wsG (dig X)).length=0∨(wsG (dig Y)).length=0:=by
  rcases h0 with h0|h0<;>subst h0
  ·left;rw[dig_zero];rfl
  ·right;rw[dig_zero];rfl
 by_cases hge:(wsG (dig Y)).length≤(wsG (dig X)).length
 ·exact key (dig Y) (dig X) hx hge
 ·have hc:=key (dig X) (dig Y) (by omega) (by omega)
  generalize dig X=xs at *
  generalize dig Y=ys at *
  refine eN Tryz.func121 ?_
  (try refine uD ?_)
  refine sQ (fun h=> ?_) fun h=> ?_
  ·(repeat first|refine uE ?_|((first|apply oR rfl rfl|(apply dF rfl rfl rfl;intro _)|(apply dP rfl rfl rfl;intro _)|(apply dL rfl rfl rfl;intro _)|apply dC rfl rfl rfl rfl);(focus(first|exact cb [true,true] rfl rfl (EN rfl) (hc) rfl rfl rfl rfl rfl rfl rfl rfl rfl rfl rfl|exact mO));try exact kQ))
   refine rB ?_ ?_ ?_
   all_goals rfl
  ·exfalso;have hh:=of_decide_eq_false h;omega
end Go.Proofs.YtdoenpeadkoklaaGreatFmtBesafter