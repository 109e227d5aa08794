/- What the program's functions compute, each shown once; and plain laws of it. -/
import Derived.Test.YtdoenpeadkoklaaGreatFmtBesafterOwnJ
import Derived.Test.YtdoenpeadkoklaaGreatFmtBesafterPureC
set_option maxRecDepth 100000
set_option maxHeartbeats 32000000
namespace Go.Proofs.YtdoenpeadkoklaaGreatFmtBesafter
open Go Go.Pure
attribute [local irreducible] PW POps POpsD PO PC Cond
theorem shl_raw{n s:Nat}(hs:s≤64):IntKind.u64.wrap ((n:Int) *2^min ((s:Int)).toNat IntKind.u64.bits)=((n *2^s%WB:Nat):Int):=by
 rw[Int.toNat_natCast,Nat.min_eq_left (show s≤IntKind.u64.bits from hs),←u64_mod]
 congr 1
theorem shr_raw{n s:Nat}(hs:s≤64):((n:Int)).fdiv (2^min ((s:Int)).toNat IntKind.u64.bits)=((n/2^s:Nat):Int):=by
 rw[Int.toNat_natCast,Nat.min_eq_left (show s≤IntKind.u64.bits from hs),show((2:Int)^s)=((2^s:Nat):Int) by push_cast;rfl,Int.fdiv_eq_ediv_of_nonneg _ (Int.natCast_nonneg _)]
 rfl
theorem or_raw{a b s:Nat}(h:b<2^s)(hab:a *2^s+b<WB):IntKind.u64.wrap (((BitVec.ofInt IntKind.u64.bits ((a *2^s:Nat):Int) ||| BitVec.ofInt IntKind.u64.bits (b:Int)).toNat:Nat):Int)=((a *2^s+b:Nat):Int):=by
 have e:(((BitVec.ofInt 64 ((a *2^s:Nat):Int) ||| BitVec.ofInt 64 (b:Int)).toNat:Nat):Int)=((a *2^s+b:Nat):Int):=by
  rw[BitVec.ofInt_natCast,BitVec.ofInt_natCast,BitVec.toNat_or,BitVec.toNat_ofNat,BitVec.toNat_ofNat,Nat.mod_eq_of_lt (show a *2^s<2^64 by have:WB=2^64:=WB_two;omega),Nat.mod_eq_of_lt (show b<2^64 by have:WB=2^64:=WB_two;omega),←Nat.shiftLeft_eq,Nat.shiftLeft_add_eq_or_of_lt h]
 exact u64_wrap e hab
theorem sub_raw{a b:Nat}(h:b≤a)(ha:a<WB):IntKind.u64.wrap ((a:Int)-(b:Int))=((a-b:Nat):Int):=u64_wrap (by omega) (by omega)
theorem divWW_pc{x1 x0 y:Nat}(h0:y≠0)(hy:y<WB)(hx1:x1<y)(hx0:x0<WB):PC Tryz.prog 218 [.g (wG x1), .g (wG x0), .g (wG y), .g (wG (recW y))] ⟨[],[],[]⟩ (.tuple [.g (wG ((x1 *WB+x0)/y)), .g (wG ((x1 *WB+x0)%y))]) ⟨[],[],[]⟩:=by
 obtain⟨u1,u2,u3,u4⟩:=upW_ok h0 hy
 obtain⟨k1,k2⟩:=recW_ok h0 hy
 obtain⟨v1,v2,v3,v4⟩:=upped h0 hy hx1 hx0
 obtain⟨b1,b2,_,_⟩:=bitLen_ok h0 hy
 have hnl:=nlz_pc hy b2
 rw[show 64-Lib.bitLen y=lz y from rfl]at hnl
 generalize recW y=m at k1 k2⊢
 -- the parts
 have hX0:x0 *2^lz y%WB<WB:=Nat.mod_lt _ (by decide)
 obtain⟨g1,g2,g3,g4,g5⟩:=guess_parts hX0 v1 u2 u1 k2
 obtain⟨l1,l2,l3⟩:=left_parts hX0 v1 u2 g3 g4
 have hq1:upW y *((x1 *WB+x0)/y)≤(x1 *WB+x0) *2^lz y:=by
  unfold upW
  rw[Nat.mul_right_comm]
  exact Nat.mul_le_mul_right _ (Nat.mul_div_le _ _)
 have c1:=bmul_pc (x:=m) (y:=x1 *2^lz y+x0/2^(64-lz y)) k1 (by omega)
 have c2:=badd_pc (x:=m *(x1 *2^lz y+x0/2^(64-lz y))%WB) (y:=x0 *2^lz y%WB) (c:=0) (by omega)
 have c3:=badd_pc (x:=m *(x1 *2^lz y+x0/2^(64-lz y))/WB) (y:=x1 *2^lz y+x0/2^(64-lz y)) (c:=(m *(x1 *2^lz y+x0/2^(64-lz y))%WB+x0 *2^lz y%WB+0)/WB) g5
 rw[Nat.mod_eq_of_lt g1]at c3
 generalize hg:m *(x1 *2^lz y+x0/2^(64-lz y))/WB+(x1 *2^lz y+x0/2^(64-lz y))+(m *(x1 *2^lz y+x0/2^(64-lz y))%WB+x0 *2^lz y%WB+0)/WB=g at *
 have c4:=bmul_pc (x:=upW y) (y:=g) u2 g1
 have c5:=bsub_pc (x:=x0 *2^lz y%WB) (y:=upW y *g%WB) (c:=0) (by omega)
 have c6:=bsub_pc (x:=x1 *2^lz y+x0/2^(64-lz y)) (y:=upW y *g/WB) (c:=if x0 *2^lz y%WB<upW y *g%WB+0 then 1 else 0) (by split<;>omega)
 generalize hr1:(x1 *2^lz y+x0/2^(64-lz y)+WB-upW y *g/WB-if x0 *2^lz y%WB<upW y *g%WB+0 then 1 else 0)%WB=r1 at *
 generalize hr0:(x0 *2^lz y%WB+WB-upW y *g%WB-0)%WB=r0 at *
 generalize(if x0 *2^lz y%WB<upW y *g%WB+0 then 1 else 0)=bb at c5 c6
 rw[v3]at l1 g3 g4
 -- what comes out
 have fin: ∀G:Nat,G *upW y≤(x1 *WB+x0) *2^lz y→(x1 *WB+x0) *2^lz y<G *upW y+upW y→(x1 *WB+x0)/y=G∧((x1 *WB+x0) *2^lz y-G *upW y)/2^lz y=(x1 *WB+x0)%y:=by
  intro G h1 h2
  unfold upW at h1 h2⊢
  rw[←Nat.mul_assoc]at h1 h2⊢
  have p:0<2^lz y:=Nat.pow_pos (by decide)
  have h1':=Nat.le_of_mul_le_mul_right h1 p
  rw[←Nat.add_mul]at h2
  have h2':=Nat.lt_of_mul_lt_mul_right h2
  refine⟨div_is h1' h2', ?_⟩
  rw[←Nat.mul_sub_right_distrib,Nat.mul_div_cancel _ p,mod_is h1' h2']
 generalize hN:(x1 *WB+x0) *2^lz y=NN at *
 have lz64:lz y≤64:=by omega
 have hsh1:=shl_raw (n:=x1) lz64
 have hsh0:=shl_raw (n:=x0) lz64
 have hshy:=shl_raw (n:=y) lz64
 have hshr:=shr_raw (n:=x0) (s:=64-lz y) (by omega)
 have hsb:IntKind.u64.wrap (64-(lz y:Int))=((64-lz y:Nat):Int):=sub_raw (a:=64) lz64 (by decide)
 rw[Nat.mod_eq_of_lt v4]at hsh1
 have hyy:y *2^lz y%WB=upW y:=Nat.mod_eq_of_lt u2
 rw[hyy]at hshy
 have hor:=or_raw (a:=x1) (b:=x0/2^(64-lz y)) (s:=lz y) v2 (by omega)
 have hsb0:(0:Int)≤IntKind.u64.wrap (64-(lz y:Int)):=by rw[hsb];exact Int.natCast_nonneg _
 have hshr':((x0:Int)).fdiv (2^min (IntKind.u64.wrap (64-(lz y:Int))).toNat IntKind.u64.bits)=((x0/2^(64-lz y):Nat):Int):=by rw[hsb];exact hshr
 refine eN Tryz.func218 ?_
 (repeat first|refine uC ?_|(apply oR rfl rfl;focus(first|exact cqP hnl|exact mO))|refine xU [2] rfl ?_)
 refine PW_cut (slots [(0, .g (wG (x1 *2^lz y+x0/2^(64-lz y)))),(1, .g (wG (x0 *2^lz y%WB))),(2, .g (wG (upW y))),(3, .g (wG m)),(10, .g (wG (lz y)))]) ⟨[],[],[]⟩ ?_ ?_
 ·(try refine uN ?_)
  refine sQ (fun h=> ?_) fun h=> ?_
  ·(repeat first|refine uA ?_|(apply oR rfl rfl;focus(first|exact PO_as (PO_shl rfl rfl rfl (Int.natCast_nonneg _)) (congrArg (fun k=>PV.g (.int .u64 k)) hsh1)|exact PO_as (PO_shl rfl rfl rfl (Int.natCast_nonneg _)) (congrArg (fun k=>PV.g (.int .u64 k)) hsh0)|exact PO_as (PO_shl rfl rfl rfl (Int.natCast_nonneg _)) (congrArg (fun k=>PV.g (.int .u64 k)) hshy)|exact PO_as (PO_shr rfl rfl rfl hsb0) (congrArg (fun k=>PV.g (.int .u64 k)) hshr')|exact mO)))
   exact⟨SlotsOk.le ⟨.inl (congrArg (fun k=>PV.g (.int .u64 k)) hor), .inl rfl, .inl rfl, .inl rfl, .inl rfl,trivial⟩,HLe.of_eq rfl⟩
  ·have hz:lz y=0:=by have:=h;simp at this;omega
   have hup:upW y=y:=by unfold upW;rw[hz];simp
   rw[hup,hz]
   (try refine uN ?_)
   refine⟨SlotsOk.le ⟨.inl ?_, .inl ?_, .inl rfl, .inl rfl, .inl rfl,trivial⟩,HLe.of_eq rfl⟩
   ·rw[Nat.pow_zero,Nat.mul_one,show x0/2^(64-0)=0 from Nat.div_eq_of_lt hx0];rfl
   ·rw[Nat.pow_zero,Nat.mul_one,Nat.mod_eq_of_lt hx0];rfl
 ·(repeat first|refine uC ?_|(apply oR rfl rfl;focus(first|exact cqP c1|exact cqP c2|exact cqP c3|exact cqP c4|exact cqP c5|exact cqP c6|exact mO))|refine xU [14] rfl ?_)
  have hbig:NN<upW y *WB:=by
   rw[←v3]
   have:(x1 *2^lz y+x0/2^(64-lz y)+1) *WB≤upW y *WB:=Nat.mul_le_mul_right _ v1
   rw[Nat.add_mul,Nat.one_mul]at this
   omega
  have small: ∀G:Nat,G *upW y≤NN→G<WB:=by
   intro G hG
   refine Nat.lt_of_mul_lt_mul_right (a:=upW y) ?_
   rw[Nat.mul_comm WB]
   omega
  refine PW_cut_ex (S:=Nat×Nat) (fun s=>slots [(10, .g (wG (lz y))),(11, .g (wG (upW y))),(16, .g (wG s.1)),(19, .g (wG s.2))]) (fun _=>⟨[],[],[]⟩) (fun s=>s.1 *upW y+s.2=NN∧s.2<WB∧s.1<WB) ?_ ?_
  ·(try refine uN ?_)
   refine sQ (fun h=> ?_) fun h=> ?_
   ·have e1:r1=1:=by have:=h;simp at this;omega
    subst e1
    clear h
    have e2:(g+1) *upW y≤NN:=by rw[Nat.add_mul];omega
    have d1:IntKind.u64.wrap ((g:Int)+1)=((g+1:Nat):Int):=u64_wrap (by omega) (small _ e2)
    have e3:(g+1) *upW y=g *upW y+upW y:=by rw[Nat.add_mul,Nat.one_mul]
    have d2:IntKind.u64.wrap ((r0:Int)-(upW y:Int))=((NN-(g+1) *upW y:Nat):Int):=by
     rw[IntKind.wrap_u64,e3]
     unfold WB at *
     omega
    (try refine uN ?_)
    exact⟨(g+1,NN-(g+1) *upW y),⟨by dsimp only;omega,by dsimp only;omega,small _ e2⟩,SlotsOk.le ⟨.inl rfl, .inl rfl, .inl (congrArg (fun k=>PV.g (.int .u64 k)) d1), .inl (congrArg (fun k=>PV.g (.int .u64 k)) d2),trivial⟩,HLe.of_eq rfl⟩
   ·have e1:r1=0:=by have:=h;simp at this;omega
    subst e1
    clear h
    (try refine uN ?_)
    have l0:g *upW y+r0=NN:=by
     rw[Nat.zero_mul,Nat.zero_add]at l1
     rw[l1]
     exact Nat.add_sub_cancel' g3
    exact⟨(g,r0),⟨l0,l3,g1⟩,SlotsOk.le ⟨.inl rfl, .inl rfl, .inl rfl, .inl rfl,trivial⟩,HLe.of_eq rfl⟩
  ·intro s hs
   have i1:=hs.1
   have i2:=hs.2.1
   have i3:=hs.2.2
   obtain⟨G,R⟩:=s
   dsimp only at i1 i2 i3
   have hshq:=shr_raw (s:=lz y) (n:=R) lz64
   (repeat first|refine uA ?_|(apply oR rfl rfl;focus(first|exact PO_as (PO_shr rfl rfl rfl (Int.natCast_nonneg _)) (congrArg (fun k=>PV.g (.int .u64 k)) hshq)|exact mO)))
   refine sQ (fun h=> ?_) fun h=> ?_
   ·have hge:upW y≤R:=Int.ofNat_le.1 (of_decide_eq_true h)
    clear h
    have e3:(G+1) *upW y=G *upW y+upW y:=by rw[Nat.add_mul,Nat.one_mul]
    obtain⟨f1,f2⟩:=fin (G+1) (by omega) (by omega)
    have d1:IntKind.u64.wrap ((G:Int)+1)=((G+1:Nat):Int):=u64_wrap (by omega) (small _ (by omega))
    have d2:IntKind.u64.wrap ((R:Int)-(upW y:Int))=((R-upW y:Nat):Int):=sub_raw hge i2
    have hshq:=shr_raw (s:=lz y) (n:=R-upW y) lz64
    have hshq':(IntKind.u64.wrap ((R:Int)-(upW y:Int))).fdiv (2^min ((lz y:Int)).toNat IntKind.u64.bits)=(((R-upW y)/2^lz y:Nat):Int):=by rw[d2];exact hshq
    (repeat first|refine uA ?_|(apply oR rfl rfl;focus(first|exact PO_as (PO_shr rfl rfl rfl (Int.natCast_nonneg _)) (congrArg (fun k=>PV.g (.int .u64 k)) hshq')|exact mO)))
    rw[f1,←f2]
    exact Ret2 (vC vT (vC vT vN)) rfl (congrArg (GV.int .u64) d1) (congrArg wG (by congr 1;omega))
   ·have hlt:R<upW y:=Nat.lt_of_not_le fun hc=>of_decide_eq_false h (Int.ofNat_le.2 hc)
    clear h
    obtain⟨f1,f2⟩:=fin G (by omega) (by omega)
    (repeat first|refine uA ?_|(apply oR rfl rfl;focus(first|exact PO_as (PO_shr rfl rfl rfl (Int.natCast_nonneg _)) (congrArg (fun k=>PV.g (.int .u64 k)) hshq)|exact mO)))
    rw[f1,←f2]
    exact Ret2 (vC vT (vC vT vN)) rfl rfl (congrArg wG (by congr 1;omega))
end Go.Proofs.YtdoenpeadkoklaaGreatFmtBesafter
namespace Go.Proofs.YtdoenpeadkoklaaGreatFmtBesafter
open Go Go.Pure Go.Shelf
attribute [local irreducible] PW POps POpsD PO PC Cond
theorem not_raw{n:Nat}(hn:n<WB):IntKind.u64.wrap (((BitVec.ofInt IntKind.u64.bits (if IntKind.u64.signed=true then -1 else IntKind.u64.max) ^^^ BitVec.ofInt IntKind.u64.bits (n:Int)).toNat:Nat):Int)=((WB-1-n:Nat):Int):=by
 have e:(((BitVec.ofInt 64 (18446744073709551615:Int) ^^^ BitVec.ofInt 64 (n:Int)).toNat:Nat):Int)=((WB-1-n:Nat):Int):=by
  rw[show BitVec.ofInt 64 (18446744073709551615:Int)=BitVec.allOnes 64 from by decide,BitVec.allOnes_xor,BitVec.ofInt_natCast,BitVec.toNat_not,BitVec.toNat_ofNat,Nat.mod_eq_of_lt (show n<2^64 from hn)]
 exact u64_wrap e (by unfold WB;omega)
theorem mask_raw{n:Nat}(hn:n<WB):IntKind.u64.wrap (((BitVec.ofInt IntKind.u64.bits (n:Int) &&& BitVec.ofInt IntKind.u64.bits 4294967295).toNat:Nat):Int)=((n%HB:Nat):Int):=by
 have e:(((BitVec.ofInt 64 (n:Int) &&& BitVec.ofInt 64 ((4294967295:Nat):Int)).toNat:Nat):Int)=((n%HB:Nat):Int):=by
  rw[BitVec.ofInt_natCast,BitVec.ofInt_natCast,BitVec.toNat_and,BitVec.toNat_ofNat,BitVec.toNat_ofNat,Nat.mod_eq_of_lt (show n<2^64 from hn),show(4294967295:Nat)%2^64=2^32-1 from by decide,Nat.and_two_pow_sub_one_eq_mod]
 exact u64_wrap e (by have:=Nat.mod_lt n (show 0<HB by decide);unfold WB HB at *;omega)
theorem quo_raw{a b:Nat}(ha:a<WB):IntKind.u64.wrap (((a:Int)).tdiv (b:Int))=((a/b:Nat):Int):=by
 refine u64_wrap (by rw[Int.ofNat_tdiv]) (Nat.lt_of_le_of_lt (Nat.div_le_self _ _) ha)
theorem rem_raw{a b:Nat}:((a:Int)).tmod (b:Int)=((a%b:Nat):Int):=by rw[Int.ofNat_tmod]
theorem wquo{o:Oper}{ρ:Operand→PV}{H:PH}{t u:TypeId}{x y:Operand}{a b:Nat}(ho:o.op= .binOp .quo t x y u)(ha:ρ x= .g (wG a))(hb:ρ y= .g (wG b))(h0:b≠0)(hw:a<WB):PO Tryz.prog o ρ H (.g (wG (a/b))) H:=
 PO_as (PO_quo ho ha hb (by omega)) (congrArg (fun k=>PV.g (.int .u64 k)) (quo_raw hw))
theorem wrem{o:Oper}{ρ:Operand→PV}{H:PH}{t u:TypeId}{x y:Operand}{a b:Nat}(ho:o.op= .binOp .rem t x y u)(ha:ρ x= .g (wG a))(hb:ρ y= .g (wG b))(h0:b≠0):PO Tryz.prog o ρ H (.g (wG (a%b))) H:=
 PO_as (PO_rem ho ha hb (by omega)) (congrArg (fun k=>PV.g (.int .u64 k)) rem_raw)
theorem div64_low{lo y:Nat}(h0:y≠0)(hlo:lo<WB):PC Tryz.prog 244 [.g (wG 0), .g (wG lo), .g (wG y)] ⟨[],[],[]⟩ (.tuple [.g (wG (lo/y)), .g (wG (lo%y))]) ⟨[],[],[]⟩:=by
 have e1:((y:Int)==0)=false:=by simp;omega
 have e2:decide ((y:Int)≤((0:Nat):Int))=false:=by simp;omega
 refine eN Tryz.func244 ?_
 (repeat' first|refine uE ?_|((first|apply oR rfl rfl|(apply dF rfl rfl rfl;intro _)|(apply dP rfl rfl rfl;intro _)|(apply dL rfl rfl rfl;intro _)|apply dC rfl rfl rfl rfl);(focus(first|exact wquo rfl rfl rfl h0 hlo|exact wrem rfl rfl rfl h0|exact mO));try exact kQ)|(refine sQ (fun h=> ?_) (fun h=> ?_)<;>fail_if_success (first|(have:true=true:=h)|(have:false=false:=h)))|fail)
 all_goals(first|(exfalso;simp_all;done)|exact Ret2 (vC vT (vC vT vN)) rfl rfl rfl)
def layLz64_ren:Go.Shelf.Ren:=⟨fun|134=>258|129=>257|n=>n,fun|46=>128|3=>3|53=>143|4=>4|5=>5|9=>9|n=>n,fun|n=>n⟩
theorem layLz64:Go.Proofs.Lays.n134 Tryz.prog layLz64_ren:={
 mixed:=by kernel_rfl
 f129:=Tryz.func257.trans (congrArg some (by kernel_rfl))
 f134:=Tryz.func258.trans (congrArg some (by kernel_rfl))
 t3:=Tryz.underlying3
 a3:=Tryz.isAgg3
 z3:=Tryz.sizeOf3
 v3:=Tryz.zeroValue3
 t4:=Tryz.underlying4
 a4:=Tryz.isAgg4
 z4:=Tryz.sizeOf4
 v4:=Tryz.zeroValue4
 t5:=Tryz.underlying5
 a5:=Tryz.isAgg5
 z5:=Tryz.sizeOf5
 v5:=Tryz.zeroValue5
 t9:=Tryz.underlying9
 a9:=Tryz.isAgg9
 z9:=Tryz.sizeOf9
 v9:=Tryz.zeroValue9
 t46:=Tryz.underlying128
 a46:=Tryz.isAgg128
 z46:=Tryz.sizeOf128
 v46:=Tryz.zeroValue128
 t53:=Tryz.underlying143
 a53:=Tryz.isAgg143
 z53:=Tryz.sizeOf143
 v53:=Tryz.zeroValue143}
theorem lz64_any{x:Nat}(hx:x<WB):PC Tryz.prog 258 [.g (wG x)] ⟨[],[],[]⟩ (.g (.int .i64 (64-(Lib.bitLen x:Int)))) ⟨[],[],[]⟩:=
 pc_one (fun w=>by
  have hx':x<18446744073709551616:=hx
  have h:=Any.bits_LeadingZeros64 layLz64 (x:Int) w (by omega) (by omega)
  rw[Int.toNat_natCast]at h
  exact h) (fun c=> .g _ _ (.int _ _))
theorem lz64_pc{x:Nat}(hx:WB≤2 *x)(hxw:x<WB):PC Tryz.prog 258 [.g (wG x)] ⟨[],[],[]⟩ (.g (.int .i64 0)) ⟨[],[],[]⟩:=by
 have h:=lz64_any hxw
 obtain⟨b1,b2,b3,b4⟩:=bitLen_ok (y:=x) (by unfold WB at hx;omega) hxw
 have hb:Lib.bitLen x=64:=by
  refine Classical.byContradiction fun hc=> ?_
  have:2^Lib.bitLen x≤2^63:=Nat.pow_le_pow_right (by decide) (by omega)
  unfold WB at hx
  omega
 rw[hb]at h
 exact h
theorem digit_ltH{H y u:Nat}(h:H<y)(hu:u<HB):(H *HB+u)/y<HB:=by
 refine(Nat.div_lt_iff_lt_mul (by omega)).2 ?_
 have:(H+1) *HB≤y *HB:=Nat.mul_le_mul_right _ h
 rw[Nat.add_mul,Nat.one_mul]at this
 rw[Nat.mul_comm HB]
 omega
theorem up_parts{hi lo y:Nat}(hy:WB≤2 *y)(hyw:y<WB)(hhi:hi<y)(hlo:lo<WB):2147483648≤y/HB∧y/HB<HB∧y%HB<HB∧lo/HB<HB∧lo%HB<HB∧y/HB *HB+y%HB=y∧lo/HB *HB+lo%HB=lo:=by
 unfold WB HB at *
 omega
theorem two_digits{hi u1 u0 y:Nat}(hy:0<y):(hi *HB+u1)/y *HB+((hi *HB+u1)%y *HB+u0)/y=((hi *HB+u1) *HB+u0)/y∧((hi *HB+u1)%y *HB+u0)%y=((hi *HB+u1) *HB+u0)%y:=by
 obtain⟨N,hN⟩: ∃N,N=hi *HB+u1:=⟨_,rfl⟩
 rw[←hN]
 have h1:=Nat.mod_add_div N y
 have e:N *HB+u0=(N%y *HB+u0)+y *(N/y *HB):=by
  have e2:N *HB=N%y *HB+y *(N/y *HB):=by
   rw[←Nat.mul_assoc,←Nat.add_mul,h1]
  rw[e2,Nat.add_right_comm]
 rw[e,Nat.add_mul_div_left _ _ hy,Nat.add_mul_mod_self_left]
 exact⟨Nat.add_comm _ _,rfl⟩
theorem split_lo(hi lo:Nat):hi *WB+lo=(hi *HB+lo/HB) *HB+lo%HB:=by
 unfold WB HB
 omega
theorem rest_raw{a b c q y:Nat}(_hb:b<HB)(h:a *HB+b=q *y+c)(hc:c<WB):IntKind.u64.wrap (IntKind.u64.wrap (IntKind.u64.wrap ((a:Int) *4294967296)+(b:Int))-IntKind.u64.wrap ((q:Int) *(y:Int)))=((c:Nat):Int):=by
 rw[←Int.natCast_mul]
 generalize q *y=p at *
 simp only[IntKind.wrap,IntKind.signed,IntKind.bits,Bool.false_and,Bool.false_eq_true,if_false]
 unfold HB at *
 unfold WB at hc
 omega
theorem shr_nil{n:Nat}:((n:Int)).fdiv (2^min (0:Int).toNat IntKind.u64.bits)=((n:Nat):Int):=by
 have:=shr_raw (n:=n) (s:=0) (by decide)
 rw[Nat.pow_zero,Nat.div_one]at this
 exact this
theorem shl_nil{n:Nat}(h:n<WB):IntKind.u64.wrap ((n:Int) *2^min (0:Int).toNat IntKind.u64.bits)=((n:Nat):Int):=by
 have:=shl_raw (n:=n) (s:=0) (by decide)
 rw[Nat.pow_zero,Nat.mul_one,Nat.mod_eq_of_lt h]at this
 exact this
theorem shr_all{n:Nat}(h:n<WB):((n:Int)).fdiv (2^min (IntKind.u64.wrap (64-0)).toNat IntKind.u64.bits)=((0:Nat):Int):=by
 have:=shr_raw (n:=n) (s:=64) (by decide)
 rw[Nat.div_eq_of_lt (show n<2^64 from h)]at this
 exact this
theorem or_nil{n:Nat}(h:n<WB):IntKind.u64.wrap (((BitVec.ofInt IntKind.u64.bits (n:Int) ||| BitVec.ofInt IntKind.u64.bits ((0:Nat):Int)).toNat:Nat):Int)=((n:Nat):Int):=by
 have:=or_raw (a:=n) (b:=0) (s:=0) (by decide) (by rw[Nat.pow_zero];omega)
 rw[Nat.pow_zero,Nat.mul_one,Nat.add_zero]at this
 exact this
theorem div64_walk{hi lo y v1 v2 u1 u0 Q1 R1 Q0 R0:Nat}(hy:WB≤2 *y)(hyw:y<WB)(hhi:hi<y)(h1:hi≠0)(hlo:lo<WB)(hiw:hi<WB)(p1:2147483648≤v1)(p2:v1<HB)(p3:v2<HB)(p4:u1<HB)(p5:u0<HB)(p6:v1 *HB+v2=y)
    (hsy:((y:Int)).fdiv (2^min ((32:Nat):Int).toNat IntKind.u64.bits)=((v1:Nat):Int)) (hmy:IntKind.u64.wrap (((BitVec.ofInt IntKind.u64.bits (y:Int) &&& BitVec.ofInt IntKind.u64.bits 4294967295).toNat:Nat):Int)=((v2:Nat):Int))
    (hsl:((lo:Int)).fdiv (2^min ((32:Nat):Int).toNat IntKind.u64.bits)=((u1:Nat):Int)) (hml:IntKind.u64.wrap (((BitVec.ofInt IntKind.u64.bits (lo:Int) &&& BitVec.ofInt IntKind.u64.bits 4294967295).toNat:Nat):Int)=((u0:Nat):Int))
    (hQ1:(hi *HB+u1)/y=Q1) (hQ0:(R1 *HB+u0)/y=Q0) (hm1:hi *HB+u1=Q1 *y+R1) (hm2:R1 *HB+u0=Q0 *y+R0) (hR:R1<y) (hR2:R0<y) (hQ:Q1<HB) (hQ2:Q0<HB):
    PC Tryz.prog 244 [.g (wG hi), .g (wG lo), .g (wG y)] ⟨[],[],[]⟩ (.tuple [.g (wG (Q1 *HB+Q0)), .g (wG R0)]) ⟨[],[],[]⟩:=by
  have hz:=lz64_pc hy hyw
  have hyp:0<y:=by omega
  have hH:hi<v1 *HB+v2:=by omega
  have hH2:R1<v1 *HB+v2:=by omega
  have r1:=rest_raw (a:=hi) (b:=u1) (c:=R1) (q:=Q1) (y:=y) p4 hm1 (by omega)
  have r2:=rest_raw (a:=R1) (b:=u0) (c:=R0) (q:=Q0) (y:=y) p5 hm2 (by omega)
  have hv1z:v1≠0:=by omega
  have mod1: ∀H:Nat,H<WB→IntKind.u64.wrap ((H:Int)-IntKind.u64.wrap (((H/v1:Nat):Int) *(v1:Int)))=((H%v1:Nat):Int):=by
    intro H hHw
    have:=Nat.div_add_mod H v1
    rw[Nat.mul_comm]at this
    rw[show IntKind.u64.wrap (((H/v1:Nat):Int) *(v1:Int))=((H/v1 *v1:Nat):Int)from u64_wrap (by rw[Int.natCast_mul]) (by omega)]
    exact u64_wrap (by omega) (by omega)
  have hfinq:IntKind.u64.wrap (IntKind.u64.wrap ((Q1:Int) *4294967296)+(Q0:Int))=((Q1 *HB+Q0:Nat):Int):=by
    rw[show IntKind.u64.wrap ((Q1:Int) *4294967296)=((Q1 *HB:Nat):Int)from u64_wrap (by unfold HB;omega) (by unfold HB at *;unfold WB;omega)]
    exact u64_wrap (by omega) (by unfold HB at *;unfold WB;omega)
  have y1:=shl_nil hyw
  have hi1:=shl_nil hiw
  have lo1:=shl_nil hlo
  have lo0:=shr_all hlo
  have hor:=or_nil hiw
  refine eN Tryz.func244 ?_
  (try refine uD ?_)
  refine sQ (fun h=> ?_) fun h=> ?_
  · exfalso;have hh:=beq_iff_eq.1 h;omega
  clear h
  (try refine uD ?_)
  refine sQ (fun h=> ?_) fun h=> ?_
  · exfalso;have hh:=of_decide_eq_true h;omega
  clear h
  (try refine uD ?_)
  refine sQ (fun h=> ?_) fun h=> ?_
  · exfalso;have hh:=beq_iff_eq.1 h;omega
  clear h
  (repeat first|refine uF ?_|((first|apply oR rfl rfl|(apply dF rfl rfl rfl;intro _)|(apply dP rfl rfl rfl;intro _)|(apply dL rfl rfl rfl;intro _)|apply dC rfl rfl rfl rfl);(focus(first|exact cqP hz|exact PO_as (PO_shl rfl rfl rfl (by decide)) (congrArg (fun k=>PV.g (.int .u64 k)) y1)|exact PO_as (PO_shr rfl rfl rfl (by decide)) (congrArg (fun k=>PV.g (.int .u64 k)) hsy)|exact mO));try exact kQ)|refine xU [11] rfl ?_)
  refine PW_weak (env':=slots [(0, .g (wG hi)),(1, .g (wG lo)),(2, .g (wG y)),(8, .g (.int .u64 0)),(9, .g (wG v1)),(10, .g (wG v2))]) (H':=⟨[],[],[]⟩) (SlotsOk.le ⟨.inl rfl, .inl rfl, .inl rfl, .inl rfl, .inl rfl, .inl (congrArg (fun k=>PV.g (.int .u64 k)) hmy),trivial⟩) (HLe.of_eq rfl) ?_
  (repeat first|refine uF ?_|((first|apply oR rfl rfl|(apply dF rfl rfl rfl;intro _)|(apply dP rfl rfl rfl;intro _)|(apply dL rfl rfl rfl;intro _)|apply dC rfl rfl rfl rfl);(focus(first|exact PO_as (PO_shl rfl rfl rfl (by decide)) (congrArg (fun k=>PV.g (.int .u64 k)) hi1)|exact PO_as (PO_shr rfl rfl rfl (show(0:Int)≤IntKind.u64.wrap (64-0) by decide)) (congrArg (fun k=>PV.g (.int .u64 k)) lo0)|exact PO_as (PO_shl rfl rfl rfl (by decide)) (congrArg (fun k=>PV.g (.int .u64 k)) lo1)|exact PO_as (PO_shr rfl rfl rfl (by decide)) (congrArg (fun k=>PV.g (.int .u64 k)) hsl)|exact mO));try exact kQ)|refine xU [15] rfl ?_)
  refine PW_weak (env':=slots [(2, .g (wG y)),(8, .g (.int .u64 0)),(9, .g (wG v1)),(10, .g (wG v2)),(11, .g (wG hi)),(13, .g (wG u1)),(14, .g (wG u0))]) (H':=⟨[],[],[]⟩) (SlotsOk.le ⟨.inl rfl, .inl rfl, .inl rfl, .inl rfl, .inl (congrArg (fun k=>PV.g (.int .u64 k)) hor), .inl rfl, .inl (congrArg (fun k=>PV.g (.int .u64 k)) hml),trivial⟩) (HLe.of_eq rfl) ?_
  (repeat first|refine uF ?_|((first|apply oR rfl rfl|(apply dF rfl rfl rfl;intro _)|(apply dP rfl rfl rfl;intro _)|(apply dL rfl rfl rfl;intro _)|apply dC rfl rfl rfl rfl);(focus(first|exact wquo rfl rfl rfl hv1z hiw|exact mO));try exact kQ)|refine xU [17] rfl ?_)
  refine PW_cut (slots [(2, .g (wG y)),(8, .g (.int .u64 0)),(9, .g (wG v1)),(10, .g (wG v2)),(11, .g (wG hi)),(13, .g (wG u1)),(14, .g (wG u0)),(15, .g (wG Q1))]) ⟨[],[],[]⟩ ?_ ?_
  · (try refine uD ?_)
    refine PW_loop (S:=Nat×Nat) (fun s=>slots [(2, .g (wG y)),(8, .g (.int .u64 0)),(9, .g (wG v1)),(10, .g (wG v2)),(11, .g (wG hi)),(13, .g (wG u1)),(14, .g (wG u0)),(15, .g (wG s.1)),(16, .g (wG s.2))]) (fun _=>⟨[],[],[]⟩) (fun s=>HInv hi u1 v1 v2 s.1 s.2∧s.2<HB) (fun s=>s.1) (hi/v1,hi%v1) ⟨HInv.start hH p1 p2 p3 p4,Nat.lt_trans (Nat.mod_lt _ (by omega)) p2⟩
      (SlotsOk.le ⟨.inl rfl, .inl rfl, .inl rfl, .inl rfl, .inl rfl, .inl rfl, .inl rfl, .inl rfl, .inl (congrArg (fun k=>PV.g (.int .u64 k)) (mod1 hi hiw)),trivial⟩) (HLe.of_eq rfl) (fun s hs=> ?_)
    obtain⟨g,r⟩:=s
    obtain⟨hI,hrw⟩:=hs
    dsimp only at hI hrw
    have hgb:=hI.b
    have hmul:IntKind.u64.wrap ((g:Int) *(v2:Int))=((g *v2:Nat):Int):=by
      refine u64_wrap (by rw[Int.natCast_mul]) ?_
      have m1:g *v2≤(HB+1) *(HB-1):=Nat.mul_le_mul hgb (by omega)
      have m2:(HB+1) *(HB-1)<WB:=by decide
      omega
    have hadd:IntKind.u64.wrap (IntKind.u64.wrap (4294967296 *(r:Int))+(u1:Int))=((r *HB+u1:Nat):Int):=by
      rw[show IntKind.u64.wrap (4294967296 *(r:Int))=((r *HB:Nat):Int)from u64_wrap (by unfold HB;omega) (by unfold HB at *;unfold WB;omega)]
      exact u64_wrap (by omega) (by unfold HB at *;unfold WB;omega)
    (try refine uD ?_)
    refine sQ (fun h=> ?_) fun h=> ?_
    · have hover:HB≤g∨r *HB+u1<g *v2:= .inl (by have:=of_decide_eq_true h;unfold HB;omega)
      obtain⟨hg1,hI'⟩:=hI.over hH p4 hover
      have e1:IntKind.u64.wrap ((g:Int)-1)=((g-1:Nat):Int):=u64_wrap (by omega) (by have:=hI.b;unfold HB at this;unfold WB;omega)
      have e2:IntKind.u64.wrap ((r:Int)+(v1:Int))=((r+v1:Nat):Int):=u64_wrap (by omega) (by unfold HB at *;unfold WB;omega)
      clear h
      (try refine uD ?_)
      refine sQ (fun h=> ?_) fun h=> ?_
      · have hr2:HB≤r+v1:=by rw[e2]at h;have:=of_decide_eq_true h;unfold HB;omega
        have hG2:=hI'.done (by omega) (by
          have hb:=hI.b
          have m1:(g-1) *v2≤HB *(HB-1):=Nat.mul_le_mul (by omega) (by omega)
          have m2:HB *HB≤(r+v1) *HB:=Nat.mul_le_mul_right _ hr2
          have m3:HB *(HB-1)≤HB *HB:=by decide
          omega)
        have hGe:g-1=Q1:=by rw[←hG2,←hQ1,←p6]
        clear h
        (try refine uD ?_)
        exact⟨SlotsOk.le ⟨.inl rfl, .inl rfl, .inl rfl, .inl rfl, .inl rfl, .inl rfl, .inl rfl, .inl (congrArg (fun k=>PV.g (.int .u64 k)) (by rw[e1,hGe])),trivial⟩,HLe.of_eq rfl⟩
      · have hr2:r+v1<HB:=by rw[e2]at h;have:=of_decide_eq_false h;unfold HB;omega
        clear h
        (try refine uD ?_)
        exact⟨(g-1,r+v1),⟨hI',hr2⟩,by dsimp only;omega,SlotsOk.le ⟨.inl rfl, .inl rfl, .inl rfl, .inl rfl, .inl rfl, .inl rfl, .inl rfl, .inl (congrArg (fun k=>PV.g (.int .u64 k)) e1), .inl (congrArg (fun k=>PV.g (.int .u64 k)) e2),trivial⟩,HLe.of_eq rfl⟩
    · have hgl:g<HB:=by have:=of_decide_eq_false h;unfold HB;omega
      clear h
      (try refine uD ?_)
      refine sQ (fun h=> ?_) fun h=> ?_
      · have hover:HB≤g∨r *HB+u1<g *v2:= .inr (by rw[hmul,hadd]at h;have:=of_decide_eq_true h;omega)
        obtain⟨hg1,hI'⟩:=hI.over hH p4 hover
        have e1:IntKind.u64.wrap ((g:Int)-1)=((g-1:Nat):Int):=u64_wrap (by omega) (by have:=hI.b;unfold HB at this;unfold WB;omega)
        have e2:IntKind.u64.wrap ((r:Int)+(v1:Int))=((r+v1:Nat):Int):=u64_wrap (by omega) (by unfold HB at *;unfold WB;omega)
        clear h
        (try refine uD ?_)
        refine sQ (fun h=> ?_) fun h=> ?_
        · have hr2:HB≤r+v1:=by rw[e2]at h;have:=of_decide_eq_true h;unfold HB;omega
          have hG2:=hI'.done (by omega) (by
            have hb:=hI.b
            have m1:(g-1) *v2≤HB *(HB-1):=Nat.mul_le_mul (by omega) (by omega)
            have m2:HB *HB≤(r+v1) *HB:=Nat.mul_le_mul_right _ hr2
            have m3:HB *(HB-1)≤HB *HB:=by decide
            omega)
          have hGe:g-1=Q1:=by rw[←hG2,←hQ1,←p6]
          clear h
          (try refine uD ?_)
          exact⟨SlotsOk.le ⟨.inl rfl, .inl rfl, .inl rfl, .inl rfl, .inl rfl, .inl rfl, .inl rfl, .inl (congrArg (fun k=>PV.g (.int .u64 k)) (by rw[e1,hGe])),trivial⟩,HLe.of_eq rfl⟩
        · have hr2:r+v1<HB:=by rw[e2]at h;have:=of_decide_eq_false h;unfold HB;omega
          clear h
          (try refine uD ?_)
          exact⟨(g-1,r+v1),⟨hI',hr2⟩,by dsimp only;omega,SlotsOk.le ⟨.inl rfl, .inl rfl, .inl rfl, .inl rfl, .inl rfl, .inl rfl, .inl rfl, .inl (congrArg (fun k=>PV.g (.int .u64 k)) e1), .inl (congrArg (fun k=>PV.g (.int .u64 k)) e2),trivial⟩,HLe.of_eq rfl⟩
      · have hG2:=hI.done (by omega) (by rw[hmul,hadd]at h;have:=of_decide_eq_false h;omega)
        have hGe:g=Q1:=by rw[←hG2,←hQ1,←p6]
        clear h
        (try refine uD ?_)
        exact⟨SlotsOk.le ⟨.inl rfl, .inl rfl, .inl rfl, .inl rfl, .inl rfl, .inl rfl, .inl rfl, .inl (congrArg (fun k:Nat=>PV.g (.int .u64 k)) hGe),trivial⟩,HLe.of_eq rfl⟩
  · (repeat first|refine uF ?_|((first|apply oR rfl rfl|(apply dF rfl rfl rfl;intro _)|(apply dP rfl rfl rfl;intro _)|(apply dL rfl rfl rfl;intro _)|apply dC rfl rfl rfl rfl);(focus(first|exact mO));try exact kQ)|refine xU [22] rfl ?_)
    refine PW_weak (env':=slots [(2, .g (wG y)),(8, .g (.int .u64 0)),(9, .g (wG v1)),(10, .g (wG v2)),(11, .g (wG hi)),(13, .g (wG u1)),(14, .g (wG u0)),(15, .g (wG Q1)),(17, .g (wG R1))]) (H':=⟨[],[],[]⟩) (SlotsOk.le ⟨.inl rfl, .inl rfl, .inl rfl, .inl rfl, .inl rfl, .inl rfl, .inl rfl, .inl rfl, .inl (congrArg (fun k=>PV.g (.int .u64 k)) r1),trivial⟩) (HLe.of_eq rfl) ?_
    (repeat first|refine uF ?_|((first|apply oR rfl rfl|(apply dF rfl rfl rfl;intro _)|(apply dP rfl rfl rfl;intro _)|(apply dL rfl rfl rfl;intro _)|apply dC rfl rfl rfl rfl);(focus(first|exact wquo rfl rfl rfl hv1z (by omega)|exact mO));try exact kQ)|refine xU [24] rfl ?_)
    refine PW_cut (slots [(2, .g (wG y)),(8, .g (.int .u64 0)),(9, .g (wG v1)),(10, .g (wG v2)),(11, .g (wG hi)),(13, .g (wG u1)),(14, .g (wG u0)),(15, .g (wG Q1)),(17, .g (wG R1)),(18, .g (wG Q0))]) ⟨[],[],[]⟩ ?_ ?_
    · (try refine uD ?_)
      refine PW_loop (S:=Nat×Nat) (fun s=>slots [(2, .g (wG y)),(8, .g (.int .u64 0)),(9, .g (wG v1)),(10, .g (wG v2)),(11, .g (wG hi)),(13, .g (wG u1)),(14, .g (wG u0)),(15, .g (wG Q1)),(17, .g (wG R1)),(18, .g (wG s.1)),(16, .g (wG s.2))]) (fun _=>⟨[],[],[]⟩) (fun s=>HInv R1 u0 v1 v2 s.1 s.2∧s.2<HB) (fun s=>s.1) (R1/v1,R1%v1) ⟨HInv.start hH2 p1 p2 p3 p5,Nat.lt_trans (Nat.mod_lt _ (by omega)) p2⟩
        (SlotsOk.le ⟨.inl rfl, .inl rfl, .inl rfl, .inl rfl, .inl rfl, .inl rfl, .inl rfl, .inl rfl, .inl rfl, .inl rfl, .inl (congrArg (fun k=>PV.g (.int .u64 k)) (mod1 R1 (by omega))),trivial⟩) (HLe.of_eq rfl) (fun s hs=> ?_)
      obtain⟨g,r⟩:=s
      obtain⟨hI,hrw⟩:=hs
      dsimp only at hI hrw
      have hgb:=hI.b
      have hmul:IntKind.u64.wrap ((g:Int) *(v2:Int))=((g *v2:Nat):Int):=by
        refine u64_wrap (by rw[Int.natCast_mul]) ?_
        have m1:g *v2≤(HB+1) *(HB-1):=Nat.mul_le_mul hgb (by omega)
        have m2:(HB+1) *(HB-1)<WB:=by decide
        omega
      have hadd:IntKind.u64.wrap (IntKind.u64.wrap (4294967296 *(r:Int))+(u0:Int))=((r *HB+u0:Nat):Int):=by
        rw[show IntKind.u64.wrap (4294967296 *(r:Int))=((r *HB:Nat):Int)from u64_wrap (by unfold HB;omega) (by unfold HB at *;unfold WB;omega)]
        exact u64_wrap (by omega) (by unfold HB at *;unfold WB;omega)
      (try refine uD ?_)
      refine sQ (fun h=> ?_) fun h=> ?_
      · have hover:HB≤g∨r *HB+u0<g *v2:= .inl (by have:=of_decide_eq_true h;unfold HB;omega)
        obtain⟨hg1,hI'⟩:=hI.over hH2 p5 hover
        have e1:IntKind.u64.wrap ((g:Int)-1)=((g-1:Nat):Int):=u64_wrap (by omega) (by have:=hI.b;unfold HB at this;unfold WB;omega)
        have e2:IntKind.u64.wrap ((r:Int)+(v1:Int))=((r+v1:Nat):Int):=u64_wrap (by omega) (by unfold HB at *;unfold WB;omega)
        clear h
        (try refine uD ?_)
        refine sQ (fun h=> ?_) fun h=> ?_
        · have hr2:HB≤r+v1:=by rw[e2]at h;have:=of_decide_eq_true h;unfold HB;omega
          have hG2:=hI'.done (by omega) (by
            have hb:=hI.b
            have m1:(g-1) *v2≤HB *(HB-1):=Nat.mul_le_mul (by omega) (by omega)
            have m2:HB *HB≤(r+v1) *HB:=Nat.mul_le_mul_right _ hr2
            have m3:HB *(HB-1)≤HB *HB:=by decide
            omega)
          have hGe:g-1=Q0:=by rw[←hG2,←hQ0,←p6]
          clear h
          (try refine uD ?_)
          exact⟨SlotsOk.le ⟨.inl rfl, .inl rfl, .inl rfl, .inl rfl, .inl rfl, .inl rfl, .inl rfl, .inl rfl, .inl rfl, .inl (congrArg (fun k=>PV.g (.int .u64 k)) (by rw[e1,hGe])),trivial⟩,HLe.of_eq rfl⟩
        · have hr2:r+v1<HB:=by rw[e2]at h;have:=of_decide_eq_false h;unfold HB;omega
          clear h
          (try refine uD ?_)
          exact⟨(g-1,r+v1),⟨hI',hr2⟩,by dsimp only;omega,SlotsOk.le ⟨.inl rfl, .inl rfl, .inl rfl, .inl rfl, .inl rfl, .inl rfl, .inl rfl, .inl rfl, .inl rfl, .inl (congrArg (fun k=>PV.g (.int .u64 k)) e1), .inl (congrArg (fun k=>PV.g (.int .u64 k)) e2),trivial⟩,HLe.of_eq rfl⟩
      · have hgl:g<HB:=by have:=of_decide_eq_false h;unfold HB;omega
        clear h
        (try refine uD ?_)
        refine sQ (fun h=> ?_) fun h=> ?_
        · have hover:HB≤g∨r *HB+u0<g *v2:= .inr (by rw[hmul,hadd]at h;have:=of_decide_eq_true h;omega)
          obtain⟨hg1,hI'⟩:=hI.over hH2 p5 hover
          have e1:IntKind.u64.wrap ((g:Int)-1)=((g-1:Nat):Int):=u64_wrap (by omega) (by have:=hI.b;unfold HB at this;unfold WB;omega)
          have e2:IntKind.u64.wrap ((r:Int)+(v1:Int))=((r+v1:Nat):Int):=u64_wrap (by omega) (by unfold HB at *;unfold WB;omega)
          clear h
          (try refine uD ?_)
          refine sQ (fun h=> ?_) fun h=> ?_
          · have hr2:HB≤r+v1:=by rw[e2]at h;have:=of_decide_eq_true h;unfold HB;omega
            have hG2:=hI'.done (by omega) (by
              have hb:=hI.b
              have m1:(g-1) *v2≤HB *(HB-1):=Nat.mul_le_mul (by omega) (by omega)
              have m2:HB *HB≤(r+v1) *HB:=Nat.mul_le_mul_right _ hr2
              have m3:HB *(HB-1)≤HB *HB:=by decide
              omega)
            have hGe:g-1=Q0:=by rw[←hG2,←hQ0,←p6]
            clear h
            (try refine uD ?_)
            exact⟨SlotsOk.le ⟨.inl rfl, .inl rfl, .inl rfl, .inl rfl, .inl rfl, .inl rfl, .inl rfl, .inl rfl, .inl rfl, .inl (congrArg (fun k=>PV.g (.int .u64 k)) (by rw[e1,hGe])),trivial⟩,HLe.of_eq rfl⟩
          · have hr2:r+v1<HB:=by rw[e2]at h;have:=of_decide_eq_false h;unfold HB;omega
            clear h
            (try refine uD ?_)
            exact⟨(g-1,r+v1),⟨hI',hr2⟩,by dsimp only;omega,SlotsOk.le ⟨.inl rfl, .inl rfl, .inl rfl, .inl rfl, .inl rfl, .inl rfl, .inl rfl, .inl rfl, .inl rfl, .inl (congrArg (fun k=>PV.g (.int .u64 k)) e1), .inl (congrArg (fun k=>PV.g (.int .u64 k)) e2),trivial⟩,HLe.of_eq rfl⟩
        · have hG2:=hI.done (by omega) (by rw[hmul,hadd]at h;have:=of_decide_eq_false h;omega)
          have hGe:g=Q0:=by rw[←hG2,←hQ0,←p6]
          clear h
          (try refine uD ?_)
          exact⟨SlotsOk.le ⟨.inl rfl, .inl rfl, .inl rfl, .inl rfl, .inl rfl, .inl rfl, .inl rfl, .inl rfl, .inl rfl, .inl (congrArg (fun k:Nat=>PV.g (.int .u64 k)) hGe),trivial⟩,HLe.of_eq rfl⟩
    · (repeat first|refine uE ?_|((first|apply oR rfl rfl|(apply dF rfl rfl rfl;intro _)|(apply dP rfl rfl rfl;intro _)|(apply dL rfl rfl rfl;intro _)|apply dC rfl rfl rfl rfl);(focus(first|exact PO_shr rfl rfl rfl (by decide)|exact mO));try exact kQ))
      exact Ret2 (vC vT (vC vT vN)) rfl (congrArg (GV.int .u64) hfinq) (congrArg (GV.int .u64) (by rw[r2];exact shr_nil))
theorem div64_up{hi lo y:Nat}(hy:WB≤2 *y)(hyw:y<WB)(hhi:hi<y)(h1:hi≠0)(hlo:lo<WB):PC Tryz.prog 244 [.g (wG hi), .g (wG lo), .g (wG y)] ⟨[],[],[]⟩ (.tuple [.g (wG ((hi *WB+lo)/y)), .g (wG ((hi *WB+lo)%y))]) ⟨[],[],[]⟩:=by
 obtain⟨p1,p2,p3,p4,p5,p6,p7⟩:=up_parts hy hyw hhi hlo
 have hyp:0<y:=Nat.lt_of_le_of_lt (Nat.zero_le _) hhi
 have hsy:=shr_raw (n:=y) (s:=32) (by decide)
 have hsl:=shr_raw (n:=lo) (s:=32) (by decide)
 obtain⟨t1,t2⟩:=two_digits (hi:=hi) (u1:=lo/HB) (u0:=lo%HB) hyp
 rw[split_lo hi lo,←t1,←t2]
 have hR:=Nat.mod_lt (hi *HB+lo/HB) hyp
 exact div64_walk hy hyw hhi h1 hlo (Nat.lt_trans hhi hyw) p1 p2 p3 p4 p5 p6 hsy (mask_raw hyw) hsl (mask_raw hlo) rfl rfl (Nat.div_add_mod' _ _).symm (Nat.div_add_mod' _ _).symm hR (Nat.mod_lt _ hyp) (digit_ltH hhi p4) (digit_ltH hR p5)
end Go.Proofs.YtdoenpeadkoklaaGreatFmtBesafter
namespace Go.Proofs.YtdoenpeadkoklaaGreatFmtBesafter
open Go Go.Pure
attribute [local irreducible] PW POps POpsD PO PC Cond
theorem div64_any{hi lo y:Nat}(hy:WB≤2 *y)(hyw:y<WB)(hhi:hi<y)(hlo:lo<WB):PC Tryz.prog 244 [.g (wG hi), .g (wG lo), .g (wG y)] ⟨[],[],[]⟩ (.tuple [.g (wG ((hi *WB+lo)/y)), .g (wG ((hi *WB+lo)%y))]) ⟨[],[],[]⟩:=by
 by_cases h1:hi=0
 ·subst h1
  rw[Nat.zero_mul,Nat.zero_add]
  exact div64_low (Nat.ne_of_gt hhi) hlo
 ·exact div64_up hy hyw hhi h1 hlo
theorem bdiv_up{hi lo y:Nat}(hy:WB≤2 *y)(hyw:y<WB)(hhi:hi<y)(hlo:lo<WB):PC Tryz.prog 216 [.g (wG hi), .g (wG lo), .g (wG y)] ⟨[],[],[]⟩ (.tuple [.g (wG ((hi *WB+lo)/y)), .g (wG ((hi *WB+lo)%y))]) ⟨[],[],[]⟩:=by
 have h:=div64_any hy hyw hhi hlo
 obtain⟨q,hq⟩: ∃q,q=(hi *WB+lo)/y:=⟨_,rfl⟩
 obtain⟨r,hr⟩: ∃r,r=(hi *WB+lo)%y:=⟨_,rfl⟩
 rw[←hq,←hr]at h⊢
 refine eN Tryz.func216 ?_
 (repeat first|refine uA ?_|(apply oR rfl rfl;focus(first|exact cqP h|exact mO)))
 exact Ret2 (vC vT (vC vT vN)) rfl rfl rfl
theorem bdiv_low{lo y:Nat}(h0:y≠0)(hlo:lo<WB):PC Tryz.prog 216 [.g (wG 0), .g (wG lo), .g (wG y)] ⟨[],[],[]⟩ (.tuple [.g (wG (lo/y)), .g (wG (lo%y))]) ⟨[],[],[]⟩:=by
 have h:=div64_low h0 hlo
 obtain⟨q,hq⟩: ∃q,q=lo/y:=⟨_,rfl⟩
 obtain⟨r,hr⟩: ∃r,r=lo%y:=⟨_,rfl⟩
 rw[←hq,←hr]at h⊢
 refine eN Tryz.func216 ?_
 (repeat first|refine uA ?_|(apply oR rfl rfl;focus(first|exact cqP h|exact mO)))
 exact Ret2 (vC vT (vC vT vN)) rfl rfl rfl
theorem recip_pc{y:Nat}(h0:y≠0)(hy:y<WB):PC Tryz.prog 217 [.g (wG y)] ⟨[],[],[]⟩ (.g (wG (recW y))) ⟨[],[],[]⟩:=by
 obtain⟨u1,u2,u3,u4⟩:=upW_ok h0 hy
 obtain⟨b1,b2,_,_⟩:=bitLen_ok h0 hy
 obtain⟨r1,r2⟩:=recW_div h0 hy
 have hnl:=nlz_pc hy b2
 rw[show 64-Lib.bitLen y=lz y from rfl]at hnl
 have hsh:=shl_raw (n:=y) (s:=lz y) (by omega)
 rw[show y *2^lz y%WB=upW y from Nat.mod_eq_of_lt u2]at hsh
 have hx:=not_raw u2
 have hd:=bdiv_up (hi:=WB-1-upW y) (lo:=WB-1) (y:=upW y) u1 u2 r1 (by decide)
 rw[r2]at hd
 obtain⟨q,hq⟩: ∃q,q=recW y:=⟨_,rfl⟩
 obtain⟨U,hU⟩: ∃U,U=upW y:=⟨_,rfl⟩
 obtain⟨R,hR⟩: ∃R,R=((WB-1-upW y) *WB+(WB-1))%upW y:=⟨_,rfl⟩
 rw[←hq,←hR]at hd
 rw[←hU]at hd hx hsh
 rw[←hq]
 obtain⟨X,hX⟩: ∃X,X=WB-1-U:=⟨_,rfl⟩
 rw[←hX]at hd hx
 have hd':PC Tryz.prog 216 [.g (.int .u64 (X:Int)), .g (.int .u64 18446744073709551615), .g (wG U)] ⟨[],[],[]⟩ (.tuple [.g (wG q), .g (wG R)]) ⟨[],[],[]⟩:=hd
 refine eN Tryz.func217 ?_
 (repeat first|refine uC ?_|(apply oR rfl rfl;focus(first|exact cqP hnl|exact PO_as (PO_shl rfl rfl rfl (Int.natCast_nonneg _)) (congrArg (fun k=>PV.g (.int .u64 k)) hsh)|exact PO_unxor rfl rfl|exact mO))|refine xU [3] rfl ?_)
 refine PW_weak (env':=slots [(3, .g (wG U)),(4, .g (.int .u64 (X:Int)))]) (H':=⟨[],[],[]⟩) (SlotsOk.le ⟨.inl rfl, .inl (congrArg (fun k=>PV.g (.int .u64 k)) hx),trivial⟩) (HLe.of_eq rfl) ?_
 (repeat first|refine uA ?_|(apply oR rfl rfl;focus(first|exact cqP hd'|exact mO)))
 refine rT ?_
 rfl
theorem divWVW_pc{g cap y:Nat}{ws xs:List Nat}(h0:y≠0)(hy:y<WB)(hx:okW xs)(h1:1≤(wsG xs).length)(hn:(wsG xs).length≤ws.length)(hm:(wsG xs).length≤100000):PC Tryz.prog 186 [.vw 0 g 0 (wsG xs).length cap, .g (wG 0), .g (.sl (wsG xs)), .g (wG y)] ⟨[],[],[AR g ws]⟩ (.g (wG (val xs%y))) ⟨[],[],[AR g (putL ws 0 (padD (wsG xs).length (val xs/y)))]⟩:=by
 have hl:=wsG_length xs
 have hpos:0<y:=Nat.pos_of_ne_zero h0
 rw[show putL ws 0 (padD (wsG xs).length (val xs/y))=quB y ws xs 0 by rw[quB_done,hl]]
 by_cases hone:(wsG xs).length=1
 ·obtain⟨x,rfl⟩: ∃x,xs=[x]:=by
   rw[hl]at hone
   match xs,hone with
   |[x],_=>exact⟨x,rfl⟩
  have hxw:x<WB:=hx x (by simp)
  have hd:=bdiv_low h0 hxw
  have hv:val [x]=x:=by simp[val]
  have hst:=quB_step (ws:=ws) (l:=[x]) (k:=0) (x:=x) hpos hxw rfl (by rw[←hl];exact hn)
  rw[hv]
  have hz:val (([x]:List Nat).drop (0+1))%y=0:=by simp[val]
  have hst0:=quB_start y (ws:=ws) (l:=[x]) (by rw[←hl];exact hn)
  rw[hz,Nat.mul_zero,Nat.add_zero]at hst
  change (quB y ws [x] ([x]:List Nat).length).set 0 _=_ at hst
  rw[hst0]at hst
  simp only[Nat.add_zero]at hst
  have hg:(wsG ws)[0+0]? =some (wG (ws[0]'(by omega))):=wsG_get (List.getElem?_eq_getElem _)
  obtain⟨z,hz2⟩: ∃z,z=ws[0]'(by omega):=⟨_,rfl⟩
  rw[←hz2]at hg
  obtain⟨q,hq⟩: ∃q,q=x/y:=⟨_,rfl⟩
  obtain⟨r,hr⟩: ∃r,r=x%y:=⟨_,rfl⟩
  rw[←hq,←hr]at hd
  rw[←hq]at hst
  rw[←hr,←hst]
  refine eN Tryz.func186 ?_
  (repeat first|refine uC ?_|(apply oR rfl rfl;focus(first|exact iA (g:=wG x) rfl (EL rfl) (SZ rfl) rfl rfl (by decide) rfl rfl|exact cqP hd|exact PO_vindex 0 rfl (EL rfl) (SZ rfl) rfl rfl rfl (show 0<1 by decide)|exact PO_store_mref rfl (SZ rfl) rfl rfl rfl rfl (by decide) rfl hg (Nat.le_refl _)|exact mO))|refine xU [5] rfl ?_)
  refine PW_weak (env':=slots [(10, .g (wG r))]) (H':=⟨[],[],[AR g (ws.set 0 q)]⟩) (SlotsOk.le ⟨.inl rfl,trivial⟩) (HLe.of_eq (congrArg (fun l=>(⟨[],[],[MO.arr g WT l]⟩:PH)) (show(wsG ws).set (0+0) (wG q)=wsG (ws.set 0 q)from wsG_set))) ?_
  (try refine uN ?_)
  refine rB ?_ ?_ ?_
  all_goals rfl
 ·have hr:=recip_pc h0 hy
  have hkill:(((wsG xs).length:Int)==1)=false:=beq_eq_false_iff_ne.2 (by omega)
  have hsub:IntKind.i64.wrap (((wsG xs).length:Int)-1)=((xs.length:Nat):Int)-1:=by rw[w64 (by omega)];omega
  refine eN Tryz.func186 ?_
  (try refine uN ?_)
  refine sQ (fun h=> ?_) fun h=> ?_
  ·exfalso;rw[hkill]at h;cases h
  clear h
  (repeat first|refine uA ?_|(apply oR rfl rfl;focus(first|exact cqP hr|exact PO_vlen rfl (EL rfl) rfl|exact mO)))
  refine PW_loop (S:=Nat) (fun k=>slots [(0, .vw 0 g 0 (wsG xs).length cap),(2, .g (.sl (wsG xs))),(3, .g (wG y)),(8, .g (wG (val (xs.drop k)%y))),(11, .g (wG (recW y))),(12, .g (.int .i64 ((k:Int)-1)))]) (fun k=>⟨[],[],[AR g (quB y ws xs k)]⟩) (fun k=>k≤xs.length) (fun k=>k) xs.length (Nat.le_refl _)
   (SlotsOk.le ⟨.inl rfl, .inl rfl, .inl rfl, .inl (congrArg (fun z=>PV.g (wG z)) (show 0=val (xs.drop xs.length)%y by simp[val])), .inl rfl, .inl (congrArg (fun z=>PV.g (.int .i64 z)) hsub),trivial⟩) (HLe.of_eq (by rw[quB_start y (by omega)])) (fun k hk=> ?_)
  cases k with
  |zero=>
   (try refine uN ?_)
   refine rB ?_ ?_ ?_
   all_goals rfl
  |succ k=>
   have hxk:xs[k]? =some (xs[k]'(by omega)):=List.getElem?_eq_getElem (by omega)
   obtain⟨x,hx1⟩: ∃x,x=xs[k]'(by omega):=⟨_,rfl⟩
   rw[←hx1]at hxk
   have hxw:=hx.at hxk
   have hgx:(wsG xs)[(((k+1:Nat):Int)-1).toNat]? =some (wG x):=by rw[show(((k+1:Nat):Int)-1).toNat=k by omega];exact wsG_get hxk
   have hrl:=Nat.mod_lt (val (xs.drop (k+1))) hpos
   have hst:=rest_stepB hpos hxk
   have hqs:=quB_step (ws:=ws) hpos hxw hxk (by omega)
   have hql:=quB_length (D:=y) (ws:=ws) (l:=xs) hk (by omega)
   have hgz:(wsG (quB y ws xs (k+1)))[0+k]? =some (wG ((quB y ws xs (k+1))[k]'(by omega))):=wsG_get (by rw[Nat.zero_add];exact List.getElem?_eq_getElem _)
   obtain⟨z,hz2⟩: ∃z,z=(quB y ws xs (k+1))[k]'(by omega):=⟨_,rfl⟩
   rw[←hz2]at hgz
   obtain⟨R,hR⟩: ∃R,R=val (xs.drop (k+1))%y:=⟨_,rfl⟩
   rw[←hR]at hrl hst hqs⊢
   have hd:=divWW_pc (x1:=R) (x0:=x) h0 hy hrl hxw
   rw[show R *WB+x=x+WB *R by rw[Nat.mul_comm,Nat.add_comm]]at hd
   rw[←hst]at hd
   obtain⟨q,hq⟩: ∃q,q=(x+WB *R)/y:=⟨_,rfl⟩
   rw[←hq]at hd hqs
   obtain⟨R2,hR2⟩: ∃R2,R2=val (xs.drop k)%y:=⟨_,rfl⟩
   rw[←hR2]at hd
   (try refine uN ?_)
   refine sQ (fun h=> ?_) fun h=> ?_
   ·clear h
    (repeat first|refine uA ?_|(apply oR rfl rfl;focus(first|exact iA (g:=wG x) rfl (EL rfl) (SZ rfl) rfl rfl (by omega) hgx rfl|exact cqP hd|exact PO_vindex k rfl (EL rfl) (SZ rfl) rfl rfl (show(((k+1:Nat):Int)-1)=(k:Int) by omega) (by omega)|exact PO_store_mref rfl (SZ rfl) rfl rfl rfl rfl (by decide) rfl hgz (Nat.le_refl _)|exact mO)))
    exact⟨k,by omega,by omega,SlotsOk.le ⟨.inl rfl, .inl rfl, .inl rfl, .inl (congrArg (fun z=>PV.g (wG z)) hR2), .inl rfl, .inl (congrArg (fun z=>PV.g (.int .i64 z)) (by rw[w64 (by omega)];omega)),trivial⟩,
     HLe.of_eq (congrArg (fun l=>(⟨[],[],[MO.arr g WT l]⟩:PH)) (show(wsG (quB y ws xs (k+1))).set (0+k) (wG q)=wsG (quB y ws xs k)from by
      rw[Nat.zero_add,←hqs]
      exact wsG_set))⟩
   ·exfalso;have:=of_decide_eq_false h;omega
theorem rok_new(n:Nat)(h1:1≤n)(hm:n≤900):ROk (List.replicate (capN n) 0) (capN n):=by
 refine⟨okW_rep _,by rw[List.length_replicate];exact Nat.le_refl _, ?_, ?_⟩
 ·unfold capN;split<;>omega
 ·unfold capN;split<;>omega
theorem divW_one{xs:List Nat}(h1:1≤xs.length)(hm:xs.length≤1000000):PC Tryz.prog 153 [.nils, .g (.sl (wsG xs)), .g (wG 1)] ⟨[],[],[]⟩ (.tuple [.vw 0 0 0 xs.length (capN xs.length), .g (wG 0)]) ⟨[],[],[AR 0 (xs++List.replicate (capN xs.length-xs.length) 0)]⟩:=by
 have hs:=set_pc h1 hm
 refine eN Tryz.func153 ?_
 (repeat first|refine uA ?_|(apply oR rfl rfl;focus(first|exact cd [true] rfl rfl (EN rfl) (hs) rfl rfl rfl rfl rfl rfl rfl rfl rfl rfl rfl|exact mO)))
 refine rB ?_ ?_ ?_
 all_goals rfl
theorem divW_two{X y:Nat}(hX:X≠0)(h0:y≠0)(hy1:y≠1)(hy:y<WB)(hm:(wsG (dig X)).length≤900):PC Tryz.prog 153 [.nils, .g (.sl (wsG (dig X))), .g (wG y)] ⟨[],[],[]⟩ (.tuple [.vw 0 0 0 (dig (X/y)).length (capN (wsG (dig X)).length), .g (wG (X%y))]) ⟨[],[],[AR 0 (putL (List.replicate (capN (wsG (dig X)).length) 0) 0 (padD (wsG (dig X)).length (X/y)))]⟩:=by
 have h1:=dig_len_pos hX
 have hl:=wsG_length (dig X)
 have hmk:=make_nil (n:=(wsG (dig X)).length) h1 (by omega)
 have hcap:=capN_le (wsG (dig X)).length
 have hd:=divWVW_pc (g:=0) (cap:=capN (wsG (dig X)).length) (y:=y) (ws:=List.replicate (capN (wsG (dig X)).length) 0) (xs:=dig X) h0 hy (okW_dig X) h1 (by rw[List.length_replicate];exact hcap) (by omega)
 rw[val_dig]at hd
 have hXl:X<WB^(wsG (dig X)).length:=by have:=val_lt (okW_dig X);rwa[val_dig,←hl]at this
 have hql:X/y<WB^(wsG (dig X)).length:=Nat.lt_of_le_of_lt (Nat.div_le_self _ _) hXl
 have hpl:=padD_length (wsG (dig X)).length (X/y)
 have hn:=norm_pc (g:=0) (o:=0) (n:=(wsG (dig X)).length) (cap:=capN (wsG (dig X)).length) (ws:=putL (List.replicate (capN (wsG (dig X)).length) 0) 0 (padD (wsG (dig X)).length (X/y))) (l:=padD (wsG (dig X)).length (X/y)) (part0 hpl) (by rw[putL_length (by rw[List.length_replicate];omega),List.length_replicate];omega) hcap (by unfold maxLen;omega)
 rw[nlen_padD hql]at hn
 obtain⟨N,hN⟩: ∃N,N=(dig (X/y)).length:=⟨_,rfl⟩
 obtain⟨P,hP⟩: ∃P,P=putL (List.replicate (capN (wsG (dig X)).length) 0) 0 (padD (wsG (dig X)).length (X/y)):=⟨_,rfl⟩
 obtain⟨R,hR⟩: ∃R,R=X%y:=⟨_,rfl⟩
 rw[←hP]at hd hn⊢
 rw[←hR]at hd⊢
 rw[←hN]at hn⊢
 clear hP hR hN hql hXl
 obtain⟨C,hC⟩: ∃C,C=capN (wsG (dig X)).length:=⟨_,rfl⟩
 rw[←hC]at hmk hd hn⊢
 generalize dig X=xs at *
 have k0:(((y:Nat):Int)==0)=false:=beq_eq_false_iff_ne.2 (by omega)
 have k1:(((y:Nat):Int)==1)=false:=beq_eq_false_iff_ne.2 (by omega)
 have k2:(((wsG xs).length:Int)==0)=false:=beq_eq_false_iff_ne.2 (by omega)
 refine eN Tryz.func153 ?_
 (try refine uN ?_)
 refine sQ (fun h=> ?_) fun h=> ?_
 ·exfalso;rw[k0]at h;cases h
 clear h
 (try refine uN ?_)
 refine sQ (fun h=> ?_) fun h=> ?_
 ·exfalso;rw[k1]at h;cases h
 clear h
 (try refine uN ?_)
 refine sQ (fun h=> ?_) fun h=> ?_
 ·exfalso;rw[k2]at h;cases h
 clear h
 (repeat first|refine uA ?_|(apply oR rfl rfl;focus(first|exact cd [true] rfl rfl (EN rfl) (hmk) rfl rfl rfl rfl rfl rfl rfl rfl rfl rfl rfl|exact cd [] rfl rfl (EN rfl) (hd) rfl rfl rfl rfl rfl rfl rfl rfl rfl rfl rfl|exact cd [] rfl rfl (EN rfl) (hn) rfl rfl rfl rfl rfl rfl rfl rfl rfl rfl rfl|exact mO)))
 refine rB ?_ ?_ ?_
 all_goals rfl
theorem setWord_0:PC Tryz.prog 154 [.nils, .g (wG 0)] ⟨[],[],[]⟩ .nils ⟨[],[],[]⟩:=by
 refine eN Tryz.func154 ?_
 (repeat first|refine uA ?_|(apply oR rfl rfl;focus(first|exact PO_nslice rfl (EL rfl) (SZ rfl) rfl rfl rfl rfl rfl|exact mO)))
 refine rB ?_ ?_ ?_
 all_goals rfl
theorem fz_take{W:List Nat}{k:Nat}{l:List Nat}(h:W.take k=l):((wsG W).drop 0).take k=wsG l:=by
 rw[List.drop_zero,←h]
 unfold wsG
 rw[List.map_take]
theorem grow_pcx{n:Nat}(h1:1≤n)(hn:n≤1000):PCx Tryz.prog 174 [.nils, .g (.int .i64 n)] ⟨[],[],[]⟩ fun v H'=> ∃C,n≤C∧C≤maxLen∧v= .vw 0 0 0 0 C∧H'=⟨[],[],[AR 0 (List.replicate C 0)]⟩:=by
 have hz:IntKind.i64.wrap ((n:Int)-IntKind.i64.wrap (0-0))=((n:Nat):Int):=by rw[show IntKind.i64.wrap (0-0)=0 from by decide,Int.sub_zero];exact w64 (by omega)
 refine PCx_of_PW Tryz.func174 rfl rfl (rs:=_) rfl (Nat.le_of_ble_eq_true (by kernel_rfl)) ?_
 (repeat first|refine uF ?_|((first|apply oR rfl rfl|(apply dF rfl rfl rfl;intro _)|(apply dP rfl rfl rfl;intro _)|(apply dL rfl rfl rfl;intro _)|apply dC rfl rfl rfl rfl);(focus(first|exact PO_ncap rfl (EL rfl) rfl|exact mO));try exact kQ)|refine xU [4] rfl ?_)
 refine PW_weak (env':=slots [(0, .nils),(1, .g (.int .i64 n))]) (H':=⟨[],[],[]⟩) (SlotsOk.le ⟨.inl rfl, .inl (congrArg (fun k=>PV.g (.int .i64 k)) hz),trivial⟩) (HLe.of_eq rfl) ?_
 (try refine uD ?_)
 refine sQ (fun h=> ?_) fun h=> ?_
 ·clear h
  refine PW_region_x (l1:=[_,_,_,_,_]) (l2:=[_,_,_,_]) rfl (fun t h=>by cases h;decide) ?_
  (repeat first|refine uE ?_|((first|apply oR rfl rfl|(apply dF rfl rfl rfl;intro _)|(apply dP rfl rfl rfl;intro _)|(apply dL rfl rfl rfl;intro _)|apply dC rfl rfl rfl rfl);(focus(first|exact PO_ncap rfl (EL rfl) rfl|exact PO_nslice rfl (EL rfl) (SZ rfl) rfl rfl rfl rfl rfl|exact mO));try exact kQ))
  refine⟨_,POx_growmake rfl (EL rfl) Tryz.underlying3 (SZ rfl) (ZR rfl) rfl (BY rfl) (by decide) rfl rfl h1 (by omega), ?_⟩
  rintro v H' ⟨C,c1,c2,rfl,rfl⟩
  have hr:List.replicate C (constG (.int .u64 0))=wsG (List.replicate C 0):=by unfold wsG;rw[List.map_replicate];rfl
  (repeat first|refine uE ?_|((first|apply oR rfl rfl|(apply dF rfl rfl rfl;intro _)|(apply dP rfl rfl rfl;intro _)|(apply dL rfl rfl rfl;intro _)|apply dC rfl rfl rfl rfl);(focus(first|exact vcut 0 rfl (EL rfl) (SZ rfl) rfl rfl rfl rfl rfl (Nat.zero_le _)|exact mO));try exact kQ))
  refine⟨_,_,⟨C,c1,c2,rfl,rfl⟩, ?_⟩
  rw[AR,←hr]
  refine rB ?_ ?_ ?_
  all_goals rfl
 ·exfalso;have hh:=of_decide_eq_false h;omega
theorem ENgrow:enterB Tryz.prog 174=true:=by kernel_rfl
def stW(C:Nat):List Nat:=(List.replicate C 0).set 0 11259375
theorem stW_length(C:Nat):(stW C).length=C:=by unfold stW;rw[List.length_set,List.length_replicate]
theorem stackNat_pcx{n:Nat}(h1:1≤n)(hn:n≤4):PCx Tryz.prog 148 [.ptr 0 0, .g (.int .i64 n)] ⟨[[.nilp]],[],[]⟩ fun v H'=> ∃C,n≤C∧C≤maxLen∧v= .vw 0 0 0 n C∧H'=⟨[[.nilp]],[],[AR 0 (stW C)]⟩:=by
 have hg:=grow_pcx (n:=n) h1 (by omega)
 refine PCx_of_PW Tryz.func148 rfl rfl (rs:=_) rfl (Nat.le_of_ble_eq_true (by kernel_rfl)) ?_
 (repeat first|refine uE ?_|((first|apply oR rfl rfl|(apply dF rfl rfl rfl;intro _)|(apply dP rfl rfl rfl;intro _)|(apply dL rfl rfl rfl;intro _)|apply dC rfl rfl rfl rfl);(focus(first|exact PO_pnil rfl Tryz.underlying240 rfl rfl|exact mO));try exact kQ))
 refine sQ (fun h=> ?_) fun h=> ?_
 ·clear h
  refine PW_seq ?_
  refine PW_region_x (l1:=[_]) (l2:=[_]) rfl (fun t h=>by cases h;decide) ?_
  (try refine uD ?_)
  refine⟨_,POx_call [true] rfl rfl ENgrow rfl (PCx_at hg [] [] [] rfl rfl rfl rfl rfl), ?_⟩
  rintro v H' ⟨v0,H0,⟨C,c1,c2,rfl,rfl⟩,rfl,rfl⟩
  have hg0:(wsG (List.replicate C 0))[0+0]? =some (wG 0):=wsG_get (by rw[List.getElem?_replicate,if_pos (by omega)])
  (repeat first|refine uF ?_|((first|apply oR rfl rfl|(apply dF rfl rfl rfl;intro _)|(apply dP rfl rfl rfl;intro _)|(apply dL rfl rfl rfl;intro _)|apply dC rfl rfl rfl rfl);(focus(first|exact mO));try exact kQ)|refine xU [5] rfl ?_)
  refine PW_weak (env':=slots [(1, .g (.int .i64 n)),(6, .vw 0 0 0 0 C)]) (H':=⟨[[.nilp]],[],[AR 0 (List.replicate C 0)]⟩) (SlotsOk.le ⟨.inl rfl, .inl rfl,trivial⟩) (HLe.of_eq rfl) ?_
  (repeat first|refine uE ?_|((first|apply oR rfl rfl|(apply dF rfl rfl rfl;intro _)|(apply dP rfl rfl rfl;intro _)|(apply dL rfl rfl rfl;intro _)|apply dC rfl rfl rfl rfl);(focus(first|exact vcut n rfl (EL rfl) (SZ rfl) rfl rfl rfl rfl rfl c1|exact mO));try exact kQ))
  refine sQ (fun h=> ?_) fun h=> ?_
  ·clear h
   (repeat first|refine uE ?_|((first|apply oR rfl rfl|(apply dF rfl rfl rfl;intro _)|(apply dP rfl rfl rfl;intro _)|(apply dL rfl rfl rfl;intro _)|apply dC rfl rfl rfl rfl);(focus(first|exact PO_vindex 0 rfl (EL rfl) (SZ rfl) rfl rfl rfl h1|exact PO_store_mref rfl (SZ rfl) rfl rfl rfl rfl (by decide) rfl hg0 (Nat.le_refl _)|exact mO));try exact kQ))
   refine⟨_,_,⟨C,c1,c2,rfl,rfl⟩, ?_⟩
   have hs:(wsG (List.replicate C 0)).set (0+0) (wG 11259375)=wsG (stW C):=by unfold stW wsG;rw[List.map_set]
   rw[AR,←hs]
   refine rB ?_ ?_ ?_
   all_goals rfl
  ·exfalso;have hh:=of_decide_eq_false h;omega
 ·exfalso;have hh:=of_decide_eq_false h;omega
end Go.Proofs.YtdoenpeadkoklaaGreatFmtBesafter