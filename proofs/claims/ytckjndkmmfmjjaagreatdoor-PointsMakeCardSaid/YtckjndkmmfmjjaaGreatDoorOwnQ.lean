/- Steps to pointsMake_card. -/
import Derived.Test.YtckjndkmmfmjjaaGreatDoorOwnF
import Derived.Shelf.Unicode.ValidAny
import Derived.Test.YtckjndkmmfmjjaaGreatDoorPureE
import Derived.Lib.LaidU8T
import Derived.PinnedBridge
set_option linter.all false
open Go.IntKind (i64 u64 u8)
open Go.Proofs.Tryz
set_option maxRecDepth 100000
set_option maxHeartbeats 32000000
namespace Go.Proofs.YtckjndkmmfmjjaaGreatDoor
open Go Go.Pure Go.Shelf
def Ql:Go.Shelf.Ren:=⟨fun|6=>38|15=>64|14=>63|28=>103|29=>104|20=>95|21=>96|22=>97|23=>98|24=>99|25=>100|26=>101|27=>102|46=>137|47=>138|48=>139|49=>140|50=>141|57=>169|n=>n,fun|22=>25|24=>27|25=>62|3=>3|39=>92|0=>0|53=>137|55=>139|4=>4|46=>130|45=>129|50=>134|5=>5|9=>9|66=>162|70=>165|76=>188|77=>189|n=>n,fun|n=>n⟩
def Ur:Go.Proofs.SlLaysF0.n6 Tryz.prog Ql:={
 mixed:=aj
 f6:=⟨f38.name,by decide,func38.trans (aT some aj)⟩
 f14:=⟨f63.name,by decide,func63.trans (aT some aj)⟩
 f15:=func64.trans (aT some aj)
 f20:=⟨f95.name,by decide,func95.trans (aT some aj)⟩
 f21:=⟨f96.name,by decide,func96.trans (aT some aj)⟩
 f22:=⟨f97.name,by decide,func97.trans (aT some aj)⟩
 f23:=⟨f98.name,by decide,func98.trans (aT some aj)⟩
 f24:=⟨f99.name,by decide,func99.trans (aT some aj)⟩
 f25:=⟨f100.name,by decide,func100.trans (aT some aj)⟩
 f26:=⟨f101.name,by decide,func101.trans (aT some aj)⟩
 f27:=⟨f102.name,by decide,func102.trans (aT some aj)⟩
 f28:=func103.trans (aT some aj)
 f29:=func104.trans (aT some aj)
 f46:=⟨f137.name,by decide,func137.trans (aT some aj)⟩
 f47:=func138.trans (aT some aj)
 f48:=func139.trans (aT some aj)
 f49:=⟨f140.name,by decide,func140.trans (aT some aj)⟩
 f50:=⟨f141.name,by decide,func141.trans (aT some aj)⟩
 f57:=⟨f169.name,by decide,func169.trans (aT some aj)⟩
 t0:=underlying0
 a0:=Tryz.isAgg0
 z0:=Tryz.sizeOf0
 v0:=Tryz.zeroValue0
 t3:=underlying3
 a3:=Tryz.isAgg3
 z3:=Tryz.sizeOf3
 v3:=Tryz.zeroValue3
 t4:=underlying4
 a4:=Tryz.isAgg4
 z4:=Tryz.sizeOf4
 v4:=Tryz.zeroValue4
 t5:=underlying5
 a5:=Tryz.isAgg5
 z5:=Tryz.sizeOf5
 v5:=Tryz.zeroValue5
 t9:=underlying9
 a9:=Tryz.isAgg9
 z9:=Tryz.sizeOf9
 v9:=Tryz.zeroValue9
 t22:=underlying25
 a22:=Tryz.isAgg25
 z22:=Tryz.sizeOf25
 v22:=Tryz.zeroValue25
 t25:=underlying62
 a25:=Tryz.isAgg62
 z25:=Tryz.sizeOf62
 v25:=Tryz.zeroValue62
 t39:=underlying92
 a39:=Tryz.isAgg92
 z39:=Tryz.sizeOf92
 v39:=Tryz.zeroValue92
 t45:=underlying129
 a45:=Tryz.isAgg129
 z45:=Tryz.sizeOf129
 v45:=Tryz.zeroValue129
 t46:=underlying130
 a46:=Tryz.isAgg130
 z46:=Tryz.sizeOf130
 v46:=Tryz.zeroValue130
 t50:=underlying134
 a50:=Tryz.isAgg134
 z50:=Tryz.sizeOf134
 v50:=Tryz.zeroValue134
 t53:=underlying137
 a53:=Tryz.isAgg137
 z53:=Tryz.sizeOf137
 v53:=Tryz.zeroValue137
 t55:=underlying139
 a55:=Tryz.isAgg139
 z55:=Tryz.sizeOf139
 v55:=Tryz.zeroValue139
 t66:=underlying162
 a66:=Tryz.isAgg162
 z66:=Tryz.sizeOf162
 v66:=Tryz.zeroValue162
 t70:=underlying165
 a70:=Tryz.isAgg165
 z70:=Tryz.sizeOf165
 v70:=Tryz.zeroValue165
 t76:=underlying188
 a76:=Tryz.isAgg188
 z76:=Tryz.sizeOf188
 v76:=Tryz.zeroValue188
 t77:=underlying189
 a77:=Tryz.isAgg189
 z77:=Tryz.sizeOf189
 v77:=Tryz.zeroValue189}
def NJ:Go.Shelf.Ren:=⟨fun|196=>82|259=>119|n=>n,fun|9=>9|4=>4|3=>3|5=>5|12=>12|119=>150|0=>0|46=>92|139=>153|138=>152|53=>139|n=>n,fun|3=>0|4=>1|n=>n⟩
def PE:Go.Proofs.Lays.n196 Tryz.prog NJ:={
 mixed:=aj
 f196:=func82.trans (aT some aj)
 f259:=func119.trans (aT some aj)
 t0:=underlying0
 a0:=Tryz.isAgg0
 z0:=Tryz.sizeOf0
 v0:=Tryz.zeroValue0
 t3:=underlying3
 a3:=Tryz.isAgg3
 z3:=Tryz.sizeOf3
 v3:=Tryz.zeroValue3
 t4:=underlying4
 a4:=Tryz.isAgg4
 z4:=Tryz.sizeOf4
 v4:=Tryz.zeroValue4
 t5:=underlying5
 a5:=Tryz.isAgg5
 z5:=Tryz.sizeOf5
 v5:=Tryz.zeroValue5
 t9:=underlying9
 a9:=Tryz.isAgg9
 z9:=Tryz.sizeOf9
 v9:=Tryz.zeroValue9
 t12:=underlying12
 a12:=Tryz.isAgg12
 z12:=Tryz.sizeOf12
 v12:=Tryz.zeroValue12
 t46:=underlying92
 a46:=Tryz.isAgg92
 z46:=Tryz.sizeOf92
 v46:=Tryz.zeroValue92
 t53:=underlying139
 a53:=Tryz.isAgg139
 z53:=Tryz.sizeOf139
 v53:=Tryz.zeroValue139
 t119:=underlying150
 a119:=Tryz.isAgg150
 z119:=Tryz.sizeOf150
 t138:=underlying152
 a138:=Tryz.isAgg152
 z138:=Tryz.sizeOf152
 v138:=Tryz.zeroValue152
 t139:=underlying153
 a139:=Tryz.isAgg153
 z139:=Tryz.sizeOf153
 v139:=Tryz.zeroValue153
 g3:=aj
 g4:=by kernel_rfl}
end Go.Proofs.YtckjndkmmfmjjaaGreatDoor
namespace Go.Proofs.YtckjndkmmfmjjaaGreatDoor
open Go Go.Pure Go.Shelf Go.Lib
attribute [local irreducible] PW jQ ju PO PC lS
variable{β:Nat->Value}{k:Nat}
def ZZ(hk:k<256):Jl (om β) 0 k=some (.int .u8 (firstT k)):=by show((List.range 256).map λc=>Value.int .u8 (firstT c))[k]?=_;simp[hk]
def Z1(hk:k<16):Jl (om β) 1 (2*k)=some (.int .u8 (accLo k)):=by show((List.range 32).map λk=>Value.int .u8 (if k%2=0 then accLo (k/2)else accHi (k/2)))[2*k]?=_;simp[show 2*k<32 by omega]
def Z2(hk:k<16):Jl (om β) 1 (2*k+1)=some (.int .u8 (accHi k)):=by
 show((List.range 32).map λk=>Value.int .u8 (if k%2=0 then accLo (k/2)else accHi (k/2)))[2*k+1]?=_;have h1:(2*k+1)%2=1:=ab
 have h2:(2*k+1)/2=k:=ab
 simp[show 2*k+1<32 by omega,h1,h2]
def tn(t:ByteArray):Nat:=leNat [t.get! 0,t.get! 1,t.get! 2,t.get! 3,t.get! 4,t.get! 5,t.get! 6,t.get! 7]
def yn(t:ByteArray)(h:8<=t.size):ak 119 [ay t] (ar (tn t:Nat)):=
 Zd (gs:=[.str t]) rfl (λc=>.g _ _ (.int _ _)) λc _=>(Any.utf8_word {PE with} t c.w h).mono λe w' ⟨he,q,hq⟩=>⟨he,by subst hq;exact⟨⟨rfl,rfl,rfl,aZ _,λ_ _=>rfl⟩,λ_=>gp _ _⟩⟩
variable{a:Nat}
def GD{b:Nat}(ha:a<18446744073709551616)(hb:b<18446744073709551616):u64.wrap (((BitVec.ofInt u64.bits (a:Int) ||| BitVec.ofInt u64.bits (b:Int)).toNat:Nat):Int)=((a ||| b:Nat):Int):=by rw[iz,dn,dn,dD,dD,bn (show a<2^u64.bits from ha),bn (show b<2^u64.bits from hb)];have:a ||| b<2^64:=gb ha hb;simp only[IntKind.wrap,IntKind.signed,IntKind.bits,dN,dB,en];omega
def HJ(ha:a<18446744073709551616):u64.wrap (((BitVec.ofInt u64.bits (a:Int) &&& BitVec.ofInt u64.bits (9259542123273814144:Int)).toNat:Nat):Int)=((a &&& 9259542123273814144:Nat):Int):=by rw[show(9259542123273814144:Int)=((9259542123273814144:Nat):Int)from rfl,iu,dn,dn,dD,dD,bn (show a<2^u64.bits from ha),bn (show 9259542123273814144<2^u64.bits by decide)];have:a &&& 9259542123273814144<2^64:=Nat.and_lt_two_pow _ af;simp only[IntKind.wrap,IntKind.signed,IntKind.bits,dN,dB,en];omega
def A6{o:Oper}{ρ:Operand->PV}{H:PH}{x lo:Operand}{s:ByteArray}(n:Nat)(ho:o.op=.slice 9 x (some lo) none none)(hx:ρ x= ay s)(hl:ρ lo= aq n)(hn:n<=s.size):PO Tryz.prog o ρ H (ay (s.extract n s.size)) H:=
 Nh (l:=some (.i64,(n:Int))) (h:=none) ho underlying9 hx (by simp[oL,hl]) rfl (br n) (Int.ofNat_le.2 hn) (fK _)
variable{t:ByteArray}
def Dk{i:Nat}(h:i<t.size):t[i]?=some (t.get! i):=by rw[getElem?_pos t i h,Utf8W.get!_of_lt t i h]
def sr(t:ByteArray):tn t<18446744073709551616:=word_lt t
def V5(h:8<=t.size)(hw:tn t &&& 9259542123273814144=0):Asc t 8:=(word_asc t h).1 hw
def Yz(h:16<=t.size)(hw:(tn t ||| tn (t.extract 8 t.size)) &&& 9259542123273814144=0):Asc t 16:=by obtain⟨h1,h2⟩:=(or_mask _ _ _).1 hw;exact asc_add t 8 8 (V5 ab h1) (V5 (by rw[ext_size];omega) h2)
def ahg(h:32<=t.size)(hw:((tn t ||| tn (t.extract 8 t.size)) ||| (tn (t.extract 16 t.size) ||| tn (t.extract 24 t.size))) &&& 9259542123273814144=0):Asc t 32:=by obtain⟨h1,h2⟩:=(or_mask _ _ _).1 hw;obtain⟨h3,h4⟩:=(or_mask _ _ _).1 h2;exact asc_add t 24 8 (asc_add t 16 8 (Yz ab h1) (V5 (by rw[ext_size];omega) h3)) (V5 (by rw[ext_size];omega) h4)
def amp:∀X:Fin 256,(((X.val:Nat):Int)).fdiv (2^min (4:Int).toNat u8.bits)=((X.val/16:Nat):Int):=by decide+kernel
def amq:∀X:Fin 256,i64.wrap (u8.wrap (((BitVec.ofInt u8.bits ((X.val:Nat):Int) &&& BitVec.ofInt u8.bits (7:Int)).toNat:Nat):Int))=((X.val%8:Nat):Int):=by decide+kernel
def V6(s:ByteArray)(hs:s.size<=maxLen):ak 82 [ay s] (ax (validD s.data.toList)):=by
 have ENw:nI Tryz.prog 119=true:=aj
 obtain⟨ANS,afm⟩:∃a,validD s.data.toList=a:=⟨_,rfl⟩;rw[afm];refine' eN func82;(try refine' uD);refine jK (S:=ByteArray) (λt=>[(0,ay t)]) (λ_=>⟨[],[],[]⟩) (λt=>validD t.data.toList=ANS∧t.size<=maxLen) (λt=>t.size) s ⟨afm,hs⟩ (iE.le ⟨.inl rfl,trivial⟩) aJ (λ_=>rfl) (λt ht=>?_);obtain⟨hv,hm⟩:=ht;clear afm hs;(try refine' uD);refine' sQ<;>intro h
 ·have jX:0<t.size:=by have:=aU h;omega
  clear h;obtain⟨b0,Q3⟩:∃b,t.get! 0=b:=⟨_,rfl⟩;have x8:t[(0:Int).toNat]?=some b0:=by rw[<-Q3];exact Dk jX
  have hb:=b0.toNat_lt;(repeat first|refine' uD|(refine' oX;exact nf rfl (ST rfl) rfl rfl af x8;exact kq));refine' sQ<;>intro h
  ·have iI:b0.toNat<128:=by have:=aU h;omega
   clear h;have ha1:validD (t.extract 1 t.size).data.toList=ANS:=(by rw[valid_skip t 1 (asc_one t jX (by rw[Q3];exact iI))];exact hv);have AI:(t.extract 1 t.size).size=t.size-1:=ext_size t 1;(repeat first|refine' wb|(refine' oX;exact A6 1 rfl rfl rfl ab;exact kq)|refine xU [5] rfl ?_);generalize t.extract 1 t.size=t1 at *
   clear x8;(try refine' uD);refine' sQ<;>intro h
   ·have h8:8<t1.size:=(by have:=aU h;omega);clear h;have hw:=yn t1 ab;have tN:=HJ (sr t1);(repeat first|refine' uD|(refine' oX;exact cl rfl rfl ENw hw rfl rfl rfl;exact kq));refine' sQ<;>intro h
    ·have hz:tn t1 &&& 9259542123273814144=0:=by
      have h2:=h;rw[tN]at h2;simpa using h2
     clear h tN hw;have YA:validD (t1.extract 8 t1.size).data.toList=ANS:=(by rw[valid_skip t1 8 (V5 ab hz)];exact ha1);have zf:(t1.extract 8 t1.size).size=t1.size-8:=ext_size t1 8;(repeat first|refine' wb|(refine' oX;exact A6 8 rfl rfl rfl ab;exact kq)|refine xU [7] rfl ?_);generalize t1.extract 8 t1.size=t2 at *
     clear ha1 hz;(try refine' uD);refine' sQ<;>intro h
     ·have h16:16<t2.size:=(by have:=aU h;omega);clear h;have yu:=yn t2 ab;have hs3:(t2.extract 8 t2.size).size=t2.size-8:=ext_size t2 8;have KM:=yn (t2.extract 8 t2.size) ab;have tN:=GD (sr t2) (sr (t2.extract 8 t2.size));have xJ:=HJ (gb (n:=64) (sr t2) (sr (t2.extract 8 t2.size)));(repeat first|refine' uD|(refine' oX;(first|exact A6 8 rfl rfl rfl (by omega)|exact cl rfl rfl ENw yu rfl rfl rfl|exact cl rfl rfl ENw KM rfl rfl rfl);exact kq));refine' sQ<;>intro h
      ·have hz:(tn t2 ||| tn (t2.extract 8 t2.size)) &&& 9259542123273814144=0:=by
        have h2:=h;rw[tN,xJ]at h2;simpa using h2
       have ha3:validD (t2.extract 16 t2.size).data.toList=ANS:=(by rw[valid_skip t2 16 (Yz ab hz)];exact YA);have hs4:(t2.extract 16 t2.size).size=t2.size-16:=ext_size t2 16;clear h hz tN xJ yu KM hs3;(repeat first|refine' wb|(refine' oX;exact A6 16 rfl rfl rfl ab;exact kq)|refine xU [9] rfl ?_);generalize t2.extract 16 t2.size=t3 at *
       clear YA;refine jf (S:=ByteArray) (λu=>iL [(0,ay u)]) (λ_=>⟨[],[],[]⟩) (λu=>validD u.data.toList=ANS∧u.size<=t3.size) (λu=>u.size) t3 ⟨ha3,aZ _⟩ (iE.le ⟨.inl rfl,trivial⟩) aJ (λu hu=>?_);obtain⟨UT,hus⟩:=hu;clear ha3;(try refine' uD);refine' sQ<;>intro h
       ·have h32:32<u.size:=(by have:=aU h;omega);clear h;have k8:(u.extract 8 u.size).size=u.size-8:=ext_size u 8;have k16:(u.extract 16 u.size).size=u.size-16:=ext_size u 16;have k24:(u.extract 24 u.size).size=u.size-24:=ext_size u 24;have w0:=yn u ab;have w1:=yn (u.extract 8 u.size) ab;have w2:=yn (u.extract 16 u.size) ab;have w3:=yn (u.extract 24 u.size) ab;have l0:=sr u;have l1:=sr (u.extract 8 u.size);have l2:=sr (u.extract 16 u.size);have l3:=sr (u.extract 24 u.size);have m1:=GD l0 l1;have m2:=GD l2 l3;have l4:=gb (n:=64) l0 l1;have l5:=gb (n:=64) l2 l3;have m3:=GD l4 l5;have m4:=HJ (gb (n:=64) l4 l5);(repeat first|refine' uD|(refine' oX;(first|exact A6 8 rfl rfl rfl (by omega)|exact A6 16 rfl rfl rfl (by omega)|exact A6 24 rfl rfl rfl (by omega)|exact cl rfl rfl ENw w0 rfl rfl rfl|exact cl rfl rfl ENw w1 rfl rfl rfl|exact cl rfl rfl ENw w2 rfl rfl rfl|exact cl rfl rfl ENw w3 rfl rfl rfl);exact kq));refine' sQ<;>intro h
        ·have hz:((tn u ||| tn (u.extract 8 u.size)) ||| (tn (u.extract 16 u.size) ||| tn (u.extract 24 u.size))) &&& 9259542123273814144=0:=by
          have h2:=h;rw[m1,m2,m3,m4]at h2;simpa using h2
         have hv4:validD (u.extract 32 u.size).data.toList=ANS:=(by rw[valid_skip u 32 (ahg ab hz)];exact UT);have k32:(u.extract 32 u.size).size=u.size-32:=ext_size u 32;clear h hz m1 m2 m3 m4 w0 w1 w2 w3;(repeat first|refine' uD|(refine' oX;exact A6 32 rfl rfl rfl ab;exact kq));exact⟨u.extract 32 u.size,⟨hv4,by omega⟩,by omega,iE.le ⟨.inl rfl,trivial⟩,aJ⟩
        clear h;(try refine' uD);exact⟨u,⟨UT,by omega⟩,by omega,iE.le ⟨.inl rfl,trivial⟩,lq.mk [] [] [] rfl⟩
       clear h;(try refine' uD);exact⟨u,⟨UT,by omega⟩,by omega,iE.le ⟨.inl rfl,trivial⟩,lq.mk [] [] [] rfl⟩
      clear h;(try refine' uD);exact⟨t2,⟨YA,by omega⟩,by omega,iE.le ⟨.inl rfl,trivial⟩,lq.mk [] [] [] rfl⟩
     clear h;(try refine' uD);exact⟨t2,⟨YA,by omega⟩,by omega,iE.le ⟨.inl rfl,trivial⟩,lq.mk [] [] [] rfl⟩
    clear h;(try refine' uD);exact⟨t1,⟨ha1,by omega⟩,by omega,iE.le ⟨.inl rfl,trivial⟩,lq.mk [] [] [] rfl⟩
   clear h;(try refine' uD);exact⟨t1,⟨ha1,by omega⟩,by omega,iE.le ⟨.inl rfl,trivial⟩,lq.mk [] [] [] rfl⟩
  ·have sC:128<=b0.toNat:=by have:=aX h;omega
   clear h;obtain⟨X,hX⟩:∃X,firstT b0.toNat=X:=⟨_,rfl⟩;have js:t.data.toList≠[]:=λh=>(by rw[Lib.size_eq,h]at jX;simp at jX);have rf:=validD_lead t.data.toList js (by rw[Lib.getD_get!',Q3];exact sC);rw[Lib.getD_get!',Lib.getD_get!',Lib.getD_get!',Lib.getD_get!',Q3,<-Lib.size_eq,hv,hX]at rf;have afn:X<256:=(by rw[<-hX];rcases firstT_cases b0.toNat with h|h|h|h|h|h|h|h|h<;>omega);have hf:(λβ=>Jl (om β) 0 (0+b0.toNat*1))=λ_=>some (.int .u8 (X:Nat)):=funext λβ=>(by rw[bc,cU,ZZ hb,hX]);have h3:=amq ⟨X,afn⟩;simp only at h3;(repeat first|refine' wb|(refine' oX;(first|exact KH b0.toNat rfl underlying150 (SZ rfl) rfl rfl rfl hb|exact xa rfl (AG rfl) rfl hf);exact kq)|refine xU [12] rfl ?_);have abb:X/16<16:=ab;have E0:∀β,Jl (om β) 1 (0+X/16*2)=some (.int .u8 (accLo (X/16):Nat)):=λβ=>(by rw[bc,bG,Z1 abb]);have Jr:∀β,Jl (om β) 1 (0+X/16*2+1)=some (.int .u8 (accHi (X/16):Nat)):=λβ=>(by rw[bc,bG,Z2 abb]);(repeat first|refine' wb|refine xU [13] rfl ?_);(repeat first|refine' wb|(refine' oX;(first|exact KH (X/16) rfl underlying153 (SZ rfl) rfl rfl rfl abb|exact kg (pP rfl rfl rfl af) (aT au (amp ⟨X,afn⟩))|exact Nr rfl (AG rfl) (SZ rfl) rfl E0 Jr rfl rfl);exact kq)|refine xU [14] rfl ?_);refine ja (env':=iL [(0,ay t),(5,aq ((X%8:Nat):Int)),(6,.ptr 0 0)]) (H':=⟨[[au ((accLo (X/16):Nat):Int),au ((accHi (X/16):Nat):Int)]],[],[]⟩) (iE.le ⟨.inl rfl,.inl (aT aq h3),an⟩) aJ ?_;generalize accLo (X/16)=LO at *
   generalize accHi (X/16)=HI,X%8=SZ at *
   clear hf h3 E0 Jr x8 abb hX afn js hv;obtain⟨b1,ri⟩:∃b,t.get! 1=b:=⟨_,rfl⟩;obtain⟨b2,G2⟩:∃b,t.get! 2=b:=⟨_,rfl⟩;obtain⟨b3,hb3⟩:∃b,t.get! 3=b:=⟨_,rfl⟩;rw[ri,G2,hb3]at rf;have g1:1<t.size->t[(1:Int).toNat]?=some b1:=λh=>(by rw[<-ri];exact Dk h);have g2:2<t.size->t[(2:Int).toNat]?=some b2:=λh=>(by rw[<-G2];exact Dk h);have g3:3<t.size->t[(3:Int).toNat]?=some b3:=λh=>(by rw[<-hb3];exact Dk h);clear Q3 ri G2 hb3;by_cases s2:SZ=2
   ·subst s2;simp only[checkN,Nat.reduceEqDiff,gF,en]at rf;by_cases hC:t.size<2∨b1.toNat<LO∨HI<b1.toNat
    ·rw[aW hC]at rf;subst rf;by_cases q0:t.size<2
     ·(repeat' first|refine' uD|refine' sN<;>intro h|fail);all_goals(first|(refine' rT;rfl)|(exfalso;(try simp only[fX]at *);omega))
     ·(repeat' first|refine' uD|(refine' oX;(first|exact nf rfl (ST rfl) rfl rfl af (g1 ab)|exact A6 2 rfl rfl rfl ab);exact kq)|refine' sN<;>intro h|fail);all_goals(first|(refine' rT;rfl)|(exfalso;(try simp only[fX]at *);omega))
    ·rw[aV hC]at rf;have hk:(t.extract 2 t.size).size=t.size-2:=ext_size t 2;(repeat' first|refine' uD|(refine' oX;(first|exact nf rfl (ST rfl) rfl rfl af (g1 ab)|exact A6 2 rfl rfl rfl ab);exact kq)|refine' sN<;>intro h|fail);all_goals(first|(exfalso;(try simp only[fX]at *);omega)|exact⟨t.extract 2 t.size,⟨by rw[ext_list];exact rf.symm,by omega⟩,by omega,iE.le ⟨.inl rfl,trivial⟩,lq.mk [_] [] [] rfl⟩)
   by_cases s3:SZ=3
   ·subst s3;simp only[checkN,Nat.reduceEqDiff,gF,en]at rf;by_cases hC:t.size<3∨b1.toNat<LO∨HI<b1.toNat∨b2.toNat<128∨191<b2.toNat
    ·rw[aW hC]at rf;subst rf;by_cases q0:t.size<3
     ·(repeat' first|refine' uD|refine' sN<;>intro h|fail);all_goals(first|(refine' rT;rfl)|(exfalso;(try simp only[fX]at *);omega))
     ·(repeat' first|refine' uD|(refine' oX;(first|exact nf rfl (ST rfl) rfl rfl af (g1 ab)|exact nf rfl (ST rfl) rfl rfl af (g2 ab)|exact A6 3 rfl rfl rfl ab);exact kq)|refine' sN<;>intro h|fail);all_goals(first|(refine' rT;rfl)|(exfalso;(try simp only[fX]at *);omega))
    ·rw[aV hC]at rf;have hk:(t.extract 3 t.size).size=t.size-3:=ext_size t 3;(repeat' first|refine' uD|(refine' oX;(first|exact nf rfl (ST rfl) rfl rfl af (g1 ab)|exact nf rfl (ST rfl) rfl rfl af (g2 ab)|exact A6 3 rfl rfl rfl ab);exact kq)|refine' sN<;>intro h|fail);all_goals(first|(exfalso;(try simp only[fX]at *);omega)|exact⟨t.extract 3 t.size,⟨by rw[ext_list];exact rf.symm,by omega⟩,by omega,iE.le ⟨.inl rfl,trivial⟩,lq.mk [_] [] [] rfl⟩)
   by_cases s4:SZ=4
   ·subst s4;simp only[checkN,Nat.reduceEqDiff,gF,en]at rf;by_cases hC:t.size<4∨b1.toNat<LO∨HI<b1.toNat∨b2.toNat<128∨191<b2.toNat∨b3.toNat<128∨191<b3.toNat
    ·rw[aW hC]at rf;subst rf;by_cases q0:t.size<4
     ·(repeat' first|refine' uD|refine' sN<;>intro h|fail);all_goals(first|(refine' rT;rfl)|(exfalso;(try simp only[fX]at *);omega))
     ·(repeat' first|refine' uD|(refine' oX;(first|exact nf rfl (ST rfl) rfl rfl af (g1 ab)|exact nf rfl (ST rfl) rfl rfl af (g2 ab)|exact nf rfl (ST rfl) rfl rfl af (g3 ab)|exact A6 4 rfl rfl rfl ab);exact kq)|refine' sN<;>intro h|fail);all_goals(first|(refine' rT;rfl)|(exfalso;(try simp only[fX]at *);omega))
    ·rw[aV hC]at rf;have hk:(t.extract 4 t.size).size=t.size-4:=ext_size t 4;(repeat' first|refine' uD|(refine' oX;(first|exact nf rfl (ST rfl) rfl rfl af (g1 ab)|exact nf rfl (ST rfl) rfl rfl af (g2 ab)|exact nf rfl (ST rfl) rfl rfl af (g3 ab)|exact A6 4 rfl rfl rfl ab);exact kq)|refine' sN<;>intro h|fail);all_goals(first|(exfalso;(try simp only[fX]at *);omega)|exact⟨t.extract 4 t.size,⟨by rw[ext_list];exact rf.symm,by omega⟩,by omega,iE.le ⟨.inl rfl,trivial⟩,lq.mk [_] [] [] rfl⟩)
   simp only[checkN,s2,s3,s4,en]at rf;subst rf;have e2:decide (((SZ:Nat):Int)=2)=false:=bA ab;(repeat' first|refine' uD|refine' sN<;>intro h|fail);all_goals(first|(refine' rT;rfl)|(exfalso;(try simp only[fX]at *);omega))
 ·have h0:t.size=0:=by have:=aX h;omega
  have hn:t.data.toList=[]:=df (by rw[<-Lib.size_eq];exact h0);rw[hn,validD_nil]at hv;subst hv;(try refine' uD);refine' rT;rfl
end Go.Proofs.YtckjndkmmfmjjaaGreatDoor
namespace Go.Proofs.YtckjndkmmfmjjaaGreatDoor
open Go Go.Pure Go.Shelf Go.Lib
def own:ownKnob Tryz.prog.godebug=none:=aj
def laidOut:laidOutB Tryz.prog=true:=aj
variable{l:List (String×DataW Unit)}{W:World}
def GF{name:String}{g t:Nat}{k:IntKind}{z:Int}(h:laidMet Tryz.prog l W)(hm:(name,DataW.lit (.int k z))∈l)(hg:Tryz.prog.globalNamed name=some g)(ht:(Tryz.prog.globals[g]?).map (·.type)=some t)(hu:Tryz.prog.underlying t=some (.int k)):
  W.cell? ⟨g,0,none⟩=some (.int k z):=by
 obtain⟨g',t',cs,fuel,p,h1,h2,h3,h4⟩:=Lib.laidMet.reads h hm;obtain rfl:=cE (hg.symm.trans h1);obtain rfl:=cE (ht.symm.trans h2);obtain⟨n,e1,e2,_⟩:=DataW.trod_int hu h4;cases e2;rw[World.var?_cell hg h3 0,<-fC,e1];rfl
def one_cell{g:Nat}{v:Value}(h:W.cell? ⟨g,0,none⟩=some v):∀(k:Nat) (u:Value),[v][k]?=some u->W.cell? ⟨g,k,none⟩=some u:=by
 intro k u hu;cases k with
 |zero=>simp at hu;subst hu;exact h|succ k=>simp at hu
def aj5(h1:W.cell? ⟨3,0,none⟩=some (.int .i64 12))(h2:W.cell? ⟨4,0,none⟩=some (.int .i64 80))(h3:W.cell? ⟨5,0,none⟩=some (.int .i64 40))(h4:W.cell? ⟨8,0,none⟩=some (.int .i64 40))
  (h:Lib.Utf8Tabs 0 1 W):(∃β,Xv β∧∀x∈om β,∀(k:Nat) (v:Value),x.2[k]?=some v->W.cell? ⟨x.1,k,none⟩=some v)∧∀w':World,(∀(a:Addr) (v:Value),a.spot=none->W.cell? a=some v->w'.cell? a=some v)->gq w':=by
 refine⟨⟨λ_=>undef,trivial,?_⟩,λ_ _=>trivial⟩;intro x hx;simp only[om,bN,cF,or_false]at hx;rcases hx with rfl|rfl|rfl|rfl|rfl|rfl
 exact one_cell h1;exact one_cell h2;exact one_cell h3;exact one_cell h4;intro k v hv;simp only[bj,bh]at hv;obtain⟨c,hc,rfl⟩:=hv;obtain⟨iI,rfl⟩:=aR.1 hc;simp only[List.length_range]at iI;simpa using h.1 k iI;intro k v hv;simp only[bj,bh]at hv;obtain⟨c,hc,rfl⟩:=hv;obtain⟨iI,rfl⟩:=aR.1 hc;simp only[List.length_range]at iI;have h2:=h.2 (k/2) ab;simp only[eT];by_cases he:k%2=0;rw[aW he,<-h2.1,show 2*(k/2)=k by omega];rw[aV he,<-h2.2,show 2*(k/2)+1=k by omega]
def SE(hL:laidMet Tryz.prog l W)(m1:("math/big.basicSqrThreshold",DataW.lit (.int .i64 12))∈l)(m2:("math/big.karatsubaSqrThreshold",DataW.lit (.int .i64 80))∈l)(m3:("math/big.karatsubaThreshold",DataW.lit (.int .i64 40))∈l)(m4:("math/big.divRecursiveThreshold",DataW.lit (.int .i64 40))∈l)
  (m5:("unicode/utf8.first",Lib.firstData)∈l) (m6:("unicode/utf8.acceptRanges",Lib.acceptData)∈l):(∃β,Xv β∧∀x∈om β,∀(k:Nat) (v:Value),x.2[k]?=some v->W.cell? ⟨x.1,k,none⟩=some v)∧∀w':World,(∀(a:Addr) (v:Value),a.spot=none->W.cell? a=some v->w'.cell? a=some v)->gq w':=
 aj5 (GF (t:=3) hL m1 aj aj underlying3) (GF (t:=3) hL m2 aj aj underlying3) (GF (t:=3) hL m3 aj aj underlying3) (GF (t:=3) hL m4 aj aj underlying3)
  (utf8Tabs_of_readsT (U8Types.of196 PE) ⟨by kernel_rfl,by kernel_rfl,by kernel_rfl,by kernel_rfl,by kernel_rfl,by kernel_rfl,by kernel_rfl⟩ (Lib.laidMet.reads hL m5) (Lib.laidMet.reads hL m6))
def YB{g:GV}(h:GT Tryz.prog 27 g):∃v:iD,g=v.g:=
 Tv (ti:=3) (tj:=2) (tb:=4) (ts:=9) (TD:=24) (LV:=25) underlying3 underlying2 underlying4 underlying9 ⟨_,underlying27,rfl⟩ ⟨_,underlying24,rfl⟩ underlying25 _ g (aZ _) h
end Go.Proofs.YtckjndkmmfmjjaaGreatDoor