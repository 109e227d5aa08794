/- What the program's functions compute, each shown once; and plain laws of it. -/
import Derived.Test.YtdoenpeadkoklaaGreatFmtBesafterOwnF
import Derived.Shelf.Strings.Runes
import Derived.WalkKit
import Derived.BigCall
import Derived.Lib.OthersKept
import Derived.Lib.QuoteLoop
import Derived.Test.YtdoenpeadkoklaaGreatFmtBesafterOwnE
import Derived.Shelf.Bits.Mul64
import Derived.Shelf.Spec.BitsCarry
import Derived.Shelf.Small.Bits
import Derived.Test.YtdoenpeadkoklaaGreatFmtBesafterPureC
set_option maxRecDepth 100000
set_option maxHeartbeats 32000000
namespace Go.Proofs.YtdoenpeadkoklaaGreatFmtBesafter
open Go Go.Pure Go.Shelf Go.RowKit
theorem idxHigh_calls{c:Ctx}(hr:Rel Tryz.prog c ⟨[],[],[]⟩){W:World}(hb:Below c.w.heap.size c.w W){r:Nat}(hv:r<55296∨(57343<r∧r≤1114111)):
  Calls Tryz.prog 53 #[.string ⟨#[34,92,110]⟩, .int .i32 r] W fun e w'=>e= .returned (.int .i64 (escK r))∧Below W.heap.size W w':=by
 obtain⟨r1,_⟩:=hr.grow ⟨hb.os,⟨hb.tape,fun h=>h.elim⟩,hb.output,hb.size,hb.block⟩
 have h:=idxRune_pc hv
 unfold PC at h
 refine(h ⟨c.σ,c.τ,c.μ,c.hid,W⟩ #[.string ⟨#[34,92,110]⟩, .int .i32 r] r1 ⟨rfl,fun i q u hq hu=> ?_⟩).mono ?_
 ·match i with
  |0=>simp at hq hu;subst hq;subst hu;exact .g _ _ (.str _)
  |1=>simp at hq hu;subst hq;subst hu;exact .g _ _ (.int _ _)
  |i+2=>simp at hq
 ·rintro e w' ⟨rv,c',rfl,rfl,h3,h4,h5⟩
  have hσ:c.σ=[]:=List.eq_nil_of_length_eq_zero hr.len
  have hτ:c.τ=[]:=List.map_eq_nil_iff.1 hr.tk
  have hμ:c.μ=[]:=List.eq_nil_of_length_eq_zero hr.mlen
  refine⟨by rw[RV_int h5],⟨h4.os,h4.tape.1,h4.output,h4.size,fun b hlt=>h4.frame b hlt (by rw[hσ];simp) (by rw[hτ];simp) (by rw[hμ];simp)⟩⟩
theorem width_le4(s:ByteArray)(pos:Nat):(Utf8.decode s pos).2≤4:=by
 rw[Lib.decode_at]
 unfold Lib.decodeN
 repeat' split
 all_goals simp
theorem rune_valid(s:ByteArray)(pos:Nat):(Utf8.decode s pos).1<55296∨(57343<(Utf8.decode s pos).1∧(Utf8.decode s pos).1≤1114111):=by
 rw[Lib.decode_at]
 exact Lib.decodeN_valid _ _ _ _ _ (UInt8.toNat_lt _)
theorem idxLow_calls{r:Nat}(h:r<128)(W:World):Calls Tryz.prog 53 #[.string ⟨#[34,92,110]⟩, .int .i32 r] W fun e w'=>e= .returned (.int .i64 (escK r))∧w'=W:=by
 have h1:=Any.strings_IndexRune_ascii layIR ⟨#[34,92,110]⟩ (r:Int) W (by omega) (by omega)
 have h2:=esc_low ⟨r,h⟩
 dsimp only at h2
 rw[show(⟨#[34,92,110]⟩:ByteArray).data.toList=[34,92,110]from rfl,h2]at h1
 exact h1
theorem quoted_calls{c:Ctx}(hr:Rel Tryz.prog c ⟨[],[],[]⟩){s s1:ByteArray}{q:List UInt8×Nat×Nat}(hs1:s.extract 1 s.size=s1)(hq:quotB s1 0 false []=q)(hs:s.size≤10000)(h1:1≤s.size):
  Calls Tryz.prog 32 #[.string s] c.w fun e w'=>e= .returned (.tuple #[.string ⟨q.1.toArray⟩, .int .i64 q.2.1, .int .i64 q.2.2])∧Below c.w.heap.size c.w w':=by
 have hsz:s1.size=s.size-1:=by rw[←hs1,ByteArray.size_extract];omega
 generalize hw:c.w=w
 go_enter Tryz.func32,Tryz.ntmps32
 go_wp2
 go_loopw [6] (fun ev wr=> ∃(pos:Nat) (acc:List UInt8) (esc:Bool),ev= .bool esc∧Lib.IsBuilderF 118 5 w.heap.size w.heap.size (Lib.byteCells acc) wr∧wr.heap[w.heap.size+1]? =some (.stringIter s1 pos)∧Below w.heap.size w wr∧quotB s1 pos esc acc=q∧acc.length≤4 *pos∧pos≤40000) (fun _ wr=>s1.size-wr.iterPos (w.heap.size+1))
 case atStart=>
  refine⟨0,[],false,rfl,(Lib.IsBuilderF.of (Lib.fresh_isBuilder 118 5 w)).alloc _, ?_,((Below.refl _ w).alloc (Nat.le_refl _) _).alloc (by simp) _,hq,by simp,by omega⟩
  have:=World.iter_heap (w.alloc (.cells #[.pointer none, .slice none 0 0] 118)) s1 0
  simpa using this
 case round=>
  obtain⟨pos,acc,esc,rfl,hI,hit,hbw,hqp,hal,hpl⟩:=hrel
  have hsz:w.heap.size+1<wr.heap.size:=(Array.getElem?_eq_some_iff.1 hit).1
  by_cases hp:pos<s1.size
  ·have hnx: ∀ty,(Instr.next (.pointer (some ⟨w.heap.size+1,0,none⟩)) true ty).run Tryz.prog wr=_:=fun ty=>Lib.run_next_any_at wr (w.heap.size+1) s1 pos ty hit hp
   have hwd:=decode_wide hp
   have hd4:(Utf8.decode s1 pos).2≤4:=width_le4 s1 pos
   have hrl:=rune_le s1 pos
   have hrv:=rune_valid s1 pos
   have hI2:=hI.iterAt hit (pos+(Utf8.decode s1 pos).2)
   have hit2:=Lib.iterAt_heap wr (w.heap.size+1) s1 pos (pos+(Utf8.decode s1 pos).2) hit
   have hbw2:=Lib.below_iterAt hbw (k:=w.heap.size+1) (by omega) s1 (pos+(Utf8.decode s1 pos).2)
   have hsz2:w.heap.size≤(wr.iterAt (w.heap.size+1) s1 (pos+(Utf8.decode s1 pos).2)).heap.size:=by rw[Lib.iterAt_size];omega
   rw[quotB,dif_pos hp]at hqp
   cases esc with
   |true=>
    rw[if_pos rfl]at hqp
    by_cases hlow:(Utf8.decode s1 pos).1<128
    ·have hcall:=idxLow_calls hlow
     by_cases hr34:(Utf8.decode s1 pos).1=34
     ·rw[hr34]at hcall hqp
      rw[show escB ((34:Nat):Int)=some 34 from rfl]at hqp
      dsimp only at hqp
      go_wp2_with (first|(go_at_call 53;refine(hcall _).mono ?_;rintro e W1 ⟨rfl,rfl⟩)|(go_at_call 54;refine(Any.Builder_WriteByte_k layB_n167 layB_X w.heap.size w.heap.size _ 34 _ hI2 (by rw[Lib.byteCells_length];omega) hsz2).mono ?_))
      rintro e W1 ⟨rfl,h1,b1,k1⟩
      go_wp2
      go_roundw
      case rel=>
       refine⟨pos+(Utf8.decode s1 pos).2,acc++[34],false,rfl, ?_,k1.iter hit2 (by omega),hbw2.trans b1,hqp,by simp;omega,by omega⟩
       rw[Lib.byteCells_append];exact Or.inr h1
      case measure=>
       simp only[World.iterPos,k1.iter hit2 (by omega),hit]
       omega
     by_cases hr92:(Utf8.decode s1 pos).1=92
     ·rw[hr92]at hcall hqp
      rw[show escB ((92:Nat):Int)=some 92 from rfl]at hqp
      dsimp only at hqp
      go_wp2_with (first|(go_at_call 53;refine(hcall _).mono ?_;rintro e W1 ⟨rfl,rfl⟩)|(go_at_call 54;refine(Any.Builder_WriteByte_k layB_n167 layB_X w.heap.size w.heap.size _ 92 _ hI2 (by rw[Lib.byteCells_length];omega) hsz2).mono ?_))
      rintro e W1 ⟨rfl,h1,b1,k1⟩
      go_wp2
      go_roundw
      case rel=>
       refine⟨pos+(Utf8.decode s1 pos).2,acc++[92],false,rfl, ?_,k1.iter hit2 (by omega),hbw2.trans b1,hqp,by simp;omega,by omega⟩
       rw[Lib.byteCells_append];exact Or.inr h1
      case measure=>
       simp only[World.iterPos,k1.iter hit2 (by omega),hit]
       omega
     by_cases hr110:(Utf8.decode s1 pos).1=110
     ·rw[hr110]at hcall hqp
      rw[show escB ((110:Nat):Int)=some 10 from rfl]at hqp
      dsimp only at hqp
      go_wp2_with (first|(go_at_call 53;refine(hcall _).mono ?_;rintro e W1 ⟨rfl,rfl⟩)|(go_at_call 54;refine(Any.Builder_WriteByte_k layB_n167 layB_X w.heap.size w.heap.size _ 10 _ hI2 (by rw[Lib.byteCells_length];omega) hsz2).mono ?_))
      rintro e W1 ⟨rfl,h1,b1,k1⟩
      go_wp2
      go_roundw
      case rel=>
       refine⟨pos+(Utf8.decode s1 pos).2,acc++[10],false,rfl, ?_,k1.iter hit2 (by omega),hbw2.trans b1,hqp,by simp;omega,by omega⟩
       rw[Lib.byteCells_append];exact Or.inr h1
      case measure=>
       simp only[World.iterPos,k1.iter hit2 (by omega),hit]
       omega
     have hek:escK ((Utf8.decode s1 pos).1:Nat)= -1:=by unfold escK;rw[if_neg (by omega),if_neg (by omega),if_neg (by omega)]
     have heb:escB ((Utf8.decode s1 pos).1:Nat)=none:=by unfold escB;rw[if_neg (by omega),if_neg (by omega),if_neg (by omega)]
     rw[hek]at hcall
     rw[heb]at hqp
     go_wp2_with (go_at_call 53;refine(hcall _).mono ?_;rintro e W1 ⟨rfl,rfl⟩)
     subst hqp
     go_ret3
     exact⟨by simp,hbw2⟩
    ·have hek:escK ((Utf8.decode s1 pos).1:Nat)= -1:=esc_high (by omega)
     have heb:escB ((Utf8.decode s1 pos).1:Nat)=none:=by unfold escB;rw[if_neg (by omega),if_neg (by omega),if_neg (by omega)]
     have hcall:=idxHigh_calls (W:=wr.iterAt (w.heap.size+1) s1 (pos+(Utf8.decode s1 pos).2)) hr (by rw[hw];exact hbw2) hrv
     rw[hek]at hcall
     rw[heb]at hqp
     go_wp2_with (go_at_call 53;refine hcall.mono ?_;rintro e W1 ⟨rfl,hbi⟩)
     subst hqp
     go_ret3
     exact⟨by simp,hbw2.trans (hbi.mono hsz2)⟩
   |false=>
    rw[if_neg (by decide)]at hqp
    by_cases hr92:(Utf8.decode s1 pos).1=92
    ·rw[if_pos (by omega)]at hqp
     go_wp2
     go_roundw
     case rel=>exact⟨pos+(Utf8.decode s1 pos).2,acc,true,rfl,hI2,hit2,hbw2,hqp,by omega,by omega⟩
     case measure=>
      simp only[World.iterPos,hit2,hit]
      omega
    rw[if_neg (by omega)]at hqp
    by_cases hr34:(Utf8.decode s1 pos).1=34
    ·rw[if_pos (by omega)]at hqp
     go_wp2_with (go_at_call 55;refine(Any.Builder_String_any_k layB_n169 layB_X w.heap.size w.heap.size acc _ hI2 hsz2).mono ?_)
     rintro e W1 ⟨rfl,_,b1,_⟩
     go_wp2
     subst hqp
     go_ret3
     exact⟨by simp,hbw2.trans b1⟩
    rw[if_neg (by omega)]at hqp
    by_cases hr10:(Utf8.decode s1 pos).1=10
    ·rw[if_pos (by omega)]at hqp
     go_wp2
     subst hqp
     go_ret3
     exact⟨by simp,hbw2⟩
    rw[if_neg (by omega)]at hqp
    go_wp2_with (go_at_call 56;refine(Any.Builder_WriteRune_k layB_n168 layB_X w.heap.size w.heap.size _ ((Utf8.decode s1 pos).1:Int) (by omega) (by omega) _ hI2 (by rw[Lib.byteCells_length];omega) hsz2).mono ?_)
    rintro e W1 ⟨rfl,h1,b1,k1⟩
    go_wp2
    go_roundw
    case rel=>
     have hl4:=Lib.runeCells_le ((Utf8.decode s1 pos).1:Int)
     rw[Lib.runeCells_length]at hl4
     refine⟨pos+(Utf8.decode s1 pos).2,acc++Lib.encodeRune (Utf8.decode s1 pos).1,false,rfl, ?_,k1.iter hit2 (by omega),hbw2.trans b1,hqp,by rw[List.length_append];omega,by omega⟩
     rw[Lib.byteCells_append,Lib.byteCells_encodeRune];exact Or.inr h1
    case measure=>
     simp only[World.iterPos,k1.iter hit2 (by omega),hit]
     omega
  ·have hnx: ∀ty,(Instr.next (.pointer (some ⟨w.heap.size+1,0,none⟩)) true ty).run Tryz.prog wr=_:=fun ty=>Lib.run_next_end_at wr (w.heap.size+1) s1 pos ty hit hp
   rw[quotB,dif_neg hp]at hqp
   go_wp2
   subst hqp
   go_ret3
   exact⟨by simp;omega,hbw⟩
end Go.Proofs.YtdoenpeadkoklaaGreatFmtBesafter
namespace Go.Proofs.YtdoenpeadkoklaaGreatFmtBesafter
open Go Go.Pure Go.Shelf
def layMul_ren:Go.Shelf.Ren:=⟨fun|212=>167|263=>193|264=>194|n=>n,fun|46=>128|51=>132|146=>207|53=>143|148=>262|n=>n,fun|n=>n⟩
theorem layMul:Go.Proofs.Lays.n212 Tryz.prog layMul_ren:={
 mixed:=by kernel_rfl
 f212:=Tryz.func167.trans (congrArg some (by kernel_rfl))
 f263:=Tryz.func193.trans (congrArg some (by kernel_rfl))
 f264:=Tryz.func194.trans (congrArg some (by kernel_rfl))
 t46:=Tryz.underlying128
 a46:=Tryz.isAgg128
 z46:=Tryz.sizeOf128
 v46:=Tryz.zeroValue128
 t51:=Tryz.underlying132
 a51:=Tryz.isAgg132
 z51:=Tryz.sizeOf132
 v51:=Tryz.zeroValue132
 t53:=Tryz.underlying143
 a53:=Tryz.isAgg143
 z53:=Tryz.sizeOf143
 v53:=Tryz.zeroValue143
 t146:=Tryz.underlying207
 a146:=Tryz.isAgg207
 z146:=Tryz.sizeOf207
 v146:=Tryz.zeroValue207
 t148:=Tryz.underlying262
 a148:=Tryz.isAgg262
 z148:=Tryz.sizeOf262
 v148:=Tryz.zeroValue262}
def layLz_ren:Go.Shelf.Ren:=⟨fun|130=>215|125=>242|128=>256|129=>257|n=>n,fun|46=>128|3=>3|51=>132|53=>143|4=>4|5=>5|9=>9|n=>n,fun|n=>n⟩
theorem layLz:Go.Proofs.Lays.n130 Tryz.prog layLz_ren:={
 mixed:=by kernel_rfl
 f125:=Tryz.func242.trans (congrArg some (by kernel_rfl))
 f128:=Tryz.func256.trans (congrArg some (by kernel_rfl))
 f129:=Tryz.func257.trans (congrArg some (by kernel_rfl))
 f130:=Tryz.func215.trans (congrArg some (by kernel_rfl))
 t3:=Tryz.underlying3
 a3:=Tryz.isAgg3
 z3:=Tryz.sizeOf3
 v3:=Tryz.zeroValue3
 t4:=Tryz.underlying4
 a4:=Tryz.isAgg4
 z4:=Tryz.sizeOf4
 v4:=Tryz.zeroValue4
 t5:=Tryz.underlying5
 a5:=Tryz.isAgg5
 z5:=Tryz.sizeOf5
 v5:=Tryz.zeroValue5
 t9:=Tryz.underlying9
 a9:=Tryz.isAgg9
 z9:=Tryz.sizeOf9
 v9:=Tryz.zeroValue9
 t46:=Tryz.underlying128
 a46:=Tryz.isAgg128
 z46:=Tryz.sizeOf128
 v46:=Tryz.zeroValue128
 t51:=Tryz.underlying132
 a51:=Tryz.isAgg132
 z51:=Tryz.sizeOf132
 v51:=Tryz.zeroValue132
 t53:=Tryz.underlying143
 a53:=Tryz.isAgg143
 z53:=Tryz.sizeOf143
 v53:=Tryz.zeroValue143}
def layAdd_ren:Go.Shelf.Ren:=⟨fun|25=>192|n=>n,fun|22=>143|n=>n,fun|n=>n⟩
theorem layAdd:Go.Proofs.Lays7.n25 Tryz.prog layAdd_ren:={
 mixed:=by kernel_rfl
 f25:=Tryz.func192.trans (congrArg some (by kernel_rfl))
 t22:=Tryz.underlying143
 a22:=Tryz.isAgg143
 z22:=Tryz.sizeOf143
 v22:=Tryz.zeroValue143
 i22:=by kernel_rfl}
def laySub_ren:Go.Shelf.Ren:=⟨fun|26=>190|n=>n,fun|22=>143|n=>n,fun|n=>n⟩
theorem laySub:Go.Proofs.Lays7.n26 Tryz.prog laySub_ren:={
 mixed:=by kernel_rfl
 f26:=Tryz.func190.trans (congrArg some (by kernel_rfl))
 t22:=Tryz.underlying143
 a22:=Tryz.isAgg143
 z22:=Tryz.sizeOf143
 v22:=Tryz.zeroValue143
 i22:=by kernel_rfl}
end Go.Proofs.YtdoenpeadkoklaaGreatFmtBesafter
namespace Go.Proofs.YtdoenpeadkoklaaGreatFmtBesafter
open Go Go.Pure Go.Shelf
attribute [local irreducible] PW POps POpsD PO PC Cond
theorem pc_two{P:Program}{f:FuncId}{k1 k2:IntKind}{x y:Int}{u:Value}{v:PV}(h: ∀w:World,Calls P f #[.int k1 x, .int k2 y] w fun e w'=>e= .returned u∧w'=w)(hv: ∀c:Ctx,RV c v u):
  PC P f [.g (.int k1 x), .g (.int k2 y)] ⟨[],[],[]⟩ v ⟨[],[],[]⟩:=by
 unfold PC
 intro c vs hr ha
 obtain⟨hl,hvs⟩:=ha
 obtain⟨a,b,rfl⟩: ∃a b,vs= #[a,b]:=by
  obtain⟨l⟩:=vs
  match l,hl with
  |[a,b],_=>exact⟨a,b,rfl⟩
 have h0:=RV_int (hvs 0 _ a rfl rfl)
 have h1:=RV_int (hvs 1 _ b rfl rfl)
 subst h0;subst h1
 refine(h c.w).mono ?_
 rintro e w' ⟨rfl,rfl⟩
 exact⟨u,c,rfl,rfl,hr,Evo.refl c,hv c⟩
theorem pc_one{P:Program}{f:FuncId}{k1:IntKind}{x:Int}{u:Value}{v:PV}(h: ∀w:World,Calls P f #[.int k1 x] w fun e w'=>e= .returned u∧w'=w)(hv: ∀c:Ctx,RV c v u):
  PC P f [.g (.int k1 x)] ⟨[],[],[]⟩ v ⟨[],[],[]⟩:=by
 unfold PC
 intro c vs hr ha
 obtain⟨hl,hvs⟩:=ha
 obtain⟨a,rfl⟩: ∃a,vs= #[a]:=by
  obtain⟨l⟩:=vs
  match l,hl with
  |[a],_=>exact⟨a,rfl⟩
 have h0:=RV_int (hvs 0 _ a rfl rfl)
 subst h0
 refine(h c.w).mono ?_
 rintro e w' ⟨rfl,rfl⟩
 exact⟨u,c,rfl,rfl,hr,Evo.refl c,hv c⟩
theorem rv_pair(c:Ctx)(x y:Nat):RV c (.tuple [.g (wG x), .g (wG y)]) (.tuple #[.int .u64 (x:Int), .int .u64 (y:Int)]):=by
 refine .tuple _ _ rfl fun i p v hp hv=> ?_
 match i with
 |0=>cases hp;cases hv;exact .g _ _ (.int _ _)
 |1=>cases hp;cases hv;exact .g _ _ (.int _ _)
 |n+2=>simp at hp
theorem bmul_pc{x y:Nat}(hx:x<WB)(hy:y<WB):PC Tryz.prog 167 [.g (wG x), .g (wG y)] ⟨[],[],[]⟩ (.tuple [.g (wG (x *y/WB)), .g (wG (x *y%WB))]) ⟨[],[],[]⟩:=
 pc_two (fun w=>Any.bits_Mul layMul x y hx hy w) (fun c=>rv_pair c _ _)
theorem add64_ext{x y c:Nat}(hc:c≤1)(w:World):(callFunc 192 (intsV [(.u64,x),(.u64,y),(.u64,c)])).run Tryz.prog w= .ok (.value (.tuple #[.int .u64 (((x+y+c)%WB:Nat):Int), .int .u64 (((x+y+c)/WB:Nat):Int)])) w:=
 Any7.bits_Add64 layAdd x y c hc w
theorem sub64_ext{x y c:Nat}(hc:c≤1)(w:World):(callFunc 190 (intsV [(.u64,x),(.u64,y),(.u64,c)])).run Tryz.prog w= .ok (.value (.tuple #[.int .u64 (((x+WB-y-c)%WB:Nat):Int), .int .u64 ((if x<y+c then 1 else 0:Nat):Int)])) w:=
 Any7.bits_Sub64 laySub x y c hc w
theorem lz_pc{x:Nat}(hx:x<WB):PC Tryz.prog 215 [.g (wG x)] ⟨[],[],[]⟩ (.g (.int .i64 (64-(Lib.bitLen x:Int)))) ⟨[],[],[]⟩:=
 pc_one (fun w=>by
  have hx':x<18446744073709551616:=hx
  have h:=Any.bits_LeadingZeros layLz (x:Int) w (by omega) (by omega)
  rw[Int.toNat_natCast]at h
  exact h) (fun c=> .g _ _ (.int _ _))
end Go.Proofs.YtdoenpeadkoklaaGreatFmtBesafter
namespace Go.Proofs.YtdoenpeadkoklaaGreatFmtBesafter
open Go Go.Pure
attribute [local irreducible] PW POps POpsD PO PC Cond
theorem u64_wrap{n:Nat}{z:Int}(hz:z=n)(h:n<WB):IntKind.u64.wrap z=n:=by
 have h':n<18446744073709551616:=h
 subst hz
 rw[IntKind.wrap_u64]
 omega
theorem wG_wrap{n:Nat}{z:Int}(hz:z=n)(h:n<WB):GV.int .u64 (IntKind.u64.wrap z)=wG n:=by
 have h':n<18446744073709551616:=h
 subst hz
 unfold wG
 rw[IntKind.wrap_u64]
 congr 1
 omega
theorem badd_pc{x y c:Nat}(hc:c≤1):PC Tryz.prog 163 [.g (wG x), .g (wG y), .g (wG c)] ⟨[],[],[]⟩ (.tuple [.g (wG ((x+y+c)%WB)), .g (wG ((x+y+c)/WB))]) ⟨[],[],[]⟩:=by
 refine eN Tryz.func163 ?_
 (repeat first|refine uA ?_|(apply oR rfl rfl;focus(first|exact PO_call_ext rfl rfl rfl (fun w=>add64_ext hc w) (fun c=>rv_pair c _ _)|exact mO)))
 exact Ret2 (vC vT (vC vT vN)) rfl rfl rfl
theorem bsub_pc{x y c:Nat}(hc:c≤1):PC Tryz.prog 160 [.g (wG x), .g (wG y), .g (wG c)] ⟨[],[],[]⟩ (.tuple [.g (wG ((x+WB-y-c)%WB)), .g (wG (if x<y+c then 1 else 0))]) ⟨[],[],[]⟩:=by
 refine eN Tryz.func160 ?_
 (repeat first|refine uA ?_|(apply oR rfl rfl;focus(first|exact PO_call_ext rfl rfl rfl (fun w=>sub64_ext hc w) (fun c=>rv_pair c _ _)|exact mO)))
 exact Ret2 (vC vT (vC vT vN)) rfl rfl rfl
theorem www{x y c:Nat}(hx:x<WB)(hy:y<WB)(hc:c<WB):(x *y%WB+c+0)%WB=(x *y+c)%WB∧x *y/WB+(x *y%WB+c+0)/WB=(x *y+c)/WB∧(x *y+c)/WB<WB:=by
 refine⟨by rw[Nat.add_zero,Nat.mod_add_mod], ?_,word_step hx hy hc⟩
 have h1:=Nat.mod_add_div (x *y) WB
 have h2:(x *y+c)/WB=(x *y%WB+c+WB *(x *y/WB))/WB:=by congr 1;omega
 rw[h2,Nat.add_mul_div_left _ _ (by decide),Nat.add_zero,Nat.add_comm]
theorem www_pc{x y c:Nat}(hx:x<WB)(hy:y<WB)(hc:c<WB):PC Tryz.prog 165 [.g (wG x), .g (wG y), .g (wG c)] ⟨[],[],[]⟩ (.tuple [.g (wG ((x *y+c)/WB)), .g (wG ((x *y+c)%WB))]) ⟨[],[],[]⟩:=by
 have h1:=bmul_pc hx hy
 have h2:=badd_pc (x:=x *y%WB) (y:=c) (c:=0) (by omega)
 obtain⟨e1,e2,e3⟩:=www hx hy hc
 generalize(x *y+c)%WB=lo at e1⊢
 generalize(x *y+c)/WB=hi at e2 e3⊢
 generalize x *y/WB=h at h1 e2
 generalize x *y%WB=l at h1 h2 e1 e2
 generalize(l+c+0)%WB=l2 at h2 e1
 generalize(l+c+0)/WB=c2 at h2 e2
 subst e1
 refine eN Tryz.func165 ?_
 (repeat first|refine uA ?_|(apply oR rfl rfl;focus(first|exact cqP h1|exact cqP h2|exact mO)))
 exact Ret2 (vC vT (vC vT vN)) rfl (wG_wrap (by omega) e3) rfl
theorem nlz_pc{x:Nat}(hx:x<WB)(hb:Lib.bitLen x≤64):PC Tryz.prog 185 [.g (wG x)] ⟨[],[],[]⟩ (.g (wG (64-Lib.bitLen x))) ⟨[],[],[]⟩:=by
 have h1:=lz_pc hx
 refine eN Tryz.func185 ?_
 (repeat first|refine uA ?_|(apply oR rfl rfl;focus(first|exact cqP h1|exact mO)))
 refine rT ?_
 refine u64_wrap (n:=64-Lib.bitLen x) ?_ (Nat.lt_of_le_of_lt (Nat.sub_le _ _) (by decide))
 omega
abbrev WT:Nat:=144
abbrev AR(g:Nat)(ws:List Nat):MO:= .arr g WT (wsG ws)
theorem wsG_set{ws:List Nat}{i w:Nat}:(wsG ws).set i (wG w)=wsG (ws.set i w):=by unfold wsG;rw[List.map_set]
theorem set_putL{ws us:List Nat}{off n w:Nat}(hl:us.length=n)(h:off+n<ws.length):(putL ws off us).set (off+n) w=putL ws off (us++[w]):=by
 subst hl
 have hlen:(putL ws off us).length=ws.length:=putL_length (by omega)
 apply List.ext_getElem?
 intro k
 rw[List.getElem?_set]
 unfold putL
 have e1:(ws.take off).length=off:=by simp;omega
 by_cases hk:off+us.length=k
 ·subst hk
  rw[if_pos rfl,if_pos (by have:=hlen;unfold putL at this;rw[this];exact h)]
  rw[List.append_assoc,List.getElem?_append_right (by omega),e1,List.getElem?_append_left (by simp),List.getElem?_append_right (by omega)]
  simp
 ·rw[if_neg hk]
  have e2:(ws.take off++us).length=off+us.length:=by rw[List.length_append,e1]
  have e3:ws.take off++(us++[w])++ws.drop (off+(us++[w]).length)=(ws.take off++us)++([w]++ws.drop (off+(us++[w]).length)):=by simp
  rw[e3]
  by_cases h1:k<off+us.length
  ·rw[List.getElem?_append_left (by omega),List.getElem?_append_left (l₁:=ws.take off++us) (by omega)]
  ·rw[List.getElem?_append_right (by omega),List.getElem?_append_right (l₁:=ws.take off++us) (by omega),e2,List.getElem?_append_right (by simp;omega),List.getElem?_drop,List.getElem?_drop]
   congr 1
   simp
   omega
theorem putL_nil(ws:List Nat)(off:Nat):putL ws off []=ws:=by simp[putL]
theorem putL_get{ws us:List Nat}{off k:Nat}(h:off+us.length≤k):(putL ws off us)[k]? =ws[k]? :=by
 unfold putL
 by_cases hk:k<ws.length
 ·rw[List.getElem?_append_right (by simp;omega),List.getElem?_drop]
  congr 1
  simp
  omega
 ·rw[List.getElem?_eq_none (by simp;omega),List.getElem?_eq_none (by omega)]
theorem mulAdd_step: ∀{l:List Nat} {y c i x:Nat},l[i]? =some x→mulAddW (l.take (i+1)) y c=mulAddW (l.take i) y c++[(x *y+mulAddC (l.take i) y c)%WB]∧mulAddC (l.take (i+1)) y c=(x *y+mulAddC (l.take i) y c)/WB
 |[],_,_,_,_,h=>by simp at h
 |z::r,y,c,0,x,h=>by simp at h;subst h;simp[mulAddW,mulAddC]
 |z::r,y,c,i+1,x,h=>by
  have:=mulAdd_step (l:=r) (y:=y) (c:=(z *y+c)/WB) (i:=i) (x:=x) (by simpa using h)
  simp only[List.take_succ_cons,mulAddW,mulAddC,List.cons_append]
  exact⟨by rw[this.1],this.2⟩
theorem addMul_step: ∀{z l:List Nat} {m c i x y:Nat},z[i]? =some x→l[i]? =some y→addMulW (z.take (i+1)) (l.take (i+1)) m c=addMulW (z.take i) (l.take i) m c++[(y *m+x+addMulC (z.take i) (l.take i) m c)%WB]∧addMulC (z.take (i+1)) (l.take (i+1)) m c=(y *m+x+addMulC (z.take i) (l.take i) m c)/WB
 |[],_,_,_,_,_,_,h,_=>by simp at h
 |_::_,[],_,_,_,_,_,_,h=>by simp at h
 |z::zs,q::l,m,c,0,x,y,h,h'=>by simp at h h';subst h;subst h';simp[addMulW,addMulC]
 |z::zs,q::l,m,c,i+1,x,y,h,h'=>by
  have:=addMul_step (z:=zs) (l:=l) (m:=m) (c:=(q *m+z+c)/WB) (i:=i) (x:=x) (y:=y) (by simpa using h) (by simpa using h')
  simp only[List.take_succ_cons,addMulW,addMulC,List.cons_append]
  exact⟨by rw[this.1],this.2⟩
theorem mulAddV_pc{g o n cap:Nat}{ws xs:List Nat}{y r:Nat}(hx:okW xs)(hn:xs.length=n)(hm:n≤maxLen)(hy:y<WB)(hr:r<WB)(hfit:o+n≤ws.length):
  PC Tryz.prog 69 [.vw 0 g o n cap, .g (.sl (wsG xs)), .g (wG y), .g (wG r)] ⟨[],[],[AR g ws]⟩ (.g (wG (mulAddC xs y r))) ⟨[],[],[AR g (putL ws o (mulAddW xs y r))]⟩:=by
 have hgl:((wsG xs).length:Int)=n:=by rw[wsG_length,hn]
 refine eN Tryz.func69 ?_
 (repeat first|refine uA ?_|(apply oR rfl rfl;focus(first|exact PO_vlen rfl (EL rfl) rfl|exact mO)))
 refine sQ (fun h=> ?_) fun h=> ?_
 ·exfalso
  revert h
  simp[wsG_length,hn]
 clear h
 (repeat first|refine uA ?_|(apply oR rfl rfl;focus(first|exact PO_vlen rfl (EL rfl) rfl|exact mO)))
 refine PW_loop (S:=Nat) (fun i=>slots [(0, .vw 0 g o n cap),(1, .g (.sl (wsG xs))),(2, .g (wG y)),(8, .g (wG (mulAddC (xs.take i) y r))),(18, .g (.int .i64 n)),(19, .g (.int .i64 i))]) (fun i=>⟨[],[],[AR g (putL ws o (mulAddW (xs.take i) y r))]⟩) (fun i=>i≤n) (fun i=>n-i) 0 (Nat.zero_le _)
  (SlotsOk.le ⟨.inl rfl, .inl rfl, .inl rfl, .inl rfl, .inl rfl, .inl rfl,trivial⟩) (HLe.of_eq (by rw[List.take_zero,mulAddW,putL_nil])) (fun i hi=> ?_)
 (try refine uN ?_)
 refine sQ (fun h=> ?_) fun h=> ?_
 ·have hlt:i<n:=by have:=of_decide_eq_true h;omega
  have hxi:xs[i]? =some (xs[i]'(by omega)):=List.getElem?_eq_getElem (by omega)
  generalize xs[i]'(by omega)=x at hxi
  have hg:(wsG xs)[(i:Int).toNat]? =some (wG x):=wsG_get hxi
  have hw:=www_pc (hx.at hxi) hy (mulAddC_lt (hx.take i) hy hr)
  obtain⟨s1,s2⟩:=mulAdd_step (y:=y) (c:=r) hxi
  have hti:(mulAddW (xs.take i) y r).length=i:=by rw[mulAddW_length,List.length_take];omega
  have hz:(wsG (putL ws o (mulAddW (xs.take i) y r)))[o+i]? =some (wG (ws[o+i]'(by omega))):=wsG_get (by rw[putL_get (by omega)];exact List.getElem?_eq_getElem (by omega))
  generalize ws[o+i]'(by omega)=z at hz
  clear h
  (repeat first|refine uA ?_|(apply oR rfl rfl;focus(first|exact cqP hw|exact iA rfl (EL rfl) (SZ rfl) rfl rfl (Int.natCast_nonneg _) hg rfl|exact PO_vindex i rfl (EL rfl) (SZ rfl) rfl rfl rfl hlt|exact PO_store_mref rfl (SZ rfl) rfl rfl rfl rfl (by decide) rfl hz (Nat.le_refl _)|exact mO)))
  exact⟨i+1,hlt,by omega,SlotsOk.le ⟨.inl rfl, .inl rfl, .inl rfl, .inl (by rw[s2];rfl), .inl rfl, .inl (congrArg (fun k=>PV.g (.int .i64 k)) (w64 (by unfold maxLen at hm;omega))),trivial⟩,
   HLe.of_eq (by
    rw[s1,←set_putL hti (by omega)]
    exact congrArg (fun l=>(⟨[],[],[MO.arr g WT l]⟩:PH)) wsG_set)⟩
 ·have hi':i=n:=by have:=of_decide_eq_false h;omega
  subst hi'
  rw[List.take_of_length_le (Nat.le_of_eq hn)]
  (try refine uN ?_)
  refine rB ?_ ?_ ?_
  all_goals rfl
theorem mulAddV_vpc{g o n cap g1 o1 c1:Nat}{ws xs ws1:List Nat}(hv:(ws1.drop o1).take n=xs){y r:Nat}(hx:okW xs)(hn:xs.length=n)(hm:n≤maxLen)(hy:y<WB)(hr:r<WB)(hfit:o+n≤ws.length):
  PC Tryz.prog 69 [.vw 0 g o n cap, .vw 1 g1 o1 n c1, .g (wG y), .g (wG r)] ⟨[],[],[AR g ws,AR g1 ws1]⟩ (.g (wG (mulAddC xs y r))) ⟨[],[],[AR g (putL ws o (mulAddW xs y r)),AR g1 ws1]⟩:=by
 refine eN Tryz.func69 ?_
 (repeat first|refine uA ?_|(apply oR rfl rfl;focus(first|exact PO_vlen rfl (EL rfl) rfl|exact mO)))
 refine sQ (fun h=> ?_) fun h=> ?_
 ·exfalso
  revert h
  simp
 clear h
 (repeat first|refine uA ?_|(apply oR rfl rfl;focus(first|exact PO_vlen rfl (EL rfl) rfl|exact mO)))
 refine PW_loop (S:=Nat) (fun i=>slots [(0, .vw 0 g o n cap),(1, .vw 1 g1 o1 n c1),(2, .g (wG y)),(8, .g (wG (mulAddC (xs.take i) y r))),(18, .g (.int .i64 n)),(19, .g (.int .i64 i))]) (fun i=>⟨[],[],[AR g (putL ws o (mulAddW (xs.take i) y r)),AR g1 ws1]⟩) (fun i=>i≤n) (fun i=>n-i) 0 (Nat.zero_le _)
  (SlotsOk.le ⟨.inl rfl, .inl rfl, .inl rfl, .inl rfl, .inl rfl, .inl rfl,trivial⟩) (HLe.of_eq (by rw[List.take_zero,mulAddW,putL_nil])) (fun i hi=> ?_)
 (try refine uN ?_)
 refine sQ (fun h=> ?_) fun h=> ?_
 ·have hlt:i<n:=by have:=of_decide_eq_true h;omega
  have hxi:xs[i]? =some (xs[i]'(by omega)):=List.getElem?_eq_getElem (by omega)
  generalize xs[i]'(by omega)=x at hxi
  have hg:(wsG ws1)[o1+i]? =some (wG x):=wsG_get (by rw[←hv,List.getElem?_take,if_pos hlt,List.getElem?_drop]at hxi;exact hxi)
  have hw:=www_pc (hx.at hxi) hy (mulAddC_lt (hx.take i) hy hr)
  obtain⟨s1,s2⟩:=mulAdd_step (y:=y) (c:=r) hxi
  have hti:(mulAddW (xs.take i) y r).length=i:=by rw[mulAddW_length,List.length_take];omega
  have hz:(wsG (putL ws o (mulAddW (xs.take i) y r)))[o+i]? =some (wG (ws[o+i]'(by omega))):=wsG_get (by rw[putL_get (by omega)];exact List.getElem?_eq_getElem (by omega))
  generalize ws[o+i]'(by omega)=z at hz
  clear h
  (repeat first|refine uA ?_|(apply oR rfl rfl;focus(first|exact cqP hw|exact PO_load_mref_one rfl (AG rfl) rfl rfl hg rfl|exact PO_vindex i rfl (EL rfl) (SZ rfl) rfl rfl rfl hlt|exact PO_store_mref rfl (SZ rfl) rfl rfl rfl rfl (by decide) rfl hz (Nat.le_refl _)|exact mO)))
  exact⟨i+1,hlt,by omega,SlotsOk.le ⟨.inl rfl, .inl rfl, .inl rfl, .inl (by rw[s2];rfl), .inl rfl, .inl (congrArg (fun k=>PV.g (.int .i64 k)) (w64 (by unfold maxLen at hm;omega))),trivial⟩,
   HLe.of_eq (by
    rw[s1,←set_putL hti (by omega)]
    exact congrArg (fun l=>(⟨[],[],[MO.arr g WT l,AR g1 ws1]⟩:PH)) wsG_set)⟩
 ·have hi':i=n:=by have:=of_decide_eq_false h;omega
  subst hi'
  rw[List.take_of_length_le (Nat.le_of_eq hn)]
  (try refine uN ?_)
  refine rB ?_ ?_ ?_
  all_goals rfl
theorem wwww{x c:Nat}:(x%WB+c+0)%WB=(x+c)%WB∧x/WB+(x%WB+c+0)/WB=(x+c)/WB:=by
 refine⟨by rw[Nat.add_zero,Nat.mod_add_mod], ?_⟩
 have h1:=Nat.mod_add_div x WB
 have h2:(x+c)/WB=(x%WB+c+WB *(x/WB))/WB:=by congr 1;omega
 rw[h2,Nat.add_mul_div_left _ _ (by decide),Nat.add_zero,Nat.add_comm]
theorem addMulV_pc{g o n cap cap':Nat}{ws xs ys:List Nat}{m a:Nat}(hw:okW ws)(hv:(ws.drop o).take n=xs)(hy:okW ys)(hn:ys.length=n)(hm:n≤maxLen)(hmw:m<WB)(ha:a<WB)(hfit:o+n≤ws.length):
  PC Tryz.prog 70 [.vw 0 g o n cap, .vw 0 g o n cap', .g (.sl (wsG ys)), .g (wG m), .g (wG a)] ⟨[],[],[AR g ws]⟩ (.g (wG (addMulC xs ys m a))) ⟨[],[],[AR g (putL ws o (addMulW xs ys m a))]⟩:=by
 have hxl:xs.length=n:=by rw[←hv];simp;omega
 have hxo:okW xs:=by rw[←hv];exact(hw.drop o).take n
 refine eN Tryz.func70 ?_
 (repeat' first|refine uF ?_|((first|apply oR rfl rfl|(apply dF rfl rfl rfl;intro _)|(apply dP rfl rfl rfl;intro _)|(apply dL rfl rfl rfl;intro _)|apply dC rfl rfl rfl rfl);(focus(first|exact PO_vlen rfl (EL rfl) rfl|exact mO));try exact kQ)|refine xU [3] rfl ?_|(refine sQ (fun h=> ?_) (fun h=> ?_)<;>fail_if_success (first|(have:true=true:=h)|(have:false=false:=h)))|fail)
 all_goals(try(exfalso;revert h;simp[wsG_length,hn];done))
 all_goals(try(exfalso;rename_i h1 h2;revert h1 h2;simp[wsG_length,hn];done))
 all_goals try clear h
 (repeat first|refine uE ?_|((first|apply oR rfl rfl|(apply dF rfl rfl rfl;intro _)|(apply dP rfl rfl rfl;intro _)|(apply dL rfl rfl rfl;intro _)|apply dC rfl rfl rfl rfl);(focus(first|exact PO_vlen rfl (EL rfl) rfl|exact mO));try exact kQ))
 refine PW_loop (S:=Nat) (fun i=>slots [(0, .vw 0 g o n cap),(1, .vw 0 g o n cap'),(2, .g (.sl (wsG ys))),(3, .g (wG m)),(10, .g (wG (addMulC (xs.take i) (ys.take i) m a))),(31, .g (.int .i64 n)),(32, .g (.int .i64 i))]) (fun i=>⟨[],[],[AR g (putL ws o (addMulW (xs.take i) (ys.take i) m a))]⟩) (fun i=>i≤n) (fun i=>n-i) 0 (Nat.zero_le _)
  (SlotsOk.le ⟨.inl rfl, .inl rfl, .inl rfl, .inl rfl, .inl rfl, .inl rfl, .inl rfl,trivial⟩) (HLe.of_eq (by simp only[List.take_zero,addMulW,putL_nil])) (fun i hi=> ?_)
 (try refine uD ?_)
 refine sQ (fun h=> ?_) fun h=> ?_
 ·have hlt:i<n:=by have:=of_decide_eq_true h;omega
  have hxi:xs[i]? =some (xs[i]'(by omega)):=List.getElem?_eq_getElem (by omega)
  generalize xs[i]'(by omega)=x at hxi
  have hyi:ys[i]? =some (ys[i]'(by omega)):=List.getElem?_eq_getElem (by omega)
  generalize ys[i]'(by omega)=y at hyi
  have hg:(wsG ys)[(i:Int).toNat]? =some (wG y):=wsG_get hyi
  have hC:=addMulC_lt (hxo.take i) (hy.take i) hmw ha
  have hti:(addMulW (xs.take i) (ys.take i) m a).length=i:=by rw[addMulW_length (by rw[List.length_take,List.length_take];omega),List.length_take];omega
  have hz:(wsG (putL ws o (addMulW (xs.take i) (ys.take i) m a)))[o+i]? =some (wG x):=wsG_get (by rw[putL_get (by omega)];rw[←hv,List.getElem?_take,if_pos hlt,List.getElem?_drop]at hxi;exact hxi)
  have h1:=www_pc (hy.at hyi) hmw (hxo.at hxi)
  have h2:=badd_pc (x:=(y *m+x)%WB) (y:=addMulC (xs.take i) (ys.take i) m a) (c:=0) (by omega)
  obtain⟨s1,s2⟩:=addMul_step (m:=m) (c:=a) hxi hyi
  have hlast:=addMulC_lt (hxo.take (i+1)) (hy.take (i+1)) hmw ha
  rw[s2]at hlast
  obtain⟨e1,e2⟩:=wwww (x:=y *m+x) (c:=addMulC (xs.take i) (ys.take i) m a)
  clear h
  (repeat first|refine uG ?_|(apply dR rfl rfl;focus(first|exact Cond_mload rfl rfl (AG rfl) rfl rfl hz rfl))|((first|apply oR rfl rfl|(apply dF rfl rfl rfl;intro _)|(apply dP rfl rfl rfl;intro _)|(apply dL rfl rfl rfl;intro _)|apply dC rfl rfl rfl rfl);(focus(first|exact cqP h1|exact cqP h2|exact iA rfl (EL rfl) (SZ rfl) rfl rfl (Int.natCast_nonneg _) hg rfl|exact PO_vindex i rfl (EL rfl) (SZ rfl) rfl rfl rfl hlt|exact PO_store_mref rfl (SZ rfl) rfl rfl rfl rfl (by decide) rfl hz (Nat.le_refl _)|exact mO));try exact kQ)|refine xK false false [10000] rfl mixed (by decide+kernel) ?_|refine xK false true [10000] rfl mixed (by decide+kernel) ?_|refine xK true false [10000] rfl mixed (by decide+kernel) ?_|refine xK true true [10000] rfl mixed (by decide+kernel) ?_)
  exact⟨i+1,hlt,by omega,SlotsOk.le ⟨.inl rfl, .inl rfl, .inl rfl, .inl rfl, .inl (congrArg PV.g (wG_wrap (by rw[s2,←e2];omega) (by rw[s2];exact hlast))), .inl rfl, .inl (congrArg (fun k=>PV.g (.int .i64 k)) (w64 (by unfold maxLen at hm;omega))),trivial⟩,
   HLe.of_eq (by
    rw[s1,←e1,←set_putL hti (by omega)]
    exact congrArg (fun l=>(⟨[],[],[MO.arr g WT l]⟩:PH)) wsG_set)⟩
 ·have hi':i=n:=by have:=of_decide_eq_false h;omega
  subst hi'
  rw[List.take_of_length_le (Nat.le_of_eq hn),List.take_of_length_le (Nat.le_of_eq hxl)]
  (try refine uD ?_)
  refine rB ?_ ?_ ?_
  all_goals rfl
theorem addMulV_vpc{g o n cap cap' g1 o1 c1:Nat}{ws xs ys ws1:List Nat}{m a:Nat}(hv1:(ws1.drop o1).take n=ys)(hw:okW ws)(hv:(ws.drop o).take n=xs)(hy:okW ys)(hn:ys.length=n)(hm:n≤maxLen)(hmw:m<WB)(ha:a<WB)(hfit:o+n≤ws.length):
  PC Tryz.prog 70 [.vw 0 g o n cap, .vw 0 g o n cap', .vw 1 g1 o1 n c1, .g (wG m), .g (wG a)] ⟨[],[],[AR g ws,AR g1 ws1]⟩ (.g (wG (addMulC xs ys m a))) ⟨[],[],[AR g (putL ws o (addMulW xs ys m a)),AR g1 ws1]⟩:=by
 have hxl:xs.length=n:=by rw[←hv];simp;omega
 have hxo:okW xs:=by rw[←hv];exact(hw.drop o).take n
 refine eN Tryz.func70 ?_
 (repeat' first|refine uF ?_|((first|apply oR rfl rfl|(apply dF rfl rfl rfl;intro _)|(apply dP rfl rfl rfl;intro _)|(apply dL rfl rfl rfl;intro _)|apply dC rfl rfl rfl rfl);(focus(first|exact PO_vlen rfl (EL rfl) rfl|exact mO));try exact kQ)|refine xU [3] rfl ?_|(refine sQ (fun h=> ?_) (fun h=> ?_)<;>fail_if_success (first|(have:true=true:=h)|(have:false=false:=h)))|fail)
 all_goals(try(exfalso;revert h;simp;done))
 all_goals(try(exfalso;rename_i h1 h2;revert h1 h2;simp;done))
 all_goals try clear h
 (repeat first|refine uE ?_|((first|apply oR rfl rfl|(apply dF rfl rfl rfl;intro _)|(apply dP rfl rfl rfl;intro _)|(apply dL rfl rfl rfl;intro _)|apply dC rfl rfl rfl rfl);(focus(first|exact PO_vlen rfl (EL rfl) rfl|exact mO));try exact kQ))
 refine PW_loop (S:=Nat) (fun i=>slots [(0, .vw 0 g o n cap),(1, .vw 0 g o n cap'),(2, .vw 1 g1 o1 n c1),(3, .g (wG m)),(10, .g (wG (addMulC (xs.take i) (ys.take i) m a))),(31, .g (.int .i64 n)),(32, .g (.int .i64 i))]) (fun i=>⟨[],[],[AR g (putL ws o (addMulW (xs.take i) (ys.take i) m a)),AR g1 ws1]⟩) (fun i=>i≤n) (fun i=>n-i) 0 (Nat.zero_le _)
  (SlotsOk.le ⟨.inl rfl, .inl rfl, .inl rfl, .inl rfl, .inl rfl, .inl rfl, .inl rfl,trivial⟩) (HLe.of_eq (by simp only[List.take_zero,addMulW,putL_nil])) (fun i hi=> ?_)
 (try refine uD ?_)
 refine sQ (fun h=> ?_) fun h=> ?_
 ·have hlt:i<n:=by have:=of_decide_eq_true h;omega
  have hxi:xs[i]? =some (xs[i]'(by omega)):=List.getElem?_eq_getElem (by omega)
  generalize xs[i]'(by omega)=x at hxi
  have hyi:ys[i]? =some (ys[i]'(by omega)):=List.getElem?_eq_getElem (by omega)
  generalize ys[i]'(by omega)=y at hyi
  have hg:(wsG ws1)[o1+i]? =some (wG y):=wsG_get (by rw[←hv1,List.getElem?_take,if_pos hlt,List.getElem?_drop]at hyi;exact hyi)
  have hC:=addMulC_lt (hxo.take i) (hy.take i) hmw ha
  have hti:(addMulW (xs.take i) (ys.take i) m a).length=i:=by rw[addMulW_length (by rw[List.length_take,List.length_take];omega),List.length_take];omega
  have hz:(wsG (putL ws o (addMulW (xs.take i) (ys.take i) m a)))[o+i]? =some (wG x):=wsG_get (by rw[putL_get (by omega)];rw[←hv,List.getElem?_take,if_pos hlt,List.getElem?_drop]at hxi;exact hxi)
  have h1:=www_pc (hy.at hyi) hmw (hxo.at hxi)
  have h2:=badd_pc (x:=(y *m+x)%WB) (y:=addMulC (xs.take i) (ys.take i) m a) (c:=0) (by omega)
  obtain⟨s1,s2⟩:=addMul_step (m:=m) (c:=a) hxi hyi
  have hlast:=addMulC_lt (hxo.take (i+1)) (hy.take (i+1)) hmw ha
  rw[s2]at hlast
  obtain⟨e1,e2⟩:=wwww (x:=y *m+x) (c:=addMulC (xs.take i) (ys.take i) m a)
  clear h
  (repeat first|refine uG ?_|(apply dR rfl rfl;focus(first|exact Cond_mload rfl rfl (AG rfl) rfl rfl hg rfl|exact Cond_mload rfl rfl (AG rfl) rfl rfl hz rfl))|((first|apply oR rfl rfl|(apply dF rfl rfl rfl;intro _)|(apply dP rfl rfl rfl;intro _)|(apply dL rfl rfl rfl;intro _)|apply dC rfl rfl rfl rfl);(focus(first|exact cqP h1|exact cqP h2|exact PO_vindex i rfl (EL rfl) (SZ rfl) rfl rfl rfl hlt|exact PO_store_mref rfl (SZ rfl) rfl rfl rfl rfl (by decide) rfl hz (Nat.le_refl _)|exact mO));try exact kQ)|refine xK false false [10000,10001] rfl mixed (by decide+kernel) ?_|refine xK false true [10000,10001] rfl mixed (by decide+kernel) ?_|refine xK true false [10000,10001] rfl mixed (by decide+kernel) ?_|refine xK true true [10000,10001] rfl mixed (by decide+kernel) ?_)
  exact⟨i+1,hlt,by omega,SlotsOk.le ⟨.inl rfl, .inl rfl, .inl rfl, .inl rfl, .inl (congrArg PV.g (wG_wrap (by rw[s2,←e2];omega) (by rw[s2];exact hlast))), .inl rfl, .inl (congrArg (fun k=>PV.g (.int .i64 k)) (w64 (by unfold maxLen at hm;omega))),trivial⟩,
   HLe.of_eq (by
    rw[s1,←e1,←set_putL hti (by omega)]
    exact congrArg (fun l=>(⟨[],[],[MO.arr g WT l,AR g1 ws1]⟩:PH)) wsG_set)⟩
 ·have hi':i=n:=by have:=of_decide_eq_false h;omega
  subst hi'
  rw[List.take_of_length_le (Nat.le_of_eq hn),List.take_of_length_le (Nat.le_of_eq hxl)]
  (try refine uD ?_)
  refine rB ?_ ?_ ?_
  all_goals rfl
theorem norm_pc{g o n cap:Nat}{ws l:List Nat}(hv:(ws.drop o).take n=l)(hfit:o+n≤ws.length)(hc:n≤cap)(hm:n≤maxLen):
  PC Tryz.prog 136 [.vw 0 g o n cap] ⟨[],[],[AR g ws]⟩ (.vw 0 g o (nlen l) cap) ⟨[],[],[AR g ws]⟩:=by
 have hl:l.length=n:=by rw[←hv];simp;omega
 refine eN Tryz.func136 ?_
 (repeat first|refine uA ?_|(apply oR rfl rfl;focus(first|exact PO_vlen rfl (EL rfl) rfl|exact mO)))
 refine PW_loop (S:=Nat) (fun i=>slots [(0, .vw 0 g o n cap),(3, .g (.int .i64 i))]) (fun i=>⟨[],[],[AR g ws]⟩) (fun i=>i≤n∧ ∀j,i≤j→ ∀x,l[j]? =some x→x=0) (fun i=>i) n ⟨Nat.le_refl _,fun j hj x hx=>by rw[List.getElem?_eq_none (by omega)]at hx;cases hx⟩
  (SlotsOk.le ⟨.inl rfl, .inl rfl,trivial⟩) (HLe.of_eq rfl) (fun i hi=> ?_)
 obtain⟨hi,hz⟩:=hi
 cases i with
 |zero=>
  have hk:nlen l=0:=nlen_none fun x hx=>by
   obtain⟨j,hj⟩:=List.getElem?_of_mem hx
   exact hz j (Nat.zero_le _) x hj
  (repeat first|refine uA ?_|(apply oR rfl rfl;focus(first|exact vcut 0 rfl (EL rfl) (SZ rfl) rfl rfl rfl rfl rfl (Nat.zero_le _)|exact mO)))
  rw[hk]
  refine rB ?_ ?_ ?_
  all_goals rfl
 |succ i=>
  have hli:l[i]? =some (l[i]'(by omega)):=List.getElem?_eq_getElem (by omega)
  generalize l[i]'(by omega)=x at hli
  have hg:(wsG ws)[o+i]? =some (wG x):=wsG_get (by rw[←hv,List.getElem?_take,if_pos (by omega),List.getElem?_drop]at hli;exact hli)
  have hsub:IntKind.i64.wrap (((i+1:Nat):Int)-1)=(i:Int):=by rw[w64 (by unfold maxLen at hm;omega)];omega
  have hpos:decide ((0:Int)<((i+1:Nat):Int))=true:=decide_eq_true (by omega)
  (try refine uN ?_)
  refine sQ (fun h=> ?_) fun h=> ?_
  ·clear h
   (repeat first|refine uA ?_|(apply oR rfl rfl;focus(first|exact PO_as (PO_vindex i rfl (EL rfl) (SZ rfl) rfl rfl hsub (by omega)) rfl|exact PO_load_mref_one rfl (AG rfl) rfl rfl hg rfl|exact mO)))
   refine sQ (fun h=> ?_) fun h=> ?_
   ·have hx0:x=0:=by have:=of_decide_eq_true h;omega
    subst hx0
    clear h
    (try refine uN ?_)
    refine⟨i,⟨by omega,fun j hj x hx=> ?_⟩,by omega,SlotsOk.le ⟨.inl rfl, .inl (congrArg (fun k=>PV.g (.int .i64 k)) hsub),trivial⟩,HLe.of_eq rfl⟩
    by_cases hji:j=i
    ·subst hji;rw[hli]at hx;exact(Option.some.inj hx).symm
    ·exact hz j (by omega) x hx
   ·have hx0:x≠0:=fun e=>by subst e;simp at h
    have hk:nlen l=i+1:=nlen_step hli (fun j hj y hy=>hz j hj y hy) hx0
    clear h
    (repeat first|refine uA ?_|(apply oR rfl rfl;focus(first|exact vcut (i+1) rfl (EL rfl) (SZ rfl) rfl rfl rfl rfl rfl (Nat.le_trans hi hc)|exact mO)))
    rw[hk]
    refine rB ?_ ?_ ?_
    all_goals rfl
  ·have:=of_decide_eq_false h;omega
def capN(n:Nat):Nat:=if n=1 then 1 else n+4
theorem capN_le(n:Nat):n≤capN n:=by unfold capN;split<;>omega
theorem vmakeW{o:Oper}{ρ:Operand→PV}{H:PH}{t:TypeId}{x y:Operand}{k1 k2:IntKind}{l n:Nat}{z:Int}(ho:o.op= .makeSlice t x y)(hx1:ρ x= .g (.int k1 l))(hy1:ρ y= .g (.int k2 z))(hz:z=n)(he:Tryz.prog.underlying t=some (.slice WT))(hl:l≤n)(hn:n≤2000000):
  PO Tryz.prog o ρ H (.vw H.mu.length 0 0 l n) ⟨H.bx,H.tk,H.mu++[AR 0 (List.replicate n 0)]⟩:=by
 subst hz
 have hr:wsG (List.replicate n 0)=List.replicate n (constG (.int .u64 0)):=by unfold wsG;rw[List.map_replicate];rfl
 rw[AR,hr]
 exact PO_vmake ho hx1 hy1 he (SZ rfl) (ZR rfl) rfl (BY rfl) hl (by omega) (by omega)
theorem make_nil{n:Nat}(h1:1≤n)(hm:n≤1000000):PC Tryz.prog 119 [.nils, .g (.int .i64 n)] ⟨[],[],[]⟩ (.vw 0 0 0 n (capN n)) ⟨[],[],[AR 0 (List.replicate (capN n) 0)]⟩:=by
 refine eN Tryz.func119 ?_
 (repeat first|refine uA ?_|(apply oR rfl rfl;focus(first|exact PO_ncap rfl (EL rfl) rfl|exact mO)))
 refine sQ (fun h=> ?_) fun h=> ?_
 ·exfalso;have:=of_decide_eq_true h;omega
 clear h
 (try refine uN ?_)
 refine sQ (fun h=> ?_) fun h=> ?_
 ·have hn:n=1:=by have:=of_decide_eq_true h;omega
  subst hn
  rw[show capN 1=1 from rfl]
  (repeat first|refine uA ?_|(apply oR rfl rfl;focus(first|exact vmakeW (l:=1) (n:=1) rfl rfl rfl rfl (EL rfl) (Nat.le_refl _) (by decide)|exact mO)))
  refine rB ?_ ?_ ?_
  all_goals rfl
 ·have hn:n≠1:=by have:=of_decide_eq_false h;omega
  have hadd:IntKind.i64.wrap ((n:Int)+4)=((n+4:Nat):Int):=by rw[w64 (by omega)];omega
  have hc:capN n=n+4:=by unfold capN;rw[if_neg hn]
  rw[hc]
  clear h
  (repeat first|refine uA ?_|(apply oR rfl rfl;focus(first|exact vmakeW (l:=n) (n:=n+4) rfl rfl rfl hadd (EL rfl) (by omega) (by omega)|exact mO)))
  refine rB ?_ ?_ ?_
  all_goals rfl
theorem make_in{n g o len cap:Nat}{m:MO}(hnc:n≤cap):PC Tryz.prog 119 [.vw 0 g o len cap, .g (.int .i64 n)] ⟨[],[],[m]⟩ (.vw 0 g o n cap) ⟨[],[],[m]⟩:=by
 refine eN Tryz.func119 ?_
 (repeat first|refine uA ?_|(apply oR rfl rfl;focus(first|exact PO_vcap rfl (EL rfl) rfl|exact mO)))
 refine sQ (fun h=> ?_) fun h=> ?_
 ·(repeat first|refine uA ?_|(apply oR rfl rfl;focus(first|exact vcut n rfl (EL rfl) (SZ rfl) rfl rfl rfl rfl rfl hnc|exact mO)))
  refine rB ?_ ?_ ?_
  all_goals rfl
 ·exfalso;have:=of_decide_eq_false h;omega
theorem make_out{n g o len cap:Nat}{m:MO}(h2:2≤n)(hlt:cap<n)(hm:n≤1000000):PC Tryz.prog 119 [.vw 0 g o len cap, .g (.int .i64 n)] ⟨[],[],[m]⟩ (.vw 1 0 0 n (n+4)) ⟨[],[],[m,AR 0 (List.replicate (n+4) 0)]⟩:=by
 have hadd:IntKind.i64.wrap ((n:Int)+4)=((n+4:Nat):Int):=by rw[w64 (by omega)];omega
 refine eN Tryz.func119 ?_
 (repeat first|refine uA ?_|(apply oR rfl rfl;focus(first|exact PO_vcap rfl (EL rfl) rfl|exact mO)))
 refine sQ (fun h=> ?_) fun h=> ?_
 ·exfalso;have:=of_decide_eq_true h;omega
 clear h
 (try refine uN ?_)
 refine sQ (fun h=> ?_) fun h=> ?_
 ·exfalso;have:=of_decide_eq_true h;omega
 clear h
 (repeat first|refine uA ?_|(apply oR rfl rfl;focus(first|exact vmakeW (l:=n) (n:=n+4) rfl rfl rfl hadd (EL rfl) (by omega) (by omega)|exact mO)))
 refine rB ?_ ?_ ?_
 all_goals rfl
theorem setWord_pc{x:Nat}(h0:x≠0):PC Tryz.prog 154 [.nils, .g (wG x)] ⟨[],[],[]⟩ (.vw 0 0 0 1 1) ⟨[],[],[AR 0 [x]]⟩:=by
 have hmk:=make_nil (n:=1) (by omega) (by omega)
 rw[show capN 1=1 from rfl]at hmk
 refine eN Tryz.func154 ?_
 (try refine uN ?_)
 refine sQ (fun h=> ?_) fun h=> ?_
 ·exfalso;have:=of_decide_eq_true h;omega
 clear h
 (repeat first|refine uA ?_|(apply oR rfl rfl;focus(first|exact cd [true] rfl rfl (EN rfl) (hmk) rfl rfl rfl rfl rfl rfl rfl rfl rfl rfl rfl|exact PO_vindex 0 rfl (EL rfl) (SZ rfl) rfl rfl rfl (by decide)|exact PO_store_mref rfl (SZ rfl) rfl rfl rfl rfl (by decide) rfl rfl (Nat.le_refl _)|exact mO)))
 refine rB ?_ ?_ ?_
 all_goals rfl
theorem set_pc{xs:List Nat}(h1:1≤xs.length)(hm:xs.length≤1000000):PC Tryz.prog 98 [.nils, .g (.sl (wsG xs))] ⟨[],[],[]⟩ (.vw 0 0 0 xs.length (capN xs.length)) ⟨[],[],[AR 0 (xs++List.replicate (capN xs.length-xs.length) 0)]⟩:=by
 rw[←wsG_length xs]at h1 hm⊢
 have hmk:=make_nil h1 hm
 have hcap:=capN_le (wsG xs).length
 have hcap':xs.length≤capN xs.length:=capN_le _
 have hput:putAt (wsG (List.replicate (capN (wsG xs).length) 0)) 0 ((wsG xs).take (wsG xs).length)=wsG (xs++List.replicate (capN (wsG xs).length-(wsG xs).length) 0):=by
  rw[List.take_of_length_le (Nat.le_refl _)]
  unfold putAt wsG
  simp
 refine eN Tryz.func98 ?_
 (repeat first|refine uA ?_|(apply oR rfl rfl;focus(first|exact cd [true] rfl rfl (EN rfl) (hmk) rfl rfl rfl rfl rfl rfl rfl rfl rfl rfl rfl|exact PO_asH (PO_vcopy (ys:=wsG xs) rfl (EL rfl) (SZ rfl) (SZ rfl) rfl rfl rfl (fun _ _ _ _ _ e=>by cases e) wsG_cells (by simp[wsG_length];exact hcap')) (congrArg (fun l=>(⟨[],[],[MO.arr 0 WT l]⟩:PH)) hput)|exact mO)))
 refine rB ?_ ?_ ?_
 all_goals rfl
theorem alias_nil{p:PV}:PC Tryz.prog 139 [.nils,p] ⟨[],[],[]⟩ (.g (.bool false)) ⟨[],[],[]⟩:=by
 refine eN Tryz.func139 ?_
 (repeat first|refine uE ?_|((first|apply oR rfl rfl|(apply dF rfl rfl rfl;intro _)|(apply dP rfl rfl rfl;intro _)|(apply dL rfl rfl rfl;intro _)|apply dC rfl rfl rfl rfl);(focus(first|exact PO_ncap rfl (EL rfl) rfl|exact mO));try exact kQ))
 refine rT ?_
 rfl
theorem alias_nilv{m:MO}{g o n c:Nat}:PC Tryz.prog 139 [.nils, .vw 0 g o n c] ⟨[],[],[m]⟩ (.g (.bool false)) ⟨[],[],[m]⟩:=by
 refine eN Tryz.func139 ?_
 (repeat first|refine uE ?_|((first|apply oR rfl rfl|(apply dF rfl rfl rfl;intro _)|(apply dP rfl rfl rfl;intro _)|(apply dL rfl rfl rfl;intro _)|apply dC rfl rfl rfl rfl);(focus(first|exact PO_ncap rfl (EL rfl) rfl|exact mO));try exact kQ))
 refine rB ?_ ?_ ?_
 all_goals rfl
theorem alias_two{g1 n1 c1 g2 n2 c2:Nat}{ws1 ws2:List Nat}(h1:1≤c1)(h2:1≤c2)(hl1:c1≤ws1.length)(hl2:c2≤ws2.length)(hm1:c1≤1000000)(hm2:c2≤1000000):PC Tryz.prog 139 [.vw 0 g1 0 n1 c1, .vw 1 g2 0 n2 c2] ⟨[],[],[AR g1 ws1,AR g2 ws2]⟩ (.g (.bool false)) ⟨[],[],[AR g1 ws1,AR g2 ws2]⟩:=by
 have s1:IntKind.i64.wrap ((c1:Int)-1)=((c1-1:Nat):Int):=by rw[w64 (by omega)];omega
 have s2:IntKind.i64.wrap ((c2:Int)-1)=((c2-1:Nat):Int):=by rw[w64 (by omega)];omega
 have e1:0<(wsG ws1).length:=by rw[wsG_length];omega
 have e2:0<(wsG ws2).length:=by rw[wsG_length];omega
 refine eN Tryz.func139 ?_
 (repeat' first|refine uG ?_|(apply dR rfl rfl;focus(first|exact Cond_mcmp rfl rfl rfl Tryz.underlying238 (SZ rfl) (.inl rfl) rfl rfl rfl rfl (SZ rfl) (SZ rfl) e1 e2|exact Cond_mcmp rfl rfl rfl Tryz.underlying238 (SZ rfl) (.inl rfl) rfl rfl rfl rfl (SZ rfl) (SZ rfl) e1 e2))|((first|apply oR rfl rfl|(apply dF rfl rfl rfl;intro _)|(apply dP rfl rfl rfl;intro _)|(apply dL rfl rfl rfl;intro _)|apply dC rfl rfl rfl rfl);(focus(first|exact PO_vcap rfl (EL rfl) rfl|exact vcut c1 rfl (EL rfl) (SZ rfl) rfl rfl rfl rfl rfl (Nat.le_refl _)|exact vcut c2 rfl (EL rfl) (SZ rfl) rfl rfl rfl rfl rfl (Nat.le_refl _)|exact PO_vindex (c1-1) rfl (EL rfl) (SZ rfl) rfl rfl s1 (by omega)|exact PO_vindex (c2-1) rfl (EL rfl) (SZ rfl) rfl rfl s2 (by omega)|exact mO));try exact kQ)|refine xK false false [10000,10001] rfl mixed (by decide+kernel) ?_|refine xK false true [10000,10001] rfl mixed (by decide+kernel) ?_|refine xK true false [10000,10001] rfl mixed (by decide+kernel) ?_|refine xK true true [10000,10001] rfl mixed (by decide+kernel) ?_|(refine sQ (fun h=> ?_) (fun h=> ?_)<;>fail_if_success (first|(have:true=true:=h)|(have:false=false:=h)))|fail)
 all_goals(try(exfalso;have:=of_decide_eq_false h;omega))
 all_goals(try(refine rB ?_ ?_ ?_;all_goals rfl))
end Go.Proofs.YtdoenpeadkoklaaGreatFmtBesafter