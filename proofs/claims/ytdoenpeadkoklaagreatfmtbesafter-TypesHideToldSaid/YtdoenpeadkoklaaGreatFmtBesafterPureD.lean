/- A generic layer: values without memory, and code over them. -/
import Derived.Test.YtdoenpeadkoklaaGreatFmtBesafterPureC
import Derived.Lib.TrimUEq
import Derived.Test.YtdoenpeadkoklaaGreatFmtBesafterPureB
namespace Go.Pure
open Go
theorem pow_split{s:Nat}(hs:s≤64):2^(64-s) *2^s=WB:=by
 rw[←Nat.pow_add,show 64-s+s=64 by omega]
theorem up_word{x c s:Nat}(hs:s≤64)(hc:c<2^s):(x *2^s+c)/WB=x/2^(64-s)∧(x *2^s+c)%WB=x *2^s%WB ||| c:=by
 have hp:0<2^s:=Nat.pow_pos (by decide)
 have e1:(x *2^s+c)/2^s=x:=by
  rw[Nat.mul_comm,Nat.mul_add_div hp,Nat.div_eq_of_lt hc,Nat.add_zero]
 refine⟨?_, ?_⟩
 ·rw[←pow_split hs,Nat.mul_comm (2^(64-s)),←Nat.div_div_eq_div_mul,e1]
 ·have e2:x *2^s%WB=2^s *(x%2^(64-s)):=by
   rw[←pow_split hs,Nat.mul_mod_mul_right,Nat.mul_comm]
  have e3:=Nat.two_pow_add_eq_or_of_lt hc (x%2^(64-s))
  rw[e2,←e3]
  have e4:=Nat.mod_add_div x (2^(64-s))
  have e5:x *2^s=2^s *(x%2^(64-s))+WB *(x/2^(64-s)):=by
   conv=>lhs;rw[←e4]
   rw[Nat.add_mul,Nat.mul_comm (x%2^(64-s)),Nat.mul_right_comm,pow_split hs]
  have e6:2^s *(x%2^(64-s))+c<WB:=by
   have h1:x%2^(64-s)+1≤2^(64-s):=Nat.mod_lt _ (Nat.pow_pos (by decide))
   have h2:2^s *(x%2^(64-s)+1)≤2^s *2^(64-s):=Nat.mul_le_mul_left _ h1
   rw[Nat.mul_comm (2^s) (2^(64-s)),pow_split hs,Nat.mul_add,Nat.mul_one]at h2
   exact Nat.lt_of_lt_of_le (Nat.add_lt_add_left hc _) h2
  rw[e5,Nat.add_right_comm,Nat.add_mul_mod_self_left,Nat.mod_eq_of_lt e6]
theorem mulAdd_stepB: ∀{l:List Nat} {y c i x:Nat},l[i]? =some x→mulAddW (l.take (i+1)) y c=mulAddW (l.take i) y c++[(x *y+mulAddC (l.take i) y c)%WB]∧mulAddC (l.take (i+1)) y c=(x *y+mulAddC (l.take i) y c)/WB
 |[],_,_,_,_,h=>by simp at h
 |z::r,y,c,0,x,h=>by simp at h;subst h;simp[mulAddW,mulAddC]
 |z::r,y,c,i+1,x,h=>by
  have:=mulAdd_stepB (l:=r) (y:=y) (c:=(z *y+c)/WB) (i:=i) (x:=x) (by simpa using h)
  simp only[List.take_succ_cons,mulAddW,mulAddC,List.cons_append]
  exact⟨by rw[this.1],this.2⟩
theorem mulAddW_takeB: ∀(l:List Nat) (y c i:Nat),mulAddW (l.take i) y c=(mulAddW l y c).take i
 |[],_,_,_=>by simp[mulAddW]
 |x::r,y,c,0=>by simp[mulAddW]
 |x::r,y,c,i+1=>by simp[mulAddW,mulAddW_takeB r]
def upR(l:List Nat)(s:Nat):List Nat:=mulAddW l (2^s) 0
def upC(l:List Nat)(s:Nat):Nat:=mulAddC l (2^s) 0
theorem upR_length(l:List Nat)(s:Nat):(upR l s).length=l.length:=mulAddW_length _ _ _
theorem upR_ok(l:List Nat)(s:Nat):okW (upR l s):=mulAddW_ok _ _ _
theorem upC_small: ∀{l:List Nat} {y c:Nat},okW l→c<y→mulAddC l y c<y
 |[],_,_,_,hc=>hc
 |x::r,y,c,h,hc=>by
  obtain⟨h1,h2⟩:=okW_cons.1 h
  show mulAddC r y ((x *y+c)/WB)<y
  refine upC_small h2 ((Nat.div_lt_iff_lt_mul (by decide)).2 ?_)
  have:(x+1) *y≤WB *y:=Nat.mul_le_mul_right _ h1
  rw[Nat.add_mul,Nat.one_mul]at this
  rw[Nat.mul_comm y]
  exact Nat.lt_of_lt_of_le (Nat.add_lt_add_left hc _) this
theorem upC_lt{l:List Nat}{s:Nat}(h:okW l):upC l s<2^s:=upC_small h (Nat.pow_pos (by decide))
theorem upC_last{l:List Nat}{s k x:Nat}(hs:s≤64)(h:okW l)(hx:l[k]? =some x):upC (l.take (k+1)) s=x/2^(64-s):=by
 unfold upC
 rw[(mulAdd_stepB hx).2]
 exact(up_word hs (upC_lt (h.take k))).1
theorem upR_zero{l:List Nat}{s x:Nat}(hx:l[0]? =some x):(upR l s)[0]? =some (x *2^s%WB):=by
 match l,hx with
 |y::r,hx=>simp at hx;subst hx;simp[upR,mulAddW]
theorem upR_get{l:List Nat}{s k x y:Nat}(hs:s≤64)(h:okW l)(hx:l[k+1]? =some x)(hy:l[k]? =some y):(upR l s)[k+1]? =some (x *2^s%WB ||| y/2^(64-s)):=by
 have h1:=(mulAdd_stepB (y:=2^s) (c:=0) hx).1
 rw[mulAddW_takeB]at h1
 have h2:((mulAddW l (2^s) 0).take (k+1+1))[k+1]? =(mulAddW l (2^s) 0)[k+1]? :=by rw[List.getElem?_take,if_pos (by omega)]
 have hk:=(List.getElem?_eq_some_iff.1 hx).1
 have h3:(mulAddW (l.take (k+1)) (2^s) 0).length=k+1:=by rw[mulAddW_length,List.length_take];omega
 rw[h1,List.getElem?_append_right (by omega),h3,Nat.sub_self]at h2
 have h4:=upC_last (s:=s) hs h hy
 have h5:=(up_word (x:=x) hs (upC_lt (s:=s) (h.take (k+1)))).2
 unfold upC at h4 h5
 unfold upR
 rw[←h2,h5,h4]
 rfl
theorem up_pad{l:List Nat}{s:Nat}(h:okW l)(hs:s<64):upR l s++[upC l s]=padD (l.length+1) (val l *2^s):=by
 have h1:=mulAdd_val l (2^s) 0
 have hc:upC l s<WB:=Nat.lt_trans (upC_lt h) (Nat.pow_lt_pow_right (by decide) hs)
 have ho:okW (upR l s++[upC l s]):=okW_append.2 ⟨upR_ok _ _,okW_cons.2 ⟨hc,okW_nil⟩⟩
 have hl:(upR l s++[upC l s]).length=l.length+1:=by rw[List.length_append,upR_length];rfl
 have hv:val (upR l s++[upC l s])=val l *2^s:=by
  rw[val_append,upR_length,val_cons,val_nil]
  unfold upR upC
  simpa using h1
 rw[←hv,←hl,padD_val ho]
def upB(ws T:List Nat)(k:Nat):List Nat:=ws.take k++(T.drop k++ws.drop T.length)
theorem upB_length{ws T:List Nat}{k:Nat}(hk:k≤T.length)(h:T.length≤ws.length):(upB ws T k).length=ws.length:=by
 unfold upB
 simp
 omega
theorem upB_start{ws T:List Nat}:upB ws T T.length=ws:=by
 unfold upB
 simp
theorem upB_done{ws T:List Nat}:upB ws T 0=putL ws 0 T:=by
 unfold upB putL
 simp
theorem upB_step{ws T:List Nat}{k w:Nat}(hw:T[k]? =some w)(h:T.length≤ws.length):(upB ws T (k+1)).set k w=upB ws T k:=by
 have hk:=(List.getElem?_eq_some_iff.1 hw).1
 have e:(ws.take k).length=k:=by simp;omega
 have hwk:ws.take (k+1)=ws.take k++[ws[k]'(by omega)]:=List.take_succ_eq_append_getElem (by omega)
 have hd:T.drop k=w::T.drop (k+1):=by
  rw[List.drop_eq_getElem_cons hk]
  rw[List.getElem?_eq_getElem hk]at hw
  rw[Option.some.inj hw]
 unfold upB
 rw[hwk,hd,List.append_assoc,List.set_append_right _ _ (by omega),e,Nat.sub_self]
 rfl
/-! ### Moved down -/
def downR:List Nat→Nat→List Nat
 |[],_=>[]
 |[x],s=>[x/2^s]
 |x::y::r,s=>(x/2^s ||| y *2^(64-s)%WB)::downR (y::r) s
theorem downR_length: ∀(l:List Nat) (s:Nat),(downR l s).length=l.length
 |[],_=>rfl
 |[_],_=>rfl
 |_::y::r,s=>by simp only[downR,List.length_cons,downR_length (y::r) s]
theorem down_word{x y s:Nat}(hs:s≤64)(hx:x<WB):x/2^s ||| y *2^(64-s)%WB=2^(64-s) *(y%2^s)+x/2^s∧x/2^s<2^(64-s):=by
 have hp:0<2^s:=Nat.pow_pos (by decide)
 have h1:x/2^s<2^(64-s):=(Nat.div_lt_iff_lt_mul hp).2 (by rw[pow_split hs];exact hx)
 have e2:y *2^(64-s)%WB=2^(64-s) *(y%2^s):=by
  rw[←pow_split hs,Nat.mul_comm y,Nat.mul_mod_mul_left]
 refine⟨?_,h1⟩
 rw[e2,Nat.two_pow_add_eq_or_of_lt h1,Nat.or_comm]
theorem downR_val: ∀{l:List Nat} {s:Nat},okW l→s≤64→val (downR l s)=val l/2^s
 |[],_,_,_=>by simp[downR,val]
 |[x],s,_,_=>by simp[downR,val]
 |x::y::r,s,h,hs=>by
  obtain⟨h1,h2⟩:=okW_cons.1 h
  have ih:=downR_val (l:=y::r) (s:=s) h2 hs
  have hw:=(down_word (y:=y) hs h1).1
  have hp:0<2^s:=Nat.pow_pos (by decide)
  have hm:val (y::r)%2^s=y%2^s:=by
   rw[val_cons,←pow_split hs,Nat.mul_comm (2^(64-s)),Nat.mul_assoc,Nat.add_mul_mod_self_left]
  have hd:=Nat.mod_add_div (val (y::r)) (2^s)
  rw[hm]at hd
  rw[downR,val_cons,ih,hw,val_cons x]
  generalize val (y::r)=R at *
  have e1:WB *R=2^s *(2^(64-s) *R):=by rw[←Nat.mul_assoc,Nat.mul_comm (2^s),pow_split hs]
  have e2:WB *(R/2^s)=2^(64-s) *(2^s *(R/2^s)):=by rw[←Nat.mul_assoc,pow_split hs]
  rw[e1,Nat.add_mul_div_left _ _ hp,e2,Nat.add_right_comm,←Nat.mul_add,hd,Nat.add_comm]
theorem downR_ok: ∀{l:List Nat} {s:Nat},okW l→s≤64→okW (downR l s)
 |[],_,_,_=>okW_nil
 |[x],s,h,_=>okW_cons.2 ⟨Nat.lt_of_le_of_lt (Nat.div_le_self _ _) (okW_cons.1 h).1,okW_nil⟩
 |x::y::r,s,h,hs=>by
  obtain⟨h1,h2⟩:=okW_cons.1 h
  refine okW_cons.2 ⟨?_,downR_ok (l:=y::r) h2 hs⟩
  obtain⟨e1,e2⟩:=down_word (y:=y) hs h1
  rw[e1]
  have h3:y%2^s+1≤2^s:=Nat.mod_lt _ (Nat.pow_pos (by decide))
  have h4:2^(64-s) *(y%2^s+1)≤2^(64-s) *2^s:=Nat.mul_le_mul_left _ h3
  rw[pow_split hs,Nat.mul_add,Nat.mul_one]at h4
  exact Nat.lt_of_lt_of_le (Nat.add_lt_add_left e2 _) h4
theorem down_pad{l:List Nat}{s:Nat}(h:okW l)(hs:s≤64):downR l s=padD l.length (val l/2^s):=by
 rw[←downR_val h hs,←downR_length l s,padD_val (downR_ok h hs)]
theorem downR_get: ∀{l:List Nat} {s k x y:Nat},l[k]? =some x→l[k+1]? =some y→(downR l s)[k]? =some (x/2^s ||| y *2^(64-s)%WB)
 |[],_,_,_,_,h,_=>by simp at h
 |[_],_,0,_,_,_,h=>by simp at h
 |[_],_,k+1,_,_,h,_=>by simp at h
 |a::b::r,s,0,x,y,h1,h2=>by simp at h1 h2;subst h1;subst h2;simp[downR]
 |a::b::r,s,k+1,x,y,h1,h2=>by
  have:=downR_get (l:=b::r) (s:=s) (k:=k) (by simpa using h1) (by simpa using h2)
  simpa[downR]using this
theorem downR_last: ∀{l:List Nat} {s k x:Nat},l[k]? =some x→l.length=k+1→(downR l s)[k]? =some (x/2^s)
 |[],_,_,_,h,_=>by simp at h
 |[a],s,0,x,h,_=>by simp at h;subst h;rfl
 |[_],_,k+1,_,h,_=>by simp at h
 |a::b::r,s,0,x,h1,h2=>by simp at h2
 |a::b::r,s,k+1,x,h1,h2=>by
  have:=downR_last (l:=b::r) (s:=s) (k:=k) (by simpa using h1) (by simpa using h2)
  simpa[downR]using this
def dnB(ws T:List Nat)(k:Nat):List Nat:=T.take k++ws.drop k
theorem dnB_zero(ws T:List Nat):dnB ws T 0=ws:=by simp[dnB]
theorem dnB_done(ws T:List Nat):dnB ws T T.length=putL ws 0 T:=by simp[dnB,putL]
theorem dnB_get{ws T:List Nat}{k j:Nat}(h:k≤j)(hk:k≤T.length):(dnB ws T k)[j]? =ws[j]? :=by
 have e:(T.take k).length=k:=by simp;omega
 unfold dnB
 rw[List.getElem?_append_right (by omega),e,List.getElem?_drop]
 congr 1
 omega
theorem dnB_step{ws T:List Nat}{k w:Nat}(hw:T[k]? =some w)(h:k<ws.length):(dnB ws T k).set k w=dnB ws T (k+1):=by
 have hk:=(List.getElem?_eq_some_iff.1 hw).1
 have e:(T.take k).length=k:=by simp;omega
 have ht:T.take (k+1)=T.take k++[w]:=by
  rw[List.take_add_one,hw]
  rfl
 unfold dnB
 rw[List.set_append_right _ _ (by omega),e,Nat.sub_self,List.drop_eq_getElem_cons h,ht,List.append_assoc]
 rfl
/-! ### Division by a number of two words -/
def quC(D:Nat)(ws l:List Nat)(n k:Nat):List Nat:=ws.take k++(padD (n-k) (val (l.drop k)/D)++ws.drop n)
theorem quC_length{D n k:Nat}{ws l:List Nat}(h:k≤n)(hw:n≤ws.length):(quC D ws l n k).length=ws.length:=by
 unfold quC
 rw[List.length_append,List.length_append,List.length_take,List.length_drop,padD_length]
 omega
theorem quC_start(D:Nat){ws l:List Nat}(n:Nat):quC D ws l n n=ws:=by
 unfold quC
 rw[Nat.sub_self]
 simp[padD]
theorem quC_done(D n:Nat)(ws l:List Nat):quC D ws l n 0=putL ws 0 (padD n (val l/D)):=by
 unfold quC putL
 rw[padD_length]
 simp
theorem quC_step{D n k x:Nat}{ws l:List Nat}(hD:0<D)(hx:x<WB)(h:l[k]? =some x)(hk:k<n)(hw:n≤ws.length):(quC D ws l n (k+1)).set k ((x+WB *(val (l.drop (k+1))%D))/D)=quC D ws l n k:=by
 have hs:=(div_stepB D x (val (l.drop (k+1))) hD).1
 have hd:=digit_ltB (x:=x) hx (Nat.mod_lt (val (l.drop (k+1))) hD)
 obtain⟨q,hq⟩: ∃q,q=(x+WB *(val (l.drop (k+1))%D))/D:=⟨_,rfl⟩
 have hqw:q<WB:=by rw[hq];exact hd
 have e:(ws.take k).length=k:=by simp;omega
 have hwk:ws.take (k+1)=ws.take k++[ws[k]'(by omega)]:=List.take_succ_eq_append_getElem (by omega)
 unfold quC
 rw[val_dropB h,hs,←hq,show n-k=(n-(k+1))+1 by omega,padD,Nat.add_mul_mod_self_left,Nat.mod_eq_of_lt hqw,Nat.add_mul_div_left _ _ (by decide),Nat.div_eq_of_lt hqw,Nat.zero_add]
 rw[hwk,List.append_assoc,List.set_append_right _ _ (by omega),e,Nat.sub_self]
 rfl
def uB(D:Nat)(l:List Nat)(k:Nat):List Nat:=l.take k++(padD 2 (val (l.drop k)%D)++List.replicate (l.length-k-2) 0)
theorem uB_length{D k:Nat}{l:List Nat}(h:k+2≤l.length):(uB D l k).length=l.length:=by
 unfold uB
 rw[List.length_append,List.length_append,List.length_take,padD_length,List.length_replicate]
 omega
theorem uB_start{D:Nat}{l:List Nat}(hw:okW l)(h2:2≤l.length)(h:val (l.drop (l.length-2))<D):uB D l (l.length-2)=l:=by
 unfold uB
 have e:(l.drop (l.length-2)).length=2:=by simp;omega
 have hp:=padD_val (hw.drop (l.length-2))
 rw[e]at hp
 rw[Nat.mod_eq_of_lt h,show l.length-(l.length-2)-2=0 by omega,List.replicate_zero,hp,List.append_nil,List.take_append_drop]
theorem uB_ok{D k:Nat}{l:List Nat}(hw:okW l):okW (uB D l k):=okW_append.2 ⟨hw.take _,okW_append.2 ⟨padD_ok _ _,okW_rep _⟩⟩
theorem uB_cons{D k x:Nat}{l:List Nat}(h:l[k]? =some x):uB D l (k+1)=l.take k++(x::padD 2 (val (l.drop (k+1))%D)++List.replicate (l.length-k-3) 0):=by
 unfold uB
 rw[List.take_add_one,h,show l.length-(k+1)-2=l.length-k-3 by omega]
 simp
theorem uB_step{D k x:Nat}{l:List Nat}(hD:0<D)(hD2:D<WB *WB)(h:l[k]? =some x)(hk2:k+3≤l.length):putL (uB D l (k+1)) k (padD 3 ((x+WB *(val (l.drop (k+1))%D))%D))=uB D l k:=by
 have e:(l.take k).length=k:=by simp;omega
 have hr:=rest_stepB hD h
 have hlt:(x+WB *(val (l.drop (k+1))%D))%D<WB *WB:=Nat.lt_trans (Nat.mod_lt _ hD) hD2
 obtain⟨R,hR⟩: ∃R,R=(x+WB *(val (l.drop (k+1))%D))%D:=⟨_,rfl⟩
 rw[←hR]at hr hlt⊢
 have hz:R/WB/WB=0:=by rw[Nat.div_div_eq_div_mul];exact Nat.div_eq_of_lt hlt
 have h3:padD 3 R=padD 2 R++[0]:=by
  show [R%WB,R/WB%WB,R/WB/WB%WB]=[R%WB,R/WB%WB]++[0]
  rw[hz]
  rfl
 rw[uB_cons h]
 unfold putL uB
 rw[hr,h3]
 rw[List.take_append_of_le_length (by omega),List.take_of_length_le (by omega)]
 have hl:k+(padD 2 R++[0]).length=k+3:=by rw[List.length_append,padD_length];rfl
 rw[hl,List.drop_append_of_le_length' e]
 rw[show l.length-k-2=(l.length-k-3)+1 by omega,List.replicate_succ]
 simp[padD]
where
 List.drop_append_of_le_length' {k:Nat} {P Q:List Nat} (e:P.length=k):(P++Q).drop (k+3)=Q.drop 3:=by
  subst e
  rw[List.drop_append]
  simp
theorem uB_part{D k x:Nat}{l:List Nat}(h:l[k]? =some x)(hk2:k+3≤l.length):((uB D l (k+1)).drop k).take 3=x::padD 2 (val (l.drop (k+1))%D):=by
 have e:(l.take k).length=k:=by simp;omega
 rw[uB_cons h,List.drop_left' e]
 simp[padD]
theorem uB_done{D:Nat}{l:List Nat}(hD:0<D)(hD2:D<WB *WB)(h2:2≤l.length):uB D l 0=padD l.length (val l%D):=by
 have hlt:val l%D<WB^2:=Nat.lt_trans (Nat.mod_lt _ hD) (by rw[Nat.pow_succ,Nat.pow_one];exact hD2)
 have hlt2:val l%D<WB^l.length:=Nat.lt_of_lt_of_le hlt (Nat.pow_le_pow_right (by decide) h2)
 refine val_inj ?_ (padD_ok _ _) (by rw[uB_length (by omega),padD_length]) ?_
 ·unfold uB
  rw[List.take_zero]
  exact okW_append.2 ⟨okW_nil,okW_append.2 ⟨padD_ok _ _,okW_rep _⟩⟩
 ·unfold uB
  rw[List.take_zero,List.drop_zero,List.nil_append,val_append,val_rep,val_padD hlt,val_padD hlt2]
  simp
structure WInv(H u2 v1 v2 g r:Nat):Prop where
 h:H=g *v1+r
 q:(H *WB+u2)/(v1 *WB+v2)≤g
 b:g<WB
theorem WInv.start{H u2 v1 v2:Nat}(hH:H<v1 *WB)(hv1:1≤v1)(hu:u2<WB):WInv H u2 v1 v2 (H/v1) (H%v1):=by
 refine⟨by rw[Nat.mul_comm];exact(Nat.div_add_mod H v1).symm, ?_, ?_⟩
 ·have hpos:0<v1 *WB+v2:=Nat.lt_of_lt_of_le (Nat.mul_pos hv1 (by decide)) (Nat.le_add_right _ _)
  refine Nat.le_of_lt_succ ((Nat.div_lt_iff_lt_mul hpos).2 ?_)
  have h1:=Nat.div_add_mod H v1
  have h2:=Nat.mod_lt H (show 0<v1 by omega)
  generalize H/v1=g at *
  generalize H%v1=r at *
  rw[Nat.mul_comm (g.succ),show(v1 *WB+v2) *g.succ=(v1 *WB+v2) *g+(v1 *WB+v2)from Nat.mul_succ _ _]
  have e1:(v1 *WB+v2) *g=v1 *g *WB+v2 *g:=by rw[Nat.add_mul,Nat.mul_right_comm]
  have e2:(r+1) *WB≤v1 *WB:=Nat.mul_le_mul_right _ h2
  rw[e1]
  have e3:H *WB=v1 *g *WB+r *WB:=by rw[←h1,Nat.add_mul]
  rw[Nat.add_mul,Nat.one_mul]at e2
  generalize WB=B at *
  omega
 ·exact(Nat.div_lt_iff_lt_mul hv1).2 (by rw[Nat.mul_comm];exact hH)
theorem WInv.over{H u2 v1 v2 g r:Nat}(hI:WInv H u2 v1 v2 g r)(hv1:1≤v1)(hc:r *WB+u2<g *v2):1≤g∧WInv H u2 v1 v2 (g-1) (r+v1):=by
 have hv:0<v1 *WB+v2:=Nat.lt_of_lt_of_le (Nat.mul_pos hv1 (by decide)) (Nat.le_add_right _ _)
 have hlt:(H *WB+u2)/(v1 *WB+v2)<g:=by
  refine(Nat.div_lt_iff_lt_mul hv).2 ?_
  have:=guess_over (B:=WB) (W:=1) (v1:=v1) (v2:=v2) (vr:=0) (h:=H) (u2:=u2) (ur:=0) (g:=g) (r:=r) hI.h (by decide) hc
  simpa using this
 have hg:1≤g:=Nat.lt_of_le_of_lt (Nat.zero_le _) hlt
 refine⟨hg,⟨?_,by omega,by have:=hI.b;omega⟩⟩
 have h1:(g-1) *v1+v1=g *v1:=by
  obtain⟨k,rfl⟩: ∃k,g=k+1:=⟨g-1,by omega⟩
  rw[Nat.add_sub_cancel,Nat.add_mul,Nat.one_mul]
 have:=hI.h
 omega
theorem WInv.done{H u2 v1 v2 g r:Nat}(hI:WInv H u2 v1 v2 g r)(hv1:1≤v1)(hc:g *v2≤r *WB+u2):(H *WB+u2)/(v1 *WB+v2)=g:=by
 have hv:0<v1 *WB+v2:=Nat.lt_of_lt_of_le (Nat.mul_pos hv1 (by decide)) (Nat.le_add_right _ _)
 refine Nat.le_antisymm hI.q ((Nat.le_div_iff_mul_le hv).2 ?_)
 have e1:H *WB=g *v1 *WB+r *WB:=by rw[hI.h,Nat.add_mul]
 have e2:g *(v1 *WB+v2)=g *v1 *WB+g *v2:=by rw[Nat.mul_add,Nat.mul_assoc]
 omega
theorem WInv.broke{H u2 v1 v2 g r:Nat}(hI:WInv H u2 v1 v2 g r)(hv1:1≤v1)(hv2:v2<WB)(hr:WB≤r):(H *WB+u2)/(v1 *WB+v2)=g:=
 hI.done hv1 (guess_done (Nat.le_of_lt hI.b) hv2 hr)
theorem top_guess{x R V v1 v0:Nat}(hV:V=v0+WB *v1)(hv0:v0<WB)(hv1:WB≤2 *v1)(hR:R<V)(hx:x<WB)(hu:R/WB=v1):(x+WB *R)/V=WB-1∨(x+WB *R)/V+1=WB-1:=by
 have hVp:0<V:=Nat.lt_of_le_of_lt (Nat.zero_le _) hR
 have hlt:=digit_ltB (D:=V) hx hR
 have h2:WB-2≤(x+WB *R)/V:=by
  refine(Nat.le_div_iff_mul_le hVp).2 ?_
  have hRd:=Nat.mod_add_div R WB
  rw[hu]at hRd
  have e1:WB *R=WB *(R%WB)+WB *(WB *v1):=by rw[←Nat.mul_add,hRd]
  have e2:(WB-2) *V+2 *V=WB *V:=by
   rw[←Nat.add_mul]
   rfl
  have e3:WB *V=WB *v0+WB *(WB *v1):=by rw[hV,Nat.mul_add]
  have e4:2 *V=2 *v0+WB *(2 *v1):=by rw[hV,Nat.mul_add,Nat.mul_left_comm]
  have e5:WB *v0≤WB *WB:=Nat.mul_le_mul_left _ (Nat.le_of_lt hv0)
  have e6:WB *WB≤WB *(2 *v1):=Nat.mul_le_mul_left _ hv1
  generalize WB *(WB *v1)=P at *
  generalize WB *(2 *v1)=Q at *
  generalize(WB-2) *V=T at *
  omega
 omega
theorem three{l:List Nat}(h:l.length=3): ∃a b c,l=[a,b,c]:=by
 match l,h with
 |[a,b,c],_=>exact⟨a,b,c,rfl⟩
theorem val_three(a b c:Nat):val [a,b,c]=a+WB *(b+WB *c):=by simp[val]
theorem val_two(a b:Nat):val [a,b]=a+WB *b:=by simp[val]
theorem val_win(x R:Nat):val [x,R%WB,R/WB]=x+WB *R:=by
 rw[val_three,Nat.mod_add_div]
theorem padD_two_eq{R:Nat}(h:R<WB *WB):padD 2 R=[R%WB,R/WB]:=by
 show [R%WB,R/WB%WB]=_
 rw[Nat.mod_eq_of_lt ((Nat.div_lt_iff_lt_mul (by decide)).2 h)]
theorem WB3:WB^3=WB *WB *WB:=by decide
theorem win_ok{x R:Nat}(hx:x<WB)(hR:R<WB *WB):okW [x,R%WB,R/WB]:=
 okW_cons.2 ⟨hx,okW_cons.2 ⟨Nat.mod_lt _ (by decide),okW_cons.2 ⟨(Nat.div_lt_iff_lt_mul (by decide)).2 hR,okW_nil⟩⟩⟩
theorem prod_lt{g V:Nat}(hg:g<WB)(hV:V<WB *WB):g *V<WB^3:=by
 rw[WB3]
 have h1:g *V≤WB *V:=Nat.mul_le_mul_right _ (Nat.le_of_lt hg)
 have h2:WB *(V+1)≤WB *(WB *WB):=Nat.mul_le_mul_left _ hV
 rw[Nat.mul_add,Nat.mul_one]at h2
 have h3:WB *(WB *WB)=WB *WB *WB:=by rw[Nat.mul_assoc]
 have:0<WB:=by decide
 omega
theorem round_fit{x R V G:Nat}(hx:x<WB)(hR:R<V)(hV:V<WB *WB)(hG:G=(x+WB *R)/V):subW [x,R%WB,R/WB] (padD 3 (G *V)) 0=padD 3 ((x+WB *R)%V)∧subC [x,R%WB,R/WB] (padD 3 (G *V)) 0=0:=by
 have hVp:0<V:=Nat.lt_of_le_of_lt (Nat.zero_le _) hR
 have hGw:G<WB:=by rw[hG];exact digit_ltB hx hR
 have hRW:R<WB *WB:=Nat.lt_trans hR hV
 have hp:=prod_lt hGw hV
 have hl:([x,R%WB,R/WB]:List Nat).length=(padD 3 (G *V)).length:=by rw[padD_length];rfl
 have h1:=sub_val (c:=0) hl (win_ok hx hRW) (padD_ok _ _) (Nat.zero_le _)
 have hc:=subC_le [x,R%WB,R/WB] (padD 3 (G *V)) 0 (Nat.zero_le _)
 have hs:=subW_length (c:=0) hl
 have hlt:=val_lt (subW_ok [x,R%WB,R/WB] (padD 3 (G *V)) 0)
 rw[hs]at hlt
 rw[val_win,val_padD hp]at h1
 have hm:=Nat.mod_add_div (x+WB *R) V
 have hr:=Nat.mod_lt (x+WB *R) hVp
 rw[←hG,Nat.mul_comm V]at hm
 have hr3:(x+WB *R)%V<WB^3:=by
  have:WB *WB≤WB^3:=by decide
  omega
 have hc0:subC [x,R%WB,R/WB] (padD 3 (G *V)) 0=0:=by
  rcases Nat.lt_or_ge (subC [x,R%WB,R/WB] (padD 3 (G *V)) 0) 1 with h|h
  ·omega
  ·exfalso
   rw[show subC [x,R%WB,R/WB] (padD 3 (G *V)) 0=1 by omega]at h1
   simp only[List.length_cons,List.length_nil,Nat.mul_one,Nat.zero_add,Nat.reduceAdd]at h1 hlt
   omega
 refine⟨?_,hc0⟩
 rw[hc0]at h1
 refine val_inj (subW_ok _ _ _) (padD_ok _ _) (by rw[hs,padD_length];rfl) ?_
 rw[val_padD hr3]
 omega
theorem round_over{x R V G v1 v0:Nat}(hVd:V=v0+WB *v1)(hv0:v0<WB)(hv1:v1<WB)(hx:x<WB)(hR:R<V)(hG:G+1<WB)(hGd:G=(x+WB *R)/V):
  ∃s0 s1 s2,subW [x,R%WB,R/WB] (padD 3 ((G+1) *V)) 0=[s0,s1,s2]∧subC [x,R%WB,R/WB] (padD 3 ((G+1) *V)) 0=1∧s2<WB∧addC [s0,s1] [v0,v1] 0≤1∧addW [s0,s1] [v0,v1] 0++[(s2+addC [s0,s1] [v0,v1] 0)%WB]=padD 3 ((x+WB *R)%V):=by
 have hV:V<WB *WB:=by
  have:WB *(v1+1)≤WB *WB:=Nat.mul_le_mul_left _ hv1
  rw[Nat.mul_add,Nat.mul_one]at this
  omega
 have hVp:0<V:=Nat.lt_of_le_of_lt (Nat.zero_le _) hR
 have hRW:R<WB *WB:=Nat.lt_trans hR hV
 have hp:=prod_lt hG hV
 have hl:([x,R%WB,R/WB]:List Nat).length=(padD 3 ((G+1) *V)).length:=by rw[padD_length];rfl
 have h1:=sub_val (c:=0) hl (win_ok hx hRW) (padD_ok _ _) (Nat.zero_le _)
 have hc:=subC_le [x,R%WB,R/WB] (padD 3 ((G+1) *V)) 0 (Nat.zero_le _)
 have hs:=subW_length (c:=0) hl
 have hok:=subW_ok [x,R%WB,R/WB] (padD 3 ((G+1) *V)) 0
 have hlt:=val_lt hok
 rw[hs]at hlt
 rw[val_win,val_padD hp]at h1
 obtain⟨s0,s1,s2,hS⟩:=three (l:=subW [x,R%WB,R/WB] (padD 3 ((G+1) *V)) 0) hs
 rw[hS]at h1 hlt hok⊢
 have hm:=Nat.mod_add_div (x+WB *R) V
 have hr:=Nat.mod_lt (x+WB *R) hVp
 rw[←hGd,Nat.mul_comm V]at hm
 have hmul:(G+1) *V=G *V+V:=Nat.succ_mul _ _
 rw[hmul]at h1
 simp only[List.length_cons,List.length_nil,Nat.zero_add,Nat.reduceAdd,Nat.add_zero]at h1 hlt
 have hc1:subC [x,R%WB,R/WB] (padD 3 ((G+1) *V)) 0=1:=by
  rcases Nat.lt_or_ge (subC [x,R%WB,R/WB] (padD 3 ((G+1) *V)) 0) 1 with h|h
  ·exfalso
   rw[hmul]at h
   rw[show subC [x,R%WB,R/WB] (padD 3 (G *V+V)) 0=0 by omega]at h1
   omega
  ·omega
 rw[hmul]at hc1
 rw[hc1,Nat.mul_one]at h1
 obtain⟨k0,hok1⟩:=okW_cons.1 hok
 obtain⟨k1,hok2⟩:=okW_cons.1 hok1
 obtain⟨k2,_⟩:=okW_cons.1 hok2
 have ho2:okW [s0,s1]:=okW_cons.2 ⟨k0,okW_cons.2 ⟨k1,okW_nil⟩⟩
 have hov:okW [v0,v1]:=okW_cons.2 ⟨hv0,okW_cons.2 ⟨hv1,okW_nil⟩⟩
 have h2:=add_val (x:=[s0,s1]) (y:=[v0,v1]) (c:=0) rfl
 have hac:=addC_le (x:=[s0,s1]) (y:=[v0,v1]) (c:=0) ho2 hov (Nat.zero_le _)
 have hal:=addW_length (x:=[s0,s1]) (y:=[v0,v1]) (c:=0) rfl
 have hao:=addW_ok [s0,s1] [v0,v1] 0
 have halt:=val_lt hao
 rw[hal]at halt
 rw[val_two,val_two,←hVd]at h2
 rw[val_three]at h1
 simp only[List.length_cons,List.length_nil,Nat.zero_add,Nat.reduceAdd,Nat.add_zero]at h2 halt hal
 refine⟨s0,s1,s2,rfl,by rw[hmul];exact hc1,k2,hac, ?_⟩
 refine val_inj (okW_append.2 ⟨hao,okW_cons.2 ⟨Nat.mod_lt _ (by decide),okW_nil⟩⟩) (padD_ok _ _) (by rw[List.length_append,hal,padD_length];rfl) ?_
 have hr3:(x+WB *R)%V<WB^3:=by
  have:WB *WB≤WB^3:=by decide
  omega
 rw[val_padD hr3,val_append,hal,val_cons,val_nil]
 have W2:WB^2=WB *WB:=by decide
 rw[W2]at h2 halt⊢
 rw[WB3]at h1 hlt
 generalize addC [s0,s1] [v0,v1] 0=ca at *
 generalize val (addW [s0,s1] [v0,v1] 0)=A at *
 have e1:WB *(s1+WB *s2)=WB *s1+WB *WB *s2:=by rw[Nat.mul_add,Nat.mul_assoc]
 rw[e1]at h1
 have e2:A+WB *WB *(s2+ca)=WB *WB *WB+(x+WB *R)%V:=by rw[Nat.mul_add];omega
 have hrP:(x+WB *R)%V<WB *WB:=Nat.lt_trans hr hV
 have hPp:0<WB *WB:=by decide
 have e3:s2+ca=WB:=by
  have q1:(A+WB *WB *(s2+ca))/(WB *WB)=s2+ca:=by rw[Nat.add_mul_div_left _ _ hPp,Nat.div_eq_of_lt halt,Nat.zero_add]
  have q2:((x+WB *R)%V+WB *WB *WB)/(WB *WB)=WB:=by rw[Nat.add_mul_div_left _ _ hPp,Nat.div_eq_of_lt hrP,Nat.zero_add]
  rw[←q1,e2,Nat.add_comm,q2]
 rw[e3]at e2⊢
 rw[Nat.mod_self]
 simp
 omega
section
variable{P:Program}{o:Oper}{ρ:Operand→PV}{H:PH}
theorem PO_ncopy{x y:Operand}{t u e:TypeId}{ys:List GV}(ho:o.op= .call {callee:= .builtin .copy,args:=⟨[x,y]⟩,argTypes:=⟨[t,u]⟩})(ht:P.underlying t=some (.slice e))(hs:szB P e=some 1)(hx':ρ x= .nils)
  (hy:srcE H (ρ y)=some ys) (hy1: ∀id n off len cap,ρ y= .vw id n off len cap→ ∀n' e es,H.mu[id]? =some (.arr n' e es)→szB P e=some 1) (hys: ∀x∈ys,x.cells=[x]):
  PO P o ρ H (.g (.int .i64 0)) H:=by
 intro c ρr hr hx
 have h1:=hx x (by simp[ho,Op.operands,Call.operands])
 have h2:=hx y (by simp[ho,Op.operands,Call.operands])
 rw[hx']at h1
 generalize hv:ρr x=v at h1
 cases h1
 obtain⟨⟨yb,yc,hyv⟩,hsrc⟩:=src_cells hr h2 hy hy1 hys
 obtain⟨us,ul,urun,_⟩:=hsrc 0 (Nat.zero_le _)
 have hrun:(execOp ρr o).run P c.w= .ok (.value (.int .i64 0)) c.w:=by
  rw[hyv]at urun
  simp[execOp,ho,resolve,invoke,builtin,hv,hyv,Builtin.copy_,run_underlying ht,run_sizeOf hs,run_lenOf_sl,urun,goInt]
 unfold OpGoes
 rw[hrun]
 exact⟨c,rfl,hr,Evo.refl c, .g _ _ (.int _ _)⟩
end
theorem mulAdd_app: ∀(a b:List Nat) (y c:Nat),mulAddW (a++b) y c=mulAddW a y c++mulAddW b y (mulAddC a y c)∧mulAddC (a++b) y c=mulAddC b y (mulAddC a y c)
 |[],_,_,_=>⟨rfl,rfl⟩
 |x::a,b,y,c=>by
  have ih:=mulAdd_app a b y ((x *y+c)/WB)
  constructor
  ·show(x *y+c)%WB::mulAddW (a++b) y ((x *y+c)/WB)=_
   rw[ih.1]
   rfl
  ·show mulAddC (a++b) y ((x *y+c)/WB)=_
   rw[ih.2]
   rfl
theorem mulAdd_one0: ∀{l:List Nat},okW l→mulAddW l 1 0=l∧mulAddC l 1 0=0
 |[],_=>⟨rfl,rfl⟩
 |x::l,h=>by
  obtain⟨h1,h2⟩:=okW_cons.1 h
  have ih:=mulAdd_one0 h2
  have e1:(x *1+0)%WB=x:=by rw[Nat.mul_one,Nat.add_zero,Nat.mod_eq_of_lt h1]
  have e2:(x *1+0)/WB=0:=by rw[Nat.mul_one,Nat.add_zero,Nat.div_eq_of_lt h1]
  constructor
  ·show(x *1+0)%WB::mulAddW l 1 ((x *1+0)/WB)=_
   rw[e1,e2,ih.1]
  ·show mulAddC l 1 ((x *1+0)/WB)=_
   rw[e2,ih.2]
theorem inc_rest{l:List Nat}{k c:Nat}(h:okW l)(h0:mulAddC (l.take k) 1 c=0):mulAddW l 1 c=mulAddW (l.take k) 1 c++l.drop k∧mulAddC l 1 c=0:=by
 have h1:=mulAdd_app (l.take k) (l.drop k) 1 c
 rw[List.take_append_drop,h0]at h1
 have h2:=mulAdd_one0 (h.drop k)
 rw[h2.1,h2.2]at h1
 exact h1
theorem putL_keep{W xs us:List Nat}{o n:Nat}(h:(W.drop o).take n=xs)(hl:xs.length=n)(hu:us.length≤n):putL W o (us++xs.drop us.length)=putL W o us:=by
 unfold putL
 rw[←List.append_assoc,List.length_append,List.length_drop,List.append_assoc]
 congr 1
 rw[←h,List.drop_take,List.drop_drop]
 have e:o+(us.length+(((W.drop o).take n).length-us.length))=o+n:=by rw[h];omega
 rw[e,show o+n=(o+us.length)+(n-us.length) by omega,←List.drop_drop (i:=n-us.length) (j:=o+us.length),List.take_append_drop]
def isDig(c:UInt8):Prop:=48≤c.toNat∧c.toNat<58
def dval:List UInt8→Nat:=List.foldl (fun a c=>a *10+(c.toNat-48)) 0
theorem dval_snoc(l:List UInt8)(c:UInt8):dval (l++[c])=dval l *10+(c.toNat-48):=by
 unfold dval
 rw[List.foldl_append]
 rfl
theorem dval_take{l:List UInt8}{j:Nat}{c:UInt8}(h:l[j]? =some c):dval (l.take (j+1))=dval (l.take j) *10+(c.toNat-48):=by
 rw[List.take_add_one,h]
 exact dval_snoc _ _
theorem dval_lt: ∀(j:Nat) (l:List UInt8),(∀c∈l,isDig c)→j≤l.length→dval (l.take j)<10^j
 |0,l,_,_=>by simp[dval]
 |j+1,l,h,hj=>by
  have ih:=dval_lt j l h (by omega)
  have hc:l[j]? =some (l[j]'(by omega)):=List.getElem?_eq_getElem (by omega)
  have h1:=h _ (List.mem_of_getElem? hc)
  rw[dval_take hc]
  unfold isDig at h1
  rw[Nat.pow_succ]
  omega
theorem dval_all{l:List UInt8}(h: ∀c∈l,isDig c):dval l<10^l.length:=by
 have:=dval_lt l.length l h (Nat.le_refl _)
 rwa[List.take_length]at this
theorem dgrp{X di i d D:Nat}(h:X *10^i+di=D):X *10^(i+1)+(di *10+d)=D *10+d:=by
 rw[←h,Nat.pow_succ,←Nat.mul_assoc,Nat.add_mul]
 omega
theorem dgrp_lt{di i d:Nat}(h:di<10^i)(hd:d<10):di *10+d<10^(i+1):=by
 rw[Nat.pow_succ]
 omega
theorem dgrp_le{X di i D j:Nat}(h:X *10^i+di=D)(hD:D<10^j):X<10^j:=by
 have h1:X *1≤X *10^i:=Nat.mul_le_mul_left _ (Nat.pow_pos (by decide))
 omega
theorem pow10_le{a b:Nat}(h:a≤b):10^a≤10^b:=Nat.pow_le_pow_right (by decide) h
theorem pow10_word{i:Nat}(h:i≤19):10^i<WB:=Nat.lt_of_le_of_lt (pow10_le h) (by decide)
theorem dig_three{X:Nat}(h:X<10^40):(dig X).length≤3:=dig_length_le (Nat.lt_trans h (by decide))
theorem decodeN_dig{n b0 b1 b2 b3:Nat}(h:128≤b0):128≤(Lib.decodeN n b0 b1 b2 b3).1:=by
 unfold Lib.decodeN
 rw[if_neg (by omega)]
 split
 ·split
  ·rename_i h1;exact h1
  ·decide
 ·split
  ·split
   ·rename_i h1;exact Nat.le_trans (by decide) h1.1
   ·decide
  ·split
   ·split
    ·rename_i h1;exact Nat.le_trans (by decide) h1.1
    ·decide
   ·decide
theorem decode_dig{s:ByteArray}{pos:Nat}(h:pos<s.size)(hd:digB (Utf8.decode s pos).1=true): ∃c,s.data.toList[pos]? =some c∧isDig c∧(Utf8.decode s pos).2=1:=by
 have hl:pos<s.data.toList.length:=by rw[Array.length_toList];exact h
 rw[Lib.decode_N]at hd⊢
 have hg:s.data.toList.getD pos 0=s.data.toList[pos]:=by rw[List.getD_eq_getElem?_getD,List.getElem?_eq_getElem hl];rfl
 refine⟨s.data.toList[pos],List.getElem?_eq_getElem hl, ?_⟩
 rw[hg]at hd⊢
 generalize s.data.toList[pos]=c at hd⊢
 by_cases hc:c.toNat<128
 ·rw[Lib.decodeN_ascii _ _ _ _ _ hc]at hd⊢
  refine⟨?_,rfl⟩
  have:=of_decide_eq_true hd
  unfold isDig
  omega
 ·exfalso
  have h1:=decodeN_dig (n:=s.data.toList.length-pos) (b0:=c.toNat) (b1:=(s.data.toList.getD (pos+1) 0).toNat) (b2:=(s.data.toList.getD (pos+2) 0).toNat) (b3:=(s.data.toList.getD (pos+3) 0).toNat) (by omega)
  have:=of_decide_eq_true hd
  omega
theorem while_dig{s:ByteArray}: ∀(n pos:Nat),s.size-pos≤n→pos≤s.size→ ∀k,pos≤k→k<whileB digB s pos→ ∃c,s.data.toList[k]? =some c∧isDig c
 |n,pos,hn,hp,k,h1,h2=>by
  by_cases h:pos<s.size
  ·cases hd:digB (Utf8.decode s pos).1 with
   |false=>rw[whileB_no h hd]at h2;omega
   |true=>
    obtain⟨c,hc1,hc2,hw⟩:=decode_dig h hd
    rw[whileB_yes h hd,hw]at h2
    by_cases hk:k=pos
    ·subst hk;exact⟨c,hc1,hc2⟩
    ·match n,hn with
     |n+1,hn=>exact while_dig n (pos+1) (by omega) (by omega) k (by omega) h2
     |0,hn=>omega
  ·rw[whileB_end (by omega)]at h2;omega
theorem take_digs{l:List UInt8}{n:Nat}(h: ∀k,k<n→ ∃c,l[k]? =some c∧isDig c): ∀c∈l.take n,isDig c:=by
 intro c hc
 obtain⟨k,hk⟩:=List.getElem?_of_mem hc
 rw[List.getElem?_take]at hk
 split at hk
 ·rename_i h1
  obtain⟨c',h2,h3⟩:=h k h1
  rw[h2]at hk
  cases hk
  exact h3
 ·cases hk
theorem take_ne{l:List UInt8}{n:Nat}(h1:1≤n)(h2:n≤l.length): ∃c w,l.take n=c::w:=by
 cases h:l.take n with
 |nil=>have:=congrArg List.length h;rw[List.length_take,List.length_nil]at this;omega
 |cons c w=>exact⟨c,w,rfl⟩
theorem num_shape{s:ByteArray}(h0:0<s.size)(hd:digB (Utf8.decode s 0).1=true):(∃c w,(uptoB s (numB s)).data.toList=c::w∧ ∀x∈c::w,isDig x)∨(∃c w p,(uptoB s (numB s)).data.toList=(c::w)++46::p∧(∀x∈c::w,isDig x)∧(∀x∈p,isDig x)∧1≤p.length):=by
 have hn1:=whileB_pos h0 hd
 have hn2:=whileB_le digB s 0
 have hdg:=while_dig (s:=s) s.size 0 (by omega) (by omega)
 have hln:s.data.toList.length=s.size:=Array.length_toList
 have hnl:whileB digB s 0≤s.data.toList.length:=by rw[hln];exact hn2
 have hup: ∀n,(uptoB s n).data.toList=s.data.toList.take n:=fun n=>by
  simp[uptoB,ByteArray.data_extract,Array.toList_extract,List.extract]
 have hfr: ∀n,(fromB s n).data.toList=s.data.toList.drop n:=fun n=>by
  simp[fromB,ByteArray.data_extract,Array.toList_extract,List.extract]
  rw[←hln,List.take_of_length_le (by simp)]
 rw[hup]
 generalize hl:s.data.toList=l at *
 generalize hN:whileB digB s 0=n at *
 obtain⟨c,w,hcw⟩:=take_ne (l:=l) hn1 hnl
 have hcd: ∀x∈c::w,isDig x:=hcw▸take_digs fun k hk=>hdg k (by omega) hk
 unfold numB
 rw[hN]
 split
 ·rename_i hp
  split
  ·rename_i hk
   right
   have hfs:=fromB_size s (n+1)
   have hk2:=whileB_le digB (fromB s (n+1)) 0
   have hdg2:=while_dig (s:=fromB s (n+1)) (fromB s (n+1)).size 0 (by omega) (by omega)
   rw[hfr]at hdg2
   generalize whileB digB (fromB s (n+1)) 0=k at *
   have hlen:n<l.length:=by omega
   have h46:l[n]=46:=by
    rw[hfr,List.drop_eq_getElem_cons hlen]at hp
    have hp:=List.isPrefixOf_iff_prefix.1 hp
    exact((List.cons_prefix_cons.1 hp).1).symm
   refine⟨c,w,(l.drop (n+1)).take k, ?_,hcd,take_digs fun j hj=>hdg2 j (by omega) hj, ?_⟩
   ·rw[←hcw,←h46,show n+1+k=n+(1+k) by omega,List.take_add,List.drop_eq_getElem_cons hlen,Nat.add_comm 1 k,List.take_succ_cons]
   ·rw[List.length_take,List.length_drop];omega
  ·left
   exact⟨c,w,hcw,hcd⟩
 ·left
  exact⟨c,w,hcw,hcd⟩
section
variable{P:Program}{o:Oper}{ρ:Operand→PV}{H:PH}
end
section
variable{P:Program}{N:Nat}{Q:Exit→Env→PH→Prop}{env:Env}{H:PH}
theorem pat_of_ptr{c c2:Ctx}{B:List (List PV)}{cs:List GV}{Tk:List (TypeId×Nat)}{M:List MO}{nt nm:Nat}(hr:Rel P c H)(hE:Evo c c2)(hr2:Rel P c2 ⟨B++[cs.map PV.g],Tk,M⟩)(hb:H.bx.length≤B.length){v:Value}(h:RV c2 (.ptr B.length 0) v):RV (c2.cut B.length nt nm) (.pat cs) v:=by
 cases h with
 |ptr _ _ blk hs=>
 obtain⟨vals,hsz,hcell,hv⟩:=loadCells_box hr2 hs (show(B++[cs.map PV.g])[B.length]? =some (cs.map PV.g) by simp)
 rw[List.length_map]at hsz
 have hmem:blk∈c2.σ:=List.mem_of_getElem? hs
 obtain⟨n,hn,hn'⟩:=hE.sig
 have hnew:c.w.heap.size≤blk:=by
  rw[hn,List.getElem?_append_right (by rw[hr.len];exact hb)]at hs
  exact hn' blk (List.mem_of_getElem? hs)
 have hhid: ∀p,¬c2.hid blk p:=fun p hp=>by
  rw[hE.hid]at hp
  have:=hr.hidlt blk p hp
  omega
 have hnot:blk∉c2.σ.take B.length:=by
  intro hm
  obtain⟨i,hi⟩:=List.getElem?_of_mem hm
  rw[List.getElem?_take]at hi
  split at hi
  ·rename_i hlt
   obtain⟨l1,e1⟩:=List.getElem?_eq_some_iff.1 hi
   obtain⟨l2,e2⟩:=List.getElem?_eq_some_iff.1 hs
   exact(List.pairwise_iff_getElem.1 hr2.nd) i B.length l1 l2 hlt (e1.trans e2.symm)
  ·cases hi
 refine .pat cs ⟨blk,0,none⟩ (fun k=>vals.getD k undef) rfl (fun k hk=>⟨?_,⟨hhid _,hnot,fun t ht lv e=> ?_,fun t ht lv e=> ?_⟩, ?_⟩) (fun j g hj=> ?_)
 ·have:=hcell k (by omega)
  show c2.w.cell? ((⟨blk,0,none⟩:Addr).add k)=_
  rw[add_eq _ _ rfl,Nat.zero_add]
  exact this
 ·exact absurd (e▸hmem) (hr2.st t (List.mem_of_mem_take ht) lv)
 ·exact absurd (e▸hmem) (hr2.ms t (List.mem_of_mem_take ht) lv)
 ·exact(hv k (.g (cs[k]'hk)) (by rw[List.getElem?_map,List.getElem?_eq_getElem hk];rfl)).2
 ·have h1:=(hv j (.g g) (by rw[List.getElem?_map,hj];rfl)).1
  cases h1 with
  |g _ _ h=>exact h.cut
theorem PW_cutp{x y:Code}(E:List (Nat×PV))(t:Nat)(cs:List GV)(H':PH)(hf:fitB H H' E=true)(h1:PW P N x (Next (fun env' H1=>EnvLe env' (slots E)∧env' t= .ptr H'.bx.length 0∧HLe P H1 ⟨H'.bx++[cs.map PV.g],H'.tk,H'.mu⟩) Q) env H)
  (h2:PW P N y Q (upd (slots E) (some t) (.pat cs)) H'):PW P N (.seq x y) Q env H:=by
 intro c a hr he
 refine wp_seq (wp_mono (h1 c a hr he) ?_)
 rintro e a' w' ⟨c',env',H1,q,rfl,hr',hE,he'⟩
 cases e<;>simp only[Next]at q<;>simp only[Exit.then]
 case normal=>
  obtain⟨q1,q2,q3⟩:=q
  have hr3:=q3 c' hr'
  have hd:Drops P ⟨H'.bx++[cs.map PV.g],H'.tk,H'.mu⟩ H':=Drops.mk [cs.map PV.g] [] [] (by simp)
  have hf2:=hf
  unfold fitB at hf
  simp only[Bool.and_eq_true]at hf
  obtain⟨f1,f2,f3,f4,f5⟩:=hf
  have hle:=q1.er he'
  have hcut:Rel P (c'.cut H'.bx.length H'.tk.length H'.mu.length) H':=hr3.cut ⟨_,rfl⟩ ⟨[],by simp⟩ ⟨[],by simp⟩ (refsOkB_spec f5)
  have hEc:Evo c (c'.cut H'.bx.length H'.tk.length H'.mu.length):=hE.cut (by rw[hr.len];exact Nat.le_of_ble_eq_true f1) (by have:=congrArg List.length hr.tk;simp at this;have:=Nat.le_of_ble_eq_true f2;omega) (by rw[hr.mlen];exact Nat.le_of_ble_eq_true f3)
  have hs:=he'.slot t
  rw[q2]at hs
  have hp:=pat_of_ptr (nt:=H'.tk.length) (nm:=H'.mu.length) hr hE hr3 (Nat.le_of_ble_eq_true f1) hs
  have hER:ER (c'.cut H'.bx.length H'.tk.length H'.mu.length) N (upd (slots E) (some t) (.pat cs)) a':=by
   refine⟨hle.defers,hle.size,fun u=> ?_⟩
   simp only[upd]
   cases hu:Nat.beq u t with
   |true=>rw[cond_true,Nat.eq_of_beq_eq_true hu];exact hp
   |false=>rw[cond_false];exact(hle.slot u).cut (slots_refs f4 u)
  have:=h2 _ a' hcut hER
  exact wp_mono this fun _ _ _ h=>QR.mono hEc (fun _ _ _ h=>h) h
 all_goals exact⟨c',env',H1,q,rfl,hr',hE,he'⟩
end
section
variable{P:Program}{o:Oper}{ρ:Operand→PV}{H:PH}
theorem PO_slice3{t e:TypeId}{x:Operand}{hi mx:Operand}{es:List GV}{k1 k2:IntKind}{n1 n2:Int}(ho:o.op= .slice t x none (some hi) (some mx)){z:Nat}(ht:P.underlying t=some (.slice e))(hs:szB P e=some z)(hx:ρ x= .g (.sl es))(h1:ρ hi= .g (.int k1 n1))(h2:ρ mx= .g (.int k2 n2))(e1:n1=es.length)(e2:n2=es.length):PO P o ρ H (.lit es) H:=by
 subst e1
 subst e2
 refine PO_val fun c ρr hr hxx=> ?_
 have r1:=hxx x (by simp[ho,Op.operands])
 have r2:=hxx hi (by simp[ho,Op.operands])
 have r3:=hxx mx (by simp[ho,Op.operands])
 rw[hx]at r1
 rw[h1]at r2
 rw[h2]at r3
 have i2:=RV_int r2
 have i3:=RV_int r3
 cases r1 with
 |g _ _ hrg=>
 generalize hv:ρr x=v at hrg
 cases hrg with
 |nil=>
  refine⟨.slice none 0 0, ?_, .lit [] none .nil⟩
  simp only[execOp,ho,hv]
  simp[Instr.sliceAt,Instr.slice,run_underlying ht,run_sizeOf hs,Instr.sliceBounds,Instr.sliceBound,asIntOf,i2,i3]
 |sl _ a cap size f ha hc hm hsz hf h=>
  have hle:0≤(es.length:Int)∧(es.length:Int)≤(cap:Int):=⟨by omega,by omega⟩
  refine⟨.slice (some a) es.length es.length, ?_, .lit es (some a) (.sl es a es.length size f ha (Nat.le_refl _) (Nat.le_trans hc hm) hsz hf h)⟩
  simp only[execOp,ho,hv]
  by_cases h0:es.length=0
  ·simp[Instr.sliceAt,Instr.slice,run_underlying ht,run_sizeOf hs,Instr.sliceBounds,Instr.sliceBound,asIntOf,hle,h0,i2,i3]
  ·have hsp:=ha (fun q=>h0 (by rw[q];rfl))
   have hadd:a.add 0=a:=by rw[add_eq a 0 hsp,Nat.add_zero];cases a;simp at hsp;subst hsp;rfl
   simp[Instr.sliceAt,Instr.slice,run_underlying ht,run_sizeOf hs,Instr.sliceBounds,Instr.sliceBound,asIntOf,hle,h0,hadd,i2,i3]
   exact fun hlt=>absurd hc (by omega)
end
theorem RV.chg{c c':Ctx}{nb nt nm:Nat}(hw:c'.w=c.w)(hs: ∀b p,c.stab b p→c'.stab b p)(hσ: ∀i,i<nb→c'.σ[i]? =c.σ[i]?)(hτ:c'.τ=c.τ)(hμ:c'.μ=c.μ){p:PV}{v:Value}(h:RV c p v)(hp:RefsIn nb nt nm p):RV c' p v:=by
 have hg: ∀{g:GV} {v:Value},RG c.w c.stab g v→RG c'.w c'.stab g v:=fun h=>h.mono fun _ _ _ hst hc=>⟨by rw[hw];exact hc,hs _ _ hst⟩
 induction h with
 |g x v h=>exact .g _ _ (hg h)
 |own es id v t h ht hs' hl hv=>exact .own es id v t (hg h) (by rw[hτ];exact ht) hs' hl hv
 |ptr b off blk h=>
  cases hp with
  |ptr _ _ hb=>exact .ptr _ _ _ (by rw[hσ _ hb];exact h)
 |nilp=>exact .nilp
 |nils=>exact .nils
 |pat cs a f ha hf h=>exact .pat cs a f ha (fun k hk=>⟨by rw[hw];exact(hf k hk).1,hs _ _ (hf k hk).2.1,(hf k hk).2.2⟩) (fun j g hj=>hg (h j g hj))
 |clo fn ps qs us vs hpl hq _ _ h1 h2=>
  cases hp with
  |clo _ _ _ e1 e2=>exact .clo fn ps qs us vs hpl hq (fun i p v hp' hv=>h1 i p v hp' hv (e1 p (List.mem_of_getElem? hp'))) (fun i p v hp' hv=>h2 i p v hp' hv (e2 p (List.mem_of_getElem? hp')))
 |agg cs vs hl h1 _ ih=>
  cases hp with
  |agg _ e=>exact .agg cs vs hl h1 fun i p v hp' hv=>ih i p v hp' hv (e p (List.mem_of_getElem? hp'))
 |tuple cs vs hl _ ih=>
  cases hp with
  |tuple _ e=>exact .tuple cs vs hl fun i p v hp' hv=>ih i p v hp' hv (e p (List.mem_of_getElem? hp'))
 |lit es a h=>exact .lit es a (hg h)
 |mar id n v t ht hn h1 hv=>exact .mar id n v t (by rw[hμ];exact ht) hn h1 hv
 |mref id n i off v t ht hn h1 hv=>exact .mref id n i off v t (by rw[hμ];exact ht) hn h1 hv
 |mp id v t ht h1 hv=>exact .mp id v t (by rw[hμ];exact ht) h1 hv
 |vw id n off len cap g t ht hn h1 h2 hv=>exact .vw id n off len cap g t (by rw[hμ];exact ht) hn h1 h2 hv
 |glob g off=>exact .glob g off
 |kv g off v h hs' h1=>exact .kv g off v (by rw[hw];exact h) (hs _ _ hs') h1
 |ifc t p v _ ih=>
  cases hp with
  |ifc _ _ hb=>exact .ifc t p v (ih hb)
 |any v=>exact .any v
section
variable{P:Program}{N:Nat}{Q:Exit→Env→PH→Prop}{env:Env}
theorem pat_of_fst{c c2:Ctx}{cs:List GV}{ds:List PV}(hr:Rel P c ⟨[],[],[]⟩)(hE:Evo c c2)(hr2:Rel P c2 ⟨[cs.map PV.g,ds],[],[]⟩){b0 b1:Nat}(hs:c2.σ=[b0,b1]){v:Value}(h:RV c2 (.ptr 0 0) v):RV ⟨[b1],c2.τ,c2.μ,c2.hid,c2.w⟩ (.pat cs) v:=by
 cases h with
 |ptr _ _ blk hk=>
 obtain⟨vals,hsz,hcell,hv⟩:=loadCells_box hr2 hk (show([cs.map PV.g,ds]:List (List PV))[0]? =some (cs.map PV.g)from rfl)
 rw[List.length_map]at hsz
 have hb0:blk=b0:=by rw[hs]at hk;exact(Option.some.inj hk).symm
 subst hb0
 have hmem:blk∈c2.σ:=by rw[hs];simp
 obtain⟨n,hn,hn'⟩:=hE.sig
 have hc0:c.σ=[]:=List.eq_nil_of_length_eq_zero hr.len
 have hnew:c.w.heap.size≤blk:=hn' blk (by rw[hc0,List.nil_append]at hn;rw[←hn];exact hmem)
 have hhid: ∀p,¬c2.hid blk p:=fun p hp=>by
  rw[hE.hid]at hp
  have:=hr.hidlt blk p hp
  omega
 have hnd:=hr2.nd
 rw[hs]at hnd
 have hne:blk∉[b1]:=(List.nodup_cons.1 hnd).1
 have hsub: ∀b p,c2.stab b p→Ctx.stab ⟨[b1],c2.τ,c2.μ,c2.hid,c2.w⟩ b p:=fun b p h=>⟨h.1,fun hm=>h.2.1 (by rw[hs];exact List.mem_cons_of_mem _ hm),h.2.2.1,h.2.2.2⟩
 refine .pat cs ⟨blk,0,none⟩ (fun k=>vals.getD k undef) rfl (fun k hk=>⟨?_,⟨hhid _,hne,fun t ht lv e=> ?_,fun t ht lv e=> ?_⟩, ?_⟩) (fun j g hj=> ?_)
 ·have:=hcell k (by omega)
  show c2.w.cell? ((⟨blk,0,none⟩:Addr).add k)=_
  rw[add_eq _ _ rfl,Nat.zero_add]
  exact this
 ·exact absurd (e▸hmem) (hr2.st t ht lv)
 ·exact absurd (e▸hmem) (hr2.ms t ht lv)
 ·exact(hv k (.g (cs[k]'hk)) (by rw[List.getElem?_map,List.getElem?_eq_getElem hk];rfl)).2
 ·have h1:=(hv j (.g g) (by rw[List.getElem?_map,hj];rfl)).1
  cases h1 with
  |g _ _ h=>exact h.mono fun _ _ _ hst hc=>⟨hc,hsub _ _ hst⟩
theorem Rel.snd{c:Ctx}{cs ds:List PV}(hr:Rel P c ⟨[cs,ds],[],[]⟩){b0 b1:Nat}(hs:c.σ=[b0,b1])(hd: ∀p∈ds,RefsIn 0 0 0 p):Rel P ⟨[b1],c.τ,c.μ,c.hid,c.w⟩ ⟨[ds],[],[]⟩:=by
 have hsub: ∀b p,c.stab b p→Ctx.stab ⟨[b1],c.τ,c.μ,c.hid,c.w⟩ b p:=fun b p h=>⟨h.1,fun hm=>h.2.1 (by rw[hs];exact List.mem_cons_of_mem _ hm),h.2.2.1,h.2.2.2⟩
 have hτ:c.τ=[]:=List.map_eq_nil_iff.1 hr.tk
 have hμ:c.μ=[]:=List.eq_nil_of_length_eq_zero hr.mlen
 refine{len:=rfl,bx:= ?_,tk:=hr.tk,tb:=hr.tb,nd:=List.nodup_cons.2 ⟨by simp,List.nodup_nil⟩,td:=hr.td,st:=fun t ht=>absurd ht (by rw[show c.τ=[]from hτ];simp),hidlt:=hr.hidlt,thid:=hr.thid,shid:=fun b hb=>hr.shid b (by rw[hs];exact List.mem_cons_of_mem _ hb),dead:=hr.dead,mlen:=hr.mlen,mu:=fun i t o h=>absurd h (by rw[show c.μ=[]from hμ];simp),mlt:=hr.mlt,md:=hr.md,ms:=fun t ht=>absurd ht (by rw[show c.μ=[]from hμ];simp),mt:=hr.mt,mhid:=hr.mhid,gl:=hr.gl.of_stab rfl hsub}
 intro i b xs hi hx
 match i,hi,hx with
 |0,hi,hx=>
  cases hi
  cases hx
  obtain⟨vals,T,h1,h2,h3⟩:=hr.bx 1 b1 ds (by rw[hs];rfl) rfl
  exact⟨vals,T,h1,h2,fun j p v hp hv=>⟨RV.chg (c:=c) (c':=⟨[b1],c.τ,c.μ,c.hid,c.w⟩) (nb:=0) (nt:=0) (nm:=0) rfl hsub (fun i hi=>absurd hi (Nat.not_lt_zero _)) rfl rfl (h3 j p v hp hv).1 (hd p (List.mem_of_getElem? hp)),(h3 j p v hp hv).2⟩⟩
 |i+1,hi,_=>simp at hi
theorem ptr_snd{c:Ctx}{b0 b1:Nat}(hs:c.σ=[b0,b1]){v:Value}(h:RV c (.ptr 1 0) v):RV ⟨[b1],c.τ,c.μ,c.hid,c.w⟩ (.ptr 0 0) v:=by
 cases h with
 |ptr _ _ blk hk=>exact .ptr 0 0 blk (by rw[hs]at hk;exact hk)
theorem PW_cutp2{x y:Code}(E:List (Nat×PV))(t u:Nat)(cs:List GV)(ds:List PV)(hE:refsOkL 0 0 0 (E.map (·.2))=true)(hds:refsOkL 0 0 0 ds=true)(h1:PW P N x (Next (fun env' H1=>EnvLe env' (slots E)∧env' t= .ptr 0 0∧env' u= .ptr 1 0∧HLe P H1 ⟨[cs.map PV.g,ds],[],[]⟩) Q) env ⟨[],[],[]⟩)
  (h2:PW P N y Q (upd (upd (slots E) (some t) (.pat cs)) (some u) (.ptr 0 0)) ⟨[ds],[],[]⟩):PW P N (.seq x y) Q env ⟨[],[],[]⟩:=by
 intro c a hr he
 refine wp_seq (wp_mono (h1 c a hr he) ?_)
 rintro e a' w' ⟨c',env',H1,q,rfl,hr',hEv,he'⟩
 cases e<;>simp only[Next]at q<;>simp only[Exit.then]
 case normal=>
  obtain⟨q1,q2,q3,q4⟩:=q
  have hr3:=q4 c' hr'
  have hl:=hr3.len
  have hl:c'.σ.length=2:=hl
  obtain⟨b0,b1,hs⟩: ∃b0 b1,c'.σ=[b0,b1]:=by
   generalize c'.σ=l at hl
   match l,hl with
   |[b0,b1],_=>exact⟨b0,b1,rfl⟩
  have hle:=q1.er he'
  have hc0:c.σ=[]:=List.eq_nil_of_length_eq_zero hr.len
  have ht0:c.τ=[]:=List.map_eq_nil_iff.1 hr.tk
  have hm0:c.μ=[]:=List.eq_nil_of_length_eq_zero hr.mlen
  have hsub: ∀b p,c'.stab b p→Ctx.stab ⟨[b1],c'.τ,c'.μ,c'.hid,c'.w⟩ b p:=fun b p h=>⟨h.1,fun hm=>h.2.1 (by rw[hs];exact List.mem_cons_of_mem _ hm),h.2.2.1,h.2.2.2⟩
  have hd:=refsOkL_spec hds
  have hr4:=hr3.snd hs hd
  obtain⟨n,hn,hn'⟩:=hEv.sig
  rw[hc0,List.nil_append]at hn
  have hb1:c.w.heap.size≤b1:=hn' b1 (by rw[←hn,hs];simp)
  have hE4:Evo c ⟨[b1],c'.τ,c'.μ,c'.hid,c'.w⟩:=⟨hEv.os,hEv.tape,hEv.output,hEv.size,hEv.hid,⟨[b1],by rw[hc0];rfl,fun b hb=>by rw[List.mem_singleton.1 hb];exact hb1⟩,fun id t h=>(by rw[ht0]at h;simp at h),fun id t h=>(by rw[hm0]at h;simp at h),hEv.munew,hEv.toknew,fun x v hx hst hc=>⟨(hEv.keep x v hx hst hc).1,hsub _ _ (hEv.keep x v hx hst hc).2⟩,hEv.frame⟩
  have st:=he'.slot t
  rw[q2]at st
  have su:=he'.slot u
  rw[q3]at su
  have hp:=pat_of_fst hr hEv hr3 hs st
  have hER:ER ⟨[b1],c'.τ,c'.μ,c'.hid,c'.w⟩ N (upd (upd (slots E) (some t) (.pat cs)) (some u) (.ptr 0 0)) a':=by
   refine⟨hle.defers,hle.size,fun z=> ?_⟩
   simp only[upd]
   cases hu:Nat.beq z u with
   |true=>
    rw[cond_true,Nat.eq_of_beq_eq_true hu]
    exact ptr_snd hs su
   |false=>
    rw[cond_false]
    cases hz:Nat.beq z t with
    |true=>rw[cond_true,Nat.eq_of_beq_eq_true hz];exact hp
    |false=>
     rw[cond_false]
     exact RV.chg (c:=c') (c':=⟨[b1],c'.τ,c'.μ,c'.hid,c'.w⟩) (nb:=0) (nt:=0) (nm:=0) rfl hsub (fun i hi=>absurd hi (Nat.not_lt_zero _)) rfl rfl (hle.slot z) (slots_refs hE z)
  have:=h2 _ a' hr4 hER
  exact wp_mono this fun _ _ _ h=>QR.mono hE4 (fun _ _ _ h=>h) h
 all_goals exact⟨c',env',H1,q,rfl,hr',hEv,he'⟩
end
end Go.Pure